/- Bundled: what the texts SI SB SC UM UU SJ SK say one after another. -/
import Derived.Test.YtegkdnfeceomdaaGreatKC6
import Derived.Test.YtegkdnfeceomdaaGreatKC5
import Derived.Test.YtegkdnfeceomdaaGreatKC3
import Derived.Test.YtegkdnfeceomdaaGreatKC7
import Derived.Maps.RangeRun
import Derived.ChangeKeysEq
import Derived.Laws.StructEq
set_option linter.unusedSimpArgs false
set_option linter.unusedVariables false
/- Contracts of layer 8: the error of a case. Printed by gen_si.py. -/
namespace Go.Proofs.YtegkdnfeceomdaaGreat
open Go.RowKit Go.Hs
attribute [local irreducible] World.setCell World.alloc
theorem fn_cover : FnOK 78 := fun args w => by simp [go_sem]
theorem fn_claimD : FnOK 79 := fun args w => by simp [go_sem]
theorem allcov (A : CaseA) (c : DCas) (w : World) (hm : CaseM w A c) (hs : 1 ≤ c.soc ∧ c.soc ≤ 3) (ho : 1 ≤ c.bk.owners ∧ c.bk.owners ≤ 4) :
    Calls Tryz.prog 84 #[.slice A.a3 c.covs.length A.c3, .func (.func 78) #[A.v c] #[]] w fun e w' => e = .returned (.bool (c.covs.all (covB c))) ∧ Ext w w' := by
  have hl := hm.l3.2
  have h := allx_cov 78 fn_cover #[A.v c] #[] A.a3 A.c3 (c.covs.map Cov.c) (fun i => covB c (c.covs.getD i default)) w (by simp; omega) hm.covs
    (fun i hi w1 hx => by
      have hi' : i < c.covs.length := by simpa using hi
      have e1 : (c.covs.map Cov.c)[i] = (c.covs[i]).c := by simp
      rw [e1]; refine (cover_d A c c.covs[i] w1 (hm.ext hx) hs ho).mono ?_
      rintro e w2 ⟨rfl, h2⟩; exact ⟨ret_bool (by simp [hi']), h2⟩)
  rw [List.length_map, all_list] at h; exact h
theorem allclm (A : CaseA) (c : DCas) (w : World) (hm : CaseM w A c) (hs : 1 ≤ c.soc ∧ c.soc ≤ 3) :
    Calls Tryz.prog 72 #[.slice A.a4 c.clms.length A.c4, .func (.func 79) #[A.v c] #[]] w fun e w' => e = .returned (.bool (c.clms.all (clmB c))) ∧ Ext w w' := by
  have hl := hm.l4.2
  have h := allx_clm 79 fn_claimD #[A.v c] #[] A.a4 A.c4 (c.clms.map Clm.c) (fun i => clmB c (c.clms.getD i default)) w (by simp; omega) hm.clms
    (fun i hi w1 hx => by
      have hi' : i < c.clms.length := by simpa using hi
      have e1 : (c.clms.map Clm.c)[i] = (c.clms[i]).c := by simp
      rw [e1]; refine (claim_d A c c.clms[i] w1 hs).mono ?_
      rintro e w2 ⟨rfl, h2⟩; exact ⟨ret_bool (by simp [hi']), h2⟩)
  rw [List.length_map, all_list] at h; exact h
set_option maxRecDepth 100000 in
set_option maxHeartbeats 4000000 in
theorem checkC_d (A : CaseA) (c : DCas) (w : World) (hm : CaseM w A c) :
    Calls Tryz.prog 29 #[A.v c] w fun e w' => e = .returned (.int .i64 (caseD c)) ∧ Ext w w' := by
  have HE : Hid (caseD c = if bookE c.bk ≠ 0 then bookE c.bk else if 3 < c.soc ∨ 5 < c.covs.length ∨ 5 < c.clms.length then 3 else if decide (1 ≤ c.soc) && (dayB c.bk c.day && (numberB c.bk c.parcel && (ofR c.llo c.lhi 100 && (c.covs.all (covB c) && c.clms.all (clmB c))))) then (if 2000 < manyL 2000 (rngsD c) then 3 else 0) else 1) := rfl; have HBK := Lib.hid (fun W (hx : Ext w W) => check_p c.bk (A.b c) W ((hm.ext hx).bk)); have HDY := Lib.hid (fun W => isDay_d A c c.day W); have HPA := Lib.hid (fun W (hx : Ext w W) => isPar_d A c c.parcel W (hm.ext hx)); have HOF := Lib.hid (fun W => of_d c.llo c.lhi 100 W); have HAC := Lib.hid (fun (hs : 1 ≤ c.soc ∧ c.soc ≤ 3) (ho : 1 ≤ c.bk.owners ∧ c.bk.owners ≤ 4) W (hx : Ext w W) => allcov A c W (hm.ext hx) hs ho); have HAM := Lib.hid (fun (hs : 1 ≤ c.soc ∧ c.soc ≤ 3) W (hx : Ext w W) => allclm A c W (hm.ext hx) hs); have HRN := Lib.hid (fun W (hx : Ext w W) => ranges_d A c W (hm.ext hx)); have HOW : Hid (bookE c.bk = 0 → 1 ≤ c.bk.owners ∧ c.bk.owners ≤ 4) := Lib.hid (fun h => (bks_of h).owners); have HOK : Hid (bookE c.bk = 0 → ¬ (3 < c.soc ∨ 5 < c.covs.length ∨ 5 < c.clms.length) → 1 ≤ c.soc → dayB c.bk c.day = true → numberB c.bk c.parcel = true → ofR c.llo c.lhi 100 = true → c.covs.all (covB c) = true → c.clms.all (clmB c) = true → ∀ r ∈ rngsD c, 0 ≤ r.1 ∧ r.1 ≤ r.2 ∧ r.2 ≤ 100) := Lib.hid (fun h0 h1 h2 h3 h4 h5 h6 h7 => rngsD_ok ⟨bks_of h0, by omega, by omega, by omega, dayB_iff.1 h3, h4, ofR_iff.1 h5, List.all_eq_true.1 h6, List.all_eq_true.1 h7⟩); have HLN : Hid ((rngsD c).length = c.bk.ents.length + c.bk.pars.length + c.covs.length + 1) := Lib.hid (rngsD_len c); have hl1 := hm.l1.2; have hl2 := hm.l2.2; clear hm; generalize caseD c = r at *; generalize bookE c.bk = eb at *; generalize c.covs.all (covB c) = b5 at *; generalize c.clms.all (clmB c) = b6 at *; generalize rngsD c = rs at *; generalize dayB c.bk c.day = b2 at *; generalize numberB c.bk c.parcel = b3 at *; generalize ofR c.llo c.lhi 100 = b4 at *; unfold CaseA.b bkV CaseA.v caseV at *
  obtain ⟨a1, c1, a2, c2, a3, c3, a4, c4⟩ := A; simp only at *; generalize c.bk.pars.length = n1 at *; generalize c.bk.ents.length = n2 at *; generalize c.covs.length = n3 at *; generalize c.clms.length = n4 at *; generalize c.bk.last = last at *; generalize c.bk.owners = owners at *; generalize c.soc = soc at *; generalize c.day = day at *; generalize c.parcel = parcel at *; generalize c.llo = llo at *; generalize c.lhi = lhi at *; by_cases h0 : eb = 0
  · have hb : (eb != 0) = false := by rw [h0]; rfl
    have H0 := Lib.hid h0; have how := HOW.out h0; replace HE : Hid (r = if 3 < soc ∨ 5 < n3 ∨ 5 < n4 then 3 else if decide (1 ≤ soc) && (b2 && (b3 && (b4 && (b5 && b6)))) then (if 2000 < manyL 2000 rs then 3 else 0) else 1) := Lib.hid (by rw [HE.out, if_neg (fun h => h H0.out)]); have HOK := Lib.hid (HOK.out h0); clear h0; by_cases h1 : 3 < soc
    · have d1 : decide ((3 : Int) < soc) = true := decide_eq_true (by omega); obtain rfl : r = 3 := by rw [HE.out, if_pos (.inl h1)]
      clear HE; go_enter Tryz.func29, Tryz.ntmps29
      (go_wp2_with fail); obtain ⟨W0, hW⟩ : ∃ W, W = (w.alloc (.cells #[.int .i64 last, .int .i64 owners, .slice a1 n1 c1, .slice a2 n2 c2, .int .i64 soc, .int .i64 day, .int .i64 parcel, .slice a3 n3 c3, .int .i64 llo, .int .i64 lhi, .slice a4 n4 c4] 57)) := ⟨_, rfl⟩; have X : Ext w W0 := by subst hW; (repeat (first | exact Ext.refl _ | with_reducible (first | assumption | refine Ext.drew ?_ | refine Ext.alloc ?_ _ | refine Ext.drewN ?_ _ | refine Ext.setCell ?_ (by omega) _ | refine Ext.trans ?_ (by assumption))))
      have HS : Hid (∀ w', Ext W0 w' → (w'.cell? ⟨w.heap.size, 0, none⟩ = some (.int .i64 last) ∧ w'.cell? ⟨w.heap.size, 1, none⟩ = some (.int .i64 owners) ∧ w'.cell? ⟨w.heap.size, 2, none⟩ = some (.slice a1 n1 c1) ∧ w'.cell? ⟨w.heap.size, 3, none⟩ = some (.slice a2 n2 c2) ∧ w'.cell? ⟨w.heap.size, 4, none⟩ = some (.int .i64 soc) ∧ w'.cell? ⟨w.heap.size, 5, none⟩ = some (.int .i64 day) ∧ w'.cell? ⟨w.heap.size, 6, none⟩ = some (.int .i64 parcel) ∧ w'.cell? ⟨w.heap.size, 7, none⟩ = some (.slice a3 n3 c3) ∧ w'.cell? ⟨w.heap.size, 8, none⟩ = some (.int .i64 llo) ∧ w'.cell? ⟨w.heap.size, 9, none⟩ = some (.int .i64 lhi) ∧ w'.cell? ⟨w.heap.size, 10, none⟩ = some (.slice a4 n4 c4)) ∧ Ext W0 w') := Lib.hid (fun w' hx => ⟨⟨hx.keep (by subst hW; simp [go_sem]), hx.keep (by subst hW; simp [go_sem]), hx.keep (by subst hW; simp [go_sem]), hx.keep (by subst hW; simp [go_sem]), hx.keep (by subst hW; simp [go_sem]), hx.keep (by subst hW; simp [go_sem]), hx.keep (by subst hW; simp [go_sem]), hx.keep (by subst hW; simp [go_sem]), hx.keep (by subst hW; simp [go_sem]), hx.keep (by subst hW; simp [go_sem]), hx.keep (by subst hW; simp [go_sem])⟩, hx⟩); have HSf : Hid (∀ w', Ext W0 w' → ∀ o, w'.frozen? ⟨w.heap.size, o, none⟩ = false) := Lib.hid (fun w' hx o => (hx.frozen (by subst hW; simp)).trans (by subst hW; simp [go_sem])); have HSz : w.heap.size + 1 ≤ W0.heap.size := by subst hW; simp
      rw [← hW]; clear hW; obtain ⟨⟨q0, q1, q2, q3, q4, q5, q6, q7, q8, q9, q10⟩, -⟩ := HS.out W0 (Ext.refl _); clear HS HSf HSz; go_region; have Y : Ext W0 W0.drew := (Ext.refl W0).drew; replace X := X.trans Y; replace q0 := Y.keep q0; replace q1 := Y.keep q1; replace q2 := Y.keep q2; replace q3 := Y.keep q3; replace q4 := Y.keep q4; replace q5 := Y.keep q5; replace q6 := Y.keep q6; replace q7 := Y.keep q7; replace q8 := Y.keep q8; replace q9 := Y.keep q9; replace q10 := Y.keep q10; clear Y; generalize W0.drew = W at *; (go_wp2_with fail); (with_reducible refine (HBK.out _ X).mono ?_); rintro e w1 ⟨rfl, hx⟩; have hy : Ext W w1 := by (repeat (first | exact Ext.refl _ | with_reducible (first | assumption | refine Ext.drew ?_ | refine Ext.alloc ?_ _ | refine Ext.drewN ?_ _ | refine Ext.setCell ?_ (by omega) _ | refine Ext.trans ?_ (by assumption))))
      replace X := X.trans hy; replace q0 := hy.keep q0; replace q1 := hy.keep q1; replace q2 := hy.keep q2; replace q3 := hy.keep q3; replace q4 := hy.keep q4; replace q5 := hy.keep q5; replace q6 := hy.keep q6; replace q7 := hy.keep q7; replace q8 := hy.keep q8; replace q9 := hy.keep q9; replace q10 := hy.keep q10; clear hx hy; (go_wp2_with fail); go_ret; exact ⟨rfl, by (repeat (first | exact Ext.refl _ | with_reducible (first | assumption | refine Ext.drew ?_ | refine Ext.alloc ?_ _ | refine Ext.drewN ?_ _ | refine Ext.setCell ?_ (by omega) _ | refine Ext.trans ?_ (by assumption))))⟩
    · have d1 : decide ((3 : Int) < soc) = false := decide_eq_false (by omega); by_cases h2 : 5 < n3
      · have d2 : decide ((5 : Int) < (n3 : Int)) = true := decide_eq_true (by omega); obtain rfl : r = 3 := by rw [HE.out, if_pos (.inr (.inl h2))]
        clear HE; go_enter Tryz.func29, Tryz.ntmps29
        (go_wp2_with fail); obtain ⟨W0, hW⟩ : ∃ W, W = (w.alloc (.cells #[.int .i64 last, .int .i64 owners, .slice a1 n1 c1, .slice a2 n2 c2, .int .i64 soc, .int .i64 day, .int .i64 parcel, .slice a3 n3 c3, .int .i64 llo, .int .i64 lhi, .slice a4 n4 c4] 57)) := ⟨_, rfl⟩; have X : Ext w W0 := by subst hW; (repeat (first | exact Ext.refl _ | with_reducible (first | assumption | refine Ext.drew ?_ | refine Ext.alloc ?_ _ | refine Ext.drewN ?_ _ | refine Ext.setCell ?_ (by omega) _ | refine Ext.trans ?_ (by assumption))))
        have HS : Hid (∀ w', Ext W0 w' → (w'.cell? ⟨w.heap.size, 0, none⟩ = some (.int .i64 last) ∧ w'.cell? ⟨w.heap.size, 1, none⟩ = some (.int .i64 owners) ∧ w'.cell? ⟨w.heap.size, 2, none⟩ = some (.slice a1 n1 c1) ∧ w'.cell? ⟨w.heap.size, 3, none⟩ = some (.slice a2 n2 c2) ∧ w'.cell? ⟨w.heap.size, 4, none⟩ = some (.int .i64 soc) ∧ w'.cell? ⟨w.heap.size, 5, none⟩ = some (.int .i64 day) ∧ w'.cell? ⟨w.heap.size, 6, none⟩ = some (.int .i64 parcel) ∧ w'.cell? ⟨w.heap.size, 7, none⟩ = some (.slice a3 n3 c3) ∧ w'.cell? ⟨w.heap.size, 8, none⟩ = some (.int .i64 llo) ∧ w'.cell? ⟨w.heap.size, 9, none⟩ = some (.int .i64 lhi) ∧ w'.cell? ⟨w.heap.size, 10, none⟩ = some (.slice a4 n4 c4)) ∧ Ext W0 w') := Lib.hid (fun w' hx => ⟨⟨hx.keep (by subst hW; simp [go_sem]), hx.keep (by subst hW; simp [go_sem]), hx.keep (by subst hW; simp [go_sem]), hx.keep (by subst hW; simp [go_sem]), hx.keep (by subst hW; simp [go_sem]), hx.keep (by subst hW; simp [go_sem]), hx.keep (by subst hW; simp [go_sem]), hx.keep (by subst hW; simp [go_sem]), hx.keep (by subst hW; simp [go_sem]), hx.keep (by subst hW; simp [go_sem]), hx.keep (by subst hW; simp [go_sem])⟩, hx⟩); have HSf : Hid (∀ w', Ext W0 w' → ∀ o, w'.frozen? ⟨w.heap.size, o, none⟩ = false) := Lib.hid (fun w' hx o => (hx.frozen (by subst hW; simp)).trans (by subst hW; simp [go_sem])); have HSz : w.heap.size + 1 ≤ W0.heap.size := by subst hW; simp
        rw [← hW]; clear hW; obtain ⟨⟨q0, q1, q2, q3, q4, q5, q6, q7, q8, q9, q10⟩, -⟩ := HS.out W0 (Ext.refl _); clear HS HSf HSz; go_region; have Y : Ext W0 W0.drew := (Ext.refl W0).drew; replace X := X.trans Y; replace q0 := Y.keep q0; replace q1 := Y.keep q1; replace q2 := Y.keep q2; replace q3 := Y.keep q3; replace q4 := Y.keep q4; replace q5 := Y.keep q5; replace q6 := Y.keep q6; replace q7 := Y.keep q7; replace q8 := Y.keep q8; replace q9 := Y.keep q9; replace q10 := Y.keep q10; clear Y; generalize W0.drew = W at *; (go_wp2_with fail); (with_reducible refine (HBK.out _ X).mono ?_); rintro e w1 ⟨rfl, hx⟩; have hy : Ext W w1 := by (repeat (first | exact Ext.refl _ | with_reducible (first | assumption | refine Ext.drew ?_ | refine Ext.alloc ?_ _ | refine Ext.drewN ?_ _ | refine Ext.setCell ?_ (by omega) _ | refine Ext.trans ?_ (by assumption))))
        replace X := X.trans hy; replace q0 := hy.keep q0; replace q1 := hy.keep q1; replace q2 := hy.keep q2; replace q3 := hy.keep q3; replace q4 := hy.keep q4; replace q5 := hy.keep q5; replace q6 := hy.keep q6; replace q7 := hy.keep q7; replace q8 := hy.keep q8; replace q9 := hy.keep q9; replace q10 := hy.keep q10; clear hx hy; (go_wp2_with fail); go_ret; exact ⟨rfl, by (repeat (first | exact Ext.refl _ | with_reducible (first | assumption | refine Ext.drew ?_ | refine Ext.alloc ?_ _ | refine Ext.drewN ?_ _ | refine Ext.setCell ?_ (by omega) _ | refine Ext.trans ?_ (by assumption))))⟩
      · have d2 : decide ((5 : Int) < (n3 : Int)) = false := decide_eq_false (by omega); by_cases h3 : 5 < n4
        · have d3 : decide ((5 : Int) < (n4 : Int)) = true := decide_eq_true (by omega); obtain rfl : r = 3 := by rw [HE.out, if_pos (.inr (.inr h3))]
          clear HE; go_enter Tryz.func29, Tryz.ntmps29
          (go_wp2_with fail); obtain ⟨W0, hW⟩ : ∃ W, W = (w.alloc (.cells #[.int .i64 last, .int .i64 owners, .slice a1 n1 c1, .slice a2 n2 c2, .int .i64 soc, .int .i64 day, .int .i64 parcel, .slice a3 n3 c3, .int .i64 llo, .int .i64 lhi, .slice a4 n4 c4] 57)) := ⟨_, rfl⟩; have X : Ext w W0 := by subst hW; (repeat (first | exact Ext.refl _ | with_reducible (first | assumption | refine Ext.drew ?_ | refine Ext.alloc ?_ _ | refine Ext.drewN ?_ _ | refine Ext.setCell ?_ (by omega) _ | refine Ext.trans ?_ (by assumption))))
          have HS : Hid (∀ w', Ext W0 w' → (w'.cell? ⟨w.heap.size, 0, none⟩ = some (.int .i64 last) ∧ w'.cell? ⟨w.heap.size, 1, none⟩ = some (.int .i64 owners) ∧ w'.cell? ⟨w.heap.size, 2, none⟩ = some (.slice a1 n1 c1) ∧ w'.cell? ⟨w.heap.size, 3, none⟩ = some (.slice a2 n2 c2) ∧ w'.cell? ⟨w.heap.size, 4, none⟩ = some (.int .i64 soc) ∧ w'.cell? ⟨w.heap.size, 5, none⟩ = some (.int .i64 day) ∧ w'.cell? ⟨w.heap.size, 6, none⟩ = some (.int .i64 parcel) ∧ w'.cell? ⟨w.heap.size, 7, none⟩ = some (.slice a3 n3 c3) ∧ w'.cell? ⟨w.heap.size, 8, none⟩ = some (.int .i64 llo) ∧ w'.cell? ⟨w.heap.size, 9, none⟩ = some (.int .i64 lhi) ∧ w'.cell? ⟨w.heap.size, 10, none⟩ = some (.slice a4 n4 c4)) ∧ Ext W0 w') := Lib.hid (fun w' hx => ⟨⟨hx.keep (by subst hW; simp [go_sem]), hx.keep (by subst hW; simp [go_sem]), hx.keep (by subst hW; simp [go_sem]), hx.keep (by subst hW; simp [go_sem]), hx.keep (by subst hW; simp [go_sem]), hx.keep (by subst hW; simp [go_sem]), hx.keep (by subst hW; simp [go_sem]), hx.keep (by subst hW; simp [go_sem]), hx.keep (by subst hW; simp [go_sem]), hx.keep (by subst hW; simp [go_sem]), hx.keep (by subst hW; simp [go_sem])⟩, hx⟩); have HSf : Hid (∀ w', Ext W0 w' → ∀ o, w'.frozen? ⟨w.heap.size, o, none⟩ = false) := Lib.hid (fun w' hx o => (hx.frozen (by subst hW; simp)).trans (by subst hW; simp [go_sem])); have HSz : w.heap.size + 1 ≤ W0.heap.size := by subst hW; simp
          rw [← hW]; clear hW; obtain ⟨⟨q0, q1, q2, q3, q4, q5, q6, q7, q8, q9, q10⟩, -⟩ := HS.out W0 (Ext.refl _); clear HS HSf HSz; go_region; have Y : Ext W0 W0.drew := (Ext.refl W0).drew; replace X := X.trans Y; replace q0 := Y.keep q0; replace q1 := Y.keep q1; replace q2 := Y.keep q2; replace q3 := Y.keep q3; replace q4 := Y.keep q4; replace q5 := Y.keep q5; replace q6 := Y.keep q6; replace q7 := Y.keep q7; replace q8 := Y.keep q8; replace q9 := Y.keep q9; replace q10 := Y.keep q10; clear Y; generalize W0.drew = W at *; (go_wp2_with fail); (with_reducible refine (HBK.out _ X).mono ?_); rintro e w1 ⟨rfl, hx⟩; have hy : Ext W w1 := by (repeat (first | exact Ext.refl _ | with_reducible (first | assumption | refine Ext.drew ?_ | refine Ext.alloc ?_ _ | refine Ext.drewN ?_ _ | refine Ext.setCell ?_ (by omega) _ | refine Ext.trans ?_ (by assumption))))
          replace X := X.trans hy; replace q0 := hy.keep q0; replace q1 := hy.keep q1; replace q2 := hy.keep q2; replace q3 := hy.keep q3; replace q4 := hy.keep q4; replace q5 := hy.keep q5; replace q6 := hy.keep q6; replace q7 := hy.keep q7; replace q8 := hy.keep q8; replace q9 := hy.keep q9; replace q10 := hy.keep q10; clear hx hy; (go_wp2_with fail); go_ret; exact ⟨rfl, by (repeat (first | exact Ext.refl _ | with_reducible (first | assumption | refine Ext.drew ?_ | refine Ext.alloc ?_ _ | refine Ext.drewN ?_ _ | refine Ext.setCell ?_ (by omega) _ | refine Ext.trans ?_ (by assumption))))⟩
        · have d3 : decide ((5 : Int) < (n4 : Int)) = false := decide_eq_false (by omega); have hnl : ¬ (3 < soc ∨ 5 < n3 ∨ 5 < n4) := by omega
          replace HE : Hid (r = if decide (1 ≤ soc) && (b2 && (b3 && (b4 && (b5 && b6)))) then (if 2000 < manyL 2000 rs then 3 else 0) else 1) := Lib.hid (by rw [HE.out, if_neg hnl]); have HNL := Lib.hid hnl; clear hnl; by_cases h4 : soc < 1
          · have d4 : decide (soc < 1) = true := decide_eq_true h4; obtain rfl : r = 1 := by rw [HE.out]; rw [decide_eq_false (by omega : ¬ 1 ≤ soc)]; rfl
            clear HE; go_enter Tryz.func29, Tryz.ntmps29
            (go_wp2_with fail); obtain ⟨W0, hW⟩ : ∃ W, W = (w.alloc (.cells #[.int .i64 last, .int .i64 owners, .slice a1 n1 c1, .slice a2 n2 c2, .int .i64 soc, .int .i64 day, .int .i64 parcel, .slice a3 n3 c3, .int .i64 llo, .int .i64 lhi, .slice a4 n4 c4] 57)) := ⟨_, rfl⟩; have X : Ext w W0 := by subst hW; (repeat (first | exact Ext.refl _ | with_reducible (first | assumption | refine Ext.drew ?_ | refine Ext.alloc ?_ _ | refine Ext.drewN ?_ _ | refine Ext.setCell ?_ (by omega) _ | refine Ext.trans ?_ (by assumption))))
            have HS : Hid (∀ w', Ext W0 w' → (w'.cell? ⟨w.heap.size, 0, none⟩ = some (.int .i64 last) ∧ w'.cell? ⟨w.heap.size, 1, none⟩ = some (.int .i64 owners) ∧ w'.cell? ⟨w.heap.size, 2, none⟩ = some (.slice a1 n1 c1) ∧ w'.cell? ⟨w.heap.size, 3, none⟩ = some (.slice a2 n2 c2) ∧ w'.cell? ⟨w.heap.size, 4, none⟩ = some (.int .i64 soc) ∧ w'.cell? ⟨w.heap.size, 5, none⟩ = some (.int .i64 day) ∧ w'.cell? ⟨w.heap.size, 6, none⟩ = some (.int .i64 parcel) ∧ w'.cell? ⟨w.heap.size, 7, none⟩ = some (.slice a3 n3 c3) ∧ w'.cell? ⟨w.heap.size, 8, none⟩ = some (.int .i64 llo) ∧ w'.cell? ⟨w.heap.size, 9, none⟩ = some (.int .i64 lhi) ∧ w'.cell? ⟨w.heap.size, 10, none⟩ = some (.slice a4 n4 c4)) ∧ Ext W0 w') := Lib.hid (fun w' hx => ⟨⟨hx.keep (by subst hW; simp [go_sem]), hx.keep (by subst hW; simp [go_sem]), hx.keep (by subst hW; simp [go_sem]), hx.keep (by subst hW; simp [go_sem]), hx.keep (by subst hW; simp [go_sem]), hx.keep (by subst hW; simp [go_sem]), hx.keep (by subst hW; simp [go_sem]), hx.keep (by subst hW; simp [go_sem]), hx.keep (by subst hW; simp [go_sem]), hx.keep (by subst hW; simp [go_sem]), hx.keep (by subst hW; simp [go_sem])⟩, hx⟩); have HSf : Hid (∀ w', Ext W0 w' → ∀ o, w'.frozen? ⟨w.heap.size, o, none⟩ = false) := Lib.hid (fun w' hx o => (hx.frozen (by subst hW; simp)).trans (by subst hW; simp [go_sem])); have HSz : w.heap.size + 1 ≤ W0.heap.size := by subst hW; simp
            rw [← hW]; clear hW; obtain ⟨⟨q0, q1, q2, q3, q4, q5, q6, q7, q8, q9, q10⟩, -⟩ := HS.out W0 (Ext.refl _); clear HS HSf HSz; go_region; have Y : Ext W0 W0.drew := (Ext.refl W0).drew; replace X := X.trans Y; replace q0 := Y.keep q0; replace q1 := Y.keep q1; replace q2 := Y.keep q2; replace q3 := Y.keep q3; replace q4 := Y.keep q4; replace q5 := Y.keep q5; replace q6 := Y.keep q6; replace q7 := Y.keep q7; replace q8 := Y.keep q8; replace q9 := Y.keep q9; replace q10 := Y.keep q10; clear Y; generalize W0.drew = W at *; (go_wp2_with fail); (with_reducible refine (HBK.out _ X).mono ?_); rintro e w1 ⟨rfl, hx⟩; have hy : Ext W w1 := by (repeat (first | exact Ext.refl _ | with_reducible (first | assumption | refine Ext.drew ?_ | refine Ext.alloc ?_ _ | refine Ext.drewN ?_ _ | refine Ext.setCell ?_ (by omega) _ | refine Ext.trans ?_ (by assumption))))
            replace X := X.trans hy; replace q0 := hy.keep q0; replace q1 := hy.keep q1; replace q2 := hy.keep q2; replace q3 := hy.keep q3; replace q4 := hy.keep q4; replace q5 := hy.keep q5; replace q6 := hy.keep q6; replace q7 := hy.keep q7; replace q8 := hy.keep q8; replace q9 := hy.keep q9; replace q10 := hy.keep q10; clear hx hy; (go_wp2_with fail); go_ret; exact ⟨rfl, by (repeat (first | exact Ext.refl _ | with_reducible (first | assumption | refine Ext.drew ?_ | refine Ext.alloc ?_ _ | refine Ext.drewN ?_ _ | refine Ext.setCell ?_ (by omega) _ | refine Ext.trans ?_ (by assumption))))⟩
          · have d4 : decide (soc < 1) = false := decide_eq_false h4; have hsoc : 1 ≤ soc ∧ soc ≤ 3 := ⟨by omega, by omega⟩; cases b2 with
            | false =>
              obtain rfl : r = 1 := by rw [HE.out]; simp
              clear HE; go_enter Tryz.func29, Tryz.ntmps29
              (go_wp2_with fail); obtain ⟨W0, hW⟩ : ∃ W, W = (w.alloc (.cells #[.int .i64 last, .int .i64 owners, .slice a1 n1 c1, .slice a2 n2 c2, .int .i64 soc, .int .i64 day, .int .i64 parcel, .slice a3 n3 c3, .int .i64 llo, .int .i64 lhi, .slice a4 n4 c4] 57)) := ⟨_, rfl⟩; have X : Ext w W0 := by subst hW; (repeat (first | exact Ext.refl _ | with_reducible (first | assumption | refine Ext.drew ?_ | refine Ext.alloc ?_ _ | refine Ext.drewN ?_ _ | refine Ext.setCell ?_ (by omega) _ | refine Ext.trans ?_ (by assumption))))
              have HS : Hid (∀ w', Ext W0 w' → (w'.cell? ⟨w.heap.size, 0, none⟩ = some (.int .i64 last) ∧ w'.cell? ⟨w.heap.size, 1, none⟩ = some (.int .i64 owners) ∧ w'.cell? ⟨w.heap.size, 2, none⟩ = some (.slice a1 n1 c1) ∧ w'.cell? ⟨w.heap.size, 3, none⟩ = some (.slice a2 n2 c2) ∧ w'.cell? ⟨w.heap.size, 4, none⟩ = some (.int .i64 soc) ∧ w'.cell? ⟨w.heap.size, 5, none⟩ = some (.int .i64 day) ∧ w'.cell? ⟨w.heap.size, 6, none⟩ = some (.int .i64 parcel) ∧ w'.cell? ⟨w.heap.size, 7, none⟩ = some (.slice a3 n3 c3) ∧ w'.cell? ⟨w.heap.size, 8, none⟩ = some (.int .i64 llo) ∧ w'.cell? ⟨w.heap.size, 9, none⟩ = some (.int .i64 lhi) ∧ w'.cell? ⟨w.heap.size, 10, none⟩ = some (.slice a4 n4 c4)) ∧ Ext W0 w') := Lib.hid (fun w' hx => ⟨⟨hx.keep (by subst hW; simp [go_sem]), hx.keep (by subst hW; simp [go_sem]), hx.keep (by subst hW; simp [go_sem]), hx.keep (by subst hW; simp [go_sem]), hx.keep (by subst hW; simp [go_sem]), hx.keep (by subst hW; simp [go_sem]), hx.keep (by subst hW; simp [go_sem]), hx.keep (by subst hW; simp [go_sem]), hx.keep (by subst hW; simp [go_sem]), hx.keep (by subst hW; simp [go_sem]), hx.keep (by subst hW; simp [go_sem])⟩, hx⟩); have HSf : Hid (∀ w', Ext W0 w' → ∀ o, w'.frozen? ⟨w.heap.size, o, none⟩ = false) := Lib.hid (fun w' hx o => (hx.frozen (by subst hW; simp)).trans (by subst hW; simp [go_sem])); have HSz : w.heap.size + 1 ≤ W0.heap.size := by subst hW; simp
              rw [← hW]; clear hW; obtain ⟨⟨q0, q1, q2, q3, q4, q5, q6, q7, q8, q9, q10⟩, -⟩ := HS.out W0 (Ext.refl _); clear HS HSf HSz; go_region; have Y : Ext W0 W0.drew := (Ext.refl W0).drew; replace X := X.trans Y; replace q0 := Y.keep q0; replace q1 := Y.keep q1; replace q2 := Y.keep q2; replace q3 := Y.keep q3; replace q4 := Y.keep q4; replace q5 := Y.keep q5; replace q6 := Y.keep q6; replace q7 := Y.keep q7; replace q8 := Y.keep q8; replace q9 := Y.keep q9; replace q10 := Y.keep q10; clear Y; generalize W0.drew = W at *; (go_wp2_with fail); (with_reducible refine (HBK.out _ X).mono ?_); rintro e w1 ⟨rfl, hx⟩; have hy : Ext W w1 := by (repeat (first | exact Ext.refl _ | with_reducible (first | assumption | refine Ext.drew ?_ | refine Ext.alloc ?_ _ | refine Ext.drewN ?_ _ | refine Ext.setCell ?_ (by omega) _ | refine Ext.trans ?_ (by assumption))))
              replace X := X.trans hy; replace q0 := hy.keep q0; replace q1 := hy.keep q1; replace q2 := hy.keep q2; replace q3 := hy.keep q3; replace q4 := hy.keep q4; replace q5 := hy.keep q5; replace q6 := hy.keep q6; replace q7 := hy.keep q7; replace q8 := hy.keep q8; replace q9 := hy.keep q9; replace q10 := hy.keep q10; clear hx hy; (go_wp2_with fail); (with_reducible refine (HDY.out _).mono ?_); rintro e w2 ⟨rfl, hx⟩; have hy : Ext w1 w2 := by (repeat (first | exact Ext.refl _ | with_reducible (first | assumption | refine Ext.drew ?_ | refine Ext.alloc ?_ _ | refine Ext.drewN ?_ _ | refine Ext.setCell ?_ (by omega) _ | refine Ext.trans ?_ (by assumption))))
              replace X := X.trans hy; replace q0 := hy.keep q0; replace q1 := hy.keep q1; replace q2 := hy.keep q2; replace q3 := hy.keep q3; replace q4 := hy.keep q4; replace q5 := hy.keep q5; replace q6 := hy.keep q6; replace q7 := hy.keep q7; replace q8 := hy.keep q8; replace q9 := hy.keep q9; replace q10 := hy.keep q10; clear hx hy; (go_wp2_with fail); go_ret; exact ⟨rfl, by (repeat (first | exact Ext.refl _ | with_reducible (first | assumption | refine Ext.drew ?_ | refine Ext.alloc ?_ _ | refine Ext.drewN ?_ _ | refine Ext.setCell ?_ (by omega) _ | refine Ext.trans ?_ (by assumption))))⟩
            | true =>
              cases b3 with
              | false =>
                obtain rfl : r = 1 := by rw [HE.out]; simp
                clear HE; go_enter Tryz.func29, Tryz.ntmps29
                (go_wp2_with fail); obtain ⟨W0, hW⟩ : ∃ W, W = (w.alloc (.cells #[.int .i64 last, .int .i64 owners, .slice a1 n1 c1, .slice a2 n2 c2, .int .i64 soc, .int .i64 day, .int .i64 parcel, .slice a3 n3 c3, .int .i64 llo, .int .i64 lhi, .slice a4 n4 c4] 57)) := ⟨_, rfl⟩; have X : Ext w W0 := by subst hW; (repeat (first | exact Ext.refl _ | with_reducible (first | assumption | refine Ext.drew ?_ | refine Ext.alloc ?_ _ | refine Ext.drewN ?_ _ | refine Ext.setCell ?_ (by omega) _ | refine Ext.trans ?_ (by assumption))))
                have HS : Hid (∀ w', Ext W0 w' → (w'.cell? ⟨w.heap.size, 0, none⟩ = some (.int .i64 last) ∧ w'.cell? ⟨w.heap.size, 1, none⟩ = some (.int .i64 owners) ∧ w'.cell? ⟨w.heap.size, 2, none⟩ = some (.slice a1 n1 c1) ∧ w'.cell? ⟨w.heap.size, 3, none⟩ = some (.slice a2 n2 c2) ∧ w'.cell? ⟨w.heap.size, 4, none⟩ = some (.int .i64 soc) ∧ w'.cell? ⟨w.heap.size, 5, none⟩ = some (.int .i64 day) ∧ w'.cell? ⟨w.heap.size, 6, none⟩ = some (.int .i64 parcel) ∧ w'.cell? ⟨w.heap.size, 7, none⟩ = some (.slice a3 n3 c3) ∧ w'.cell? ⟨w.heap.size, 8, none⟩ = some (.int .i64 llo) ∧ w'.cell? ⟨w.heap.size, 9, none⟩ = some (.int .i64 lhi) ∧ w'.cell? ⟨w.heap.size, 10, none⟩ = some (.slice a4 n4 c4)) ∧ Ext W0 w') := Lib.hid (fun w' hx => ⟨⟨hx.keep (by subst hW; simp [go_sem]), hx.keep (by subst hW; simp [go_sem]), hx.keep (by subst hW; simp [go_sem]), hx.keep (by subst hW; simp [go_sem]), hx.keep (by subst hW; simp [go_sem]), hx.keep (by subst hW; simp [go_sem]), hx.keep (by subst hW; simp [go_sem]), hx.keep (by subst hW; simp [go_sem]), hx.keep (by subst hW; simp [go_sem]), hx.keep (by subst hW; simp [go_sem]), hx.keep (by subst hW; simp [go_sem])⟩, hx⟩); have HSf : Hid (∀ w', Ext W0 w' → ∀ o, w'.frozen? ⟨w.heap.size, o, none⟩ = false) := Lib.hid (fun w' hx o => (hx.frozen (by subst hW; simp)).trans (by subst hW; simp [go_sem])); have HSz : w.heap.size + 1 ≤ W0.heap.size := by subst hW; simp
                rw [← hW]; clear hW; obtain ⟨⟨q0, q1, q2, q3, q4, q5, q6, q7, q8, q9, q10⟩, -⟩ := HS.out W0 (Ext.refl _); clear HS HSf HSz; go_region; have Y : Ext W0 W0.drew := (Ext.refl W0).drew; replace X := X.trans Y; replace q0 := Y.keep q0; replace q1 := Y.keep q1; replace q2 := Y.keep q2; replace q3 := Y.keep q3; replace q4 := Y.keep q4; replace q5 := Y.keep q5; replace q6 := Y.keep q6; replace q7 := Y.keep q7; replace q8 := Y.keep q8; replace q9 := Y.keep q9; replace q10 := Y.keep q10; clear Y; generalize W0.drew = W at *; (go_wp2_with fail); (with_reducible refine (HBK.out _ X).mono ?_); rintro e w1 ⟨rfl, hx⟩; have hy : Ext W w1 := by (repeat (first | exact Ext.refl _ | with_reducible (first | assumption | refine Ext.drew ?_ | refine Ext.alloc ?_ _ | refine Ext.drewN ?_ _ | refine Ext.setCell ?_ (by omega) _ | refine Ext.trans ?_ (by assumption))))
                replace X := X.trans hy; replace q0 := hy.keep q0; replace q1 := hy.keep q1; replace q2 := hy.keep q2; replace q3 := hy.keep q3; replace q4 := hy.keep q4; replace q5 := hy.keep q5; replace q6 := hy.keep q6; replace q7 := hy.keep q7; replace q8 := hy.keep q8; replace q9 := hy.keep q9; replace q10 := hy.keep q10; clear hx hy; (go_wp2_with fail); (with_reducible refine (HDY.out _).mono ?_); rintro e w2 ⟨rfl, hx⟩; have hy : Ext w1 w2 := by (repeat (first | exact Ext.refl _ | with_reducible (first | assumption | refine Ext.drew ?_ | refine Ext.alloc ?_ _ | refine Ext.drewN ?_ _ | refine Ext.setCell ?_ (by omega) _ | refine Ext.trans ?_ (by assumption))))
                replace X := X.trans hy; replace q0 := hy.keep q0; replace q1 := hy.keep q1; replace q2 := hy.keep q2; replace q3 := hy.keep q3; replace q4 := hy.keep q4; replace q5 := hy.keep q5; replace q6 := hy.keep q6; replace q7 := hy.keep q7; replace q8 := hy.keep q8; replace q9 := hy.keep q9; replace q10 := hy.keep q10; clear hx hy; (go_wp2_with fail); (with_reducible refine (HPA.out _ X).mono ?_); rintro e w3 ⟨rfl, hx⟩; have hy : Ext w2 w3 := by (repeat (first | exact Ext.refl _ | with_reducible (first | assumption | refine Ext.drew ?_ | refine Ext.alloc ?_ _ | refine Ext.drewN ?_ _ | refine Ext.setCell ?_ (by omega) _ | refine Ext.trans ?_ (by assumption))))
                replace X := X.trans hy; replace q0 := hy.keep q0; replace q1 := hy.keep q1; replace q2 := hy.keep q2; replace q3 := hy.keep q3; replace q4 := hy.keep q4; replace q5 := hy.keep q5; replace q6 := hy.keep q6; replace q7 := hy.keep q7; replace q8 := hy.keep q8; replace q9 := hy.keep q9; replace q10 := hy.keep q10; clear hx hy; (go_wp2_with fail); go_ret; exact ⟨rfl, by (repeat (first | exact Ext.refl _ | with_reducible (first | assumption | refine Ext.drew ?_ | refine Ext.alloc ?_ _ | refine Ext.drewN ?_ _ | refine Ext.setCell ?_ (by omega) _ | refine Ext.trans ?_ (by assumption))))⟩
              | true =>
                cases b4 with
                | false =>
                  obtain rfl : r = 1 := by rw [HE.out]; simp
                  clear HE; go_enter Tryz.func29, Tryz.ntmps29
                  (go_wp2_with fail); obtain ⟨W0, hW⟩ : ∃ W, W = (w.alloc (.cells #[.int .i64 last, .int .i64 owners, .slice a1 n1 c1, .slice a2 n2 c2, .int .i64 soc, .int .i64 day, .int .i64 parcel, .slice a3 n3 c3, .int .i64 llo, .int .i64 lhi, .slice a4 n4 c4] 57)) := ⟨_, rfl⟩; have X : Ext w W0 := by subst hW; (repeat (first | exact Ext.refl _ | with_reducible (first | assumption | refine Ext.drew ?_ | refine Ext.alloc ?_ _ | refine Ext.drewN ?_ _ | refine Ext.setCell ?_ (by omega) _ | refine Ext.trans ?_ (by assumption))))
                  have HS : Hid (∀ w', Ext W0 w' → (w'.cell? ⟨w.heap.size, 0, none⟩ = some (.int .i64 last) ∧ w'.cell? ⟨w.heap.size, 1, none⟩ = some (.int .i64 owners) ∧ w'.cell? ⟨w.heap.size, 2, none⟩ = some (.slice a1 n1 c1) ∧ w'.cell? ⟨w.heap.size, 3, none⟩ = some (.slice a2 n2 c2) ∧ w'.cell? ⟨w.heap.size, 4, none⟩ = some (.int .i64 soc) ∧ w'.cell? ⟨w.heap.size, 5, none⟩ = some (.int .i64 day) ∧ w'.cell? ⟨w.heap.size, 6, none⟩ = some (.int .i64 parcel) ∧ w'.cell? ⟨w.heap.size, 7, none⟩ = some (.slice a3 n3 c3) ∧ w'.cell? ⟨w.heap.size, 8, none⟩ = some (.int .i64 llo) ∧ w'.cell? ⟨w.heap.size, 9, none⟩ = some (.int .i64 lhi) ∧ w'.cell? ⟨w.heap.size, 10, none⟩ = some (.slice a4 n4 c4)) ∧ Ext W0 w') := Lib.hid (fun w' hx => ⟨⟨hx.keep (by subst hW; simp [go_sem]), hx.keep (by subst hW; simp [go_sem]), hx.keep (by subst hW; simp [go_sem]), hx.keep (by subst hW; simp [go_sem]), hx.keep (by subst hW; simp [go_sem]), hx.keep (by subst hW; simp [go_sem]), hx.keep (by subst hW; simp [go_sem]), hx.keep (by subst hW; simp [go_sem]), hx.keep (by subst hW; simp [go_sem]), hx.keep (by subst hW; simp [go_sem]), hx.keep (by subst hW; simp [go_sem])⟩, hx⟩); have HSf : Hid (∀ w', Ext W0 w' → ∀ o, w'.frozen? ⟨w.heap.size, o, none⟩ = false) := Lib.hid (fun w' hx o => (hx.frozen (by subst hW; simp)).trans (by subst hW; simp [go_sem])); have HSz : w.heap.size + 1 ≤ W0.heap.size := by subst hW; simp
                  rw [← hW]; clear hW; obtain ⟨⟨q0, q1, q2, q3, q4, q5, q6, q7, q8, q9, q10⟩, -⟩ := HS.out W0 (Ext.refl _); clear HS HSf HSz; go_region; have Y : Ext W0 W0.drew := (Ext.refl W0).drew; replace X := X.trans Y; replace q0 := Y.keep q0; replace q1 := Y.keep q1; replace q2 := Y.keep q2; replace q3 := Y.keep q3; replace q4 := Y.keep q4; replace q5 := Y.keep q5; replace q6 := Y.keep q6; replace q7 := Y.keep q7; replace q8 := Y.keep q8; replace q9 := Y.keep q9; replace q10 := Y.keep q10; clear Y; generalize W0.drew = W at *; (go_wp2_with fail); (with_reducible refine (HBK.out _ X).mono ?_); rintro e w1 ⟨rfl, hx⟩; have hy : Ext W w1 := by (repeat (first | exact Ext.refl _ | with_reducible (first | assumption | refine Ext.drew ?_ | refine Ext.alloc ?_ _ | refine Ext.drewN ?_ _ | refine Ext.setCell ?_ (by omega) _ | refine Ext.trans ?_ (by assumption))))
                  replace X := X.trans hy; replace q0 := hy.keep q0; replace q1 := hy.keep q1; replace q2 := hy.keep q2; replace q3 := hy.keep q3; replace q4 := hy.keep q4; replace q5 := hy.keep q5; replace q6 := hy.keep q6; replace q7 := hy.keep q7; replace q8 := hy.keep q8; replace q9 := hy.keep q9; replace q10 := hy.keep q10; clear hx hy; (go_wp2_with fail); (with_reducible refine (HDY.out _).mono ?_); rintro e w2 ⟨rfl, hx⟩; have hy : Ext w1 w2 := by (repeat (first | exact Ext.refl _ | with_reducible (first | assumption | refine Ext.drew ?_ | refine Ext.alloc ?_ _ | refine Ext.drewN ?_ _ | refine Ext.setCell ?_ (by omega) _ | refine Ext.trans ?_ (by assumption))))
                  replace X := X.trans hy; replace q0 := hy.keep q0; replace q1 := hy.keep q1; replace q2 := hy.keep q2; replace q3 := hy.keep q3; replace q4 := hy.keep q4; replace q5 := hy.keep q5; replace q6 := hy.keep q6; replace q7 := hy.keep q7; replace q8 := hy.keep q8; replace q9 := hy.keep q9; replace q10 := hy.keep q10; clear hx hy; (go_wp2_with fail); (with_reducible refine (HPA.out _ X).mono ?_); rintro e w3 ⟨rfl, hx⟩; have hy : Ext w2 w3 := by (repeat (first | exact Ext.refl _ | with_reducible (first | assumption | refine Ext.drew ?_ | refine Ext.alloc ?_ _ | refine Ext.drewN ?_ _ | refine Ext.setCell ?_ (by omega) _ | refine Ext.trans ?_ (by assumption))))
                  replace X := X.trans hy; replace q0 := hy.keep q0; replace q1 := hy.keep q1; replace q2 := hy.keep q2; replace q3 := hy.keep q3; replace q4 := hy.keep q4; replace q5 := hy.keep q5; replace q6 := hy.keep q6; replace q7 := hy.keep q7; replace q8 := hy.keep q8; replace q9 := hy.keep q9; replace q10 := hy.keep q10; clear hx hy; (go_wp2_with fail); (with_reducible refine (HOF.out _).mono ?_); rintro e w4 ⟨rfl, hx⟩; have hy : Ext w3 w4 := by (repeat (first | exact Ext.refl _ | with_reducible (first | assumption | refine Ext.drew ?_ | refine Ext.alloc ?_ _ | refine Ext.drewN ?_ _ | refine Ext.setCell ?_ (by omega) _ | refine Ext.trans ?_ (by assumption))))
                  replace X := X.trans hy; replace q0 := hy.keep q0; replace q1 := hy.keep q1; replace q2 := hy.keep q2; replace q3 := hy.keep q3; replace q4 := hy.keep q4; replace q5 := hy.keep q5; replace q6 := hy.keep q6; replace q7 := hy.keep q7; replace q8 := hy.keep q8; replace q9 := hy.keep q9; replace q10 := hy.keep q10; clear hx hy; (go_wp2_with fail); go_ret; exact ⟨rfl, by (repeat (first | exact Ext.refl _ | with_reducible (first | assumption | refine Ext.drew ?_ | refine Ext.alloc ?_ _ | refine Ext.drewN ?_ _ | refine Ext.setCell ?_ (by omega) _ | refine Ext.trans ?_ (by assumption))))⟩
                | true =>
                  cases b5 with
                  | false =>
                    obtain rfl : r = 1 := by rw [HE.out]; simp
                    clear HE; go_enter Tryz.func29, Tryz.ntmps29
                    (go_wp2_with fail); obtain ⟨W0, hW⟩ : ∃ W, W = (w.alloc (.cells #[.int .i64 last, .int .i64 owners, .slice a1 n1 c1, .slice a2 n2 c2, .int .i64 soc, .int .i64 day, .int .i64 parcel, .slice a3 n3 c3, .int .i64 llo, .int .i64 lhi, .slice a4 n4 c4] 57)) := ⟨_, rfl⟩; have X : Ext w W0 := by subst hW; (repeat (first | exact Ext.refl _ | with_reducible (first | assumption | refine Ext.drew ?_ | refine Ext.alloc ?_ _ | refine Ext.drewN ?_ _ | refine Ext.setCell ?_ (by omega) _ | refine Ext.trans ?_ (by assumption))))
                    have HS : Hid (∀ w', Ext W0 w' → (w'.cell? ⟨w.heap.size, 0, none⟩ = some (.int .i64 last) ∧ w'.cell? ⟨w.heap.size, 1, none⟩ = some (.int .i64 owners) ∧ w'.cell? ⟨w.heap.size, 2, none⟩ = some (.slice a1 n1 c1) ∧ w'.cell? ⟨w.heap.size, 3, none⟩ = some (.slice a2 n2 c2) ∧ w'.cell? ⟨w.heap.size, 4, none⟩ = some (.int .i64 soc) ∧ w'.cell? ⟨w.heap.size, 5, none⟩ = some (.int .i64 day) ∧ w'.cell? ⟨w.heap.size, 6, none⟩ = some (.int .i64 parcel) ∧ w'.cell? ⟨w.heap.size, 7, none⟩ = some (.slice a3 n3 c3) ∧ w'.cell? ⟨w.heap.size, 8, none⟩ = some (.int .i64 llo) ∧ w'.cell? ⟨w.heap.size, 9, none⟩ = some (.int .i64 lhi) ∧ w'.cell? ⟨w.heap.size, 10, none⟩ = some (.slice a4 n4 c4)) ∧ Ext W0 w') := Lib.hid (fun w' hx => ⟨⟨hx.keep (by subst hW; simp [go_sem]), hx.keep (by subst hW; simp [go_sem]), hx.keep (by subst hW; simp [go_sem]), hx.keep (by subst hW; simp [go_sem]), hx.keep (by subst hW; simp [go_sem]), hx.keep (by subst hW; simp [go_sem]), hx.keep (by subst hW; simp [go_sem]), hx.keep (by subst hW; simp [go_sem]), hx.keep (by subst hW; simp [go_sem]), hx.keep (by subst hW; simp [go_sem]), hx.keep (by subst hW; simp [go_sem])⟩, hx⟩); have HSf : Hid (∀ w', Ext W0 w' → ∀ o, w'.frozen? ⟨w.heap.size, o, none⟩ = false) := Lib.hid (fun w' hx o => (hx.frozen (by subst hW; simp)).trans (by subst hW; simp [go_sem])); have HSz : w.heap.size + 1 ≤ W0.heap.size := by subst hW; simp
                    rw [← hW]; clear hW; obtain ⟨⟨q0, q1, q2, q3, q4, q5, q6, q7, q8, q9, q10⟩, -⟩ := HS.out W0 (Ext.refl _); clear HS HSf HSz; go_region; have Y : Ext W0 W0.drew := (Ext.refl W0).drew; replace X := X.trans Y; replace q0 := Y.keep q0; replace q1 := Y.keep q1; replace q2 := Y.keep q2; replace q3 := Y.keep q3; replace q4 := Y.keep q4; replace q5 := Y.keep q5; replace q6 := Y.keep q6; replace q7 := Y.keep q7; replace q8 := Y.keep q8; replace q9 := Y.keep q9; replace q10 := Y.keep q10; clear Y; generalize W0.drew = W at *; (go_wp2_with fail); (with_reducible refine (HBK.out _ X).mono ?_); rintro e w1 ⟨rfl, hx⟩; have hy : Ext W w1 := by (repeat (first | exact Ext.refl _ | with_reducible (first | assumption | refine Ext.drew ?_ | refine Ext.alloc ?_ _ | refine Ext.drewN ?_ _ | refine Ext.setCell ?_ (by omega) _ | refine Ext.trans ?_ (by assumption))))
                    replace X := X.trans hy; replace q0 := hy.keep q0; replace q1 := hy.keep q1; replace q2 := hy.keep q2; replace q3 := hy.keep q3; replace q4 := hy.keep q4; replace q5 := hy.keep q5; replace q6 := hy.keep q6; replace q7 := hy.keep q7; replace q8 := hy.keep q8; replace q9 := hy.keep q9; replace q10 := hy.keep q10; clear hx hy; (go_wp2_with fail); (with_reducible refine (HDY.out _).mono ?_); rintro e w2 ⟨rfl, hx⟩; have hy : Ext w1 w2 := by (repeat (first | exact Ext.refl _ | with_reducible (first | assumption | refine Ext.drew ?_ | refine Ext.alloc ?_ _ | refine Ext.drewN ?_ _ | refine Ext.setCell ?_ (by omega) _ | refine Ext.trans ?_ (by assumption))))
                    replace X := X.trans hy; replace q0 := hy.keep q0; replace q1 := hy.keep q1; replace q2 := hy.keep q2; replace q3 := hy.keep q3; replace q4 := hy.keep q4; replace q5 := hy.keep q5; replace q6 := hy.keep q6; replace q7 := hy.keep q7; replace q8 := hy.keep q8; replace q9 := hy.keep q9; replace q10 := hy.keep q10; clear hx hy; (go_wp2_with fail); (with_reducible refine (HPA.out _ X).mono ?_); rintro e w3 ⟨rfl, hx⟩; have hy : Ext w2 w3 := by (repeat (first | exact Ext.refl _ | with_reducible (first | assumption | refine Ext.drew ?_ | refine Ext.alloc ?_ _ | refine Ext.drewN ?_ _ | refine Ext.setCell ?_ (by omega) _ | refine Ext.trans ?_ (by assumption))))
                    replace X := X.trans hy; replace q0 := hy.keep q0; replace q1 := hy.keep q1; replace q2 := hy.keep q2; replace q3 := hy.keep q3; replace q4 := hy.keep q4; replace q5 := hy.keep q5; replace q6 := hy.keep q6; replace q7 := hy.keep q7; replace q8 := hy.keep q8; replace q9 := hy.keep q9; replace q10 := hy.keep q10; clear hx hy; (go_wp2_with fail); (with_reducible refine (HOF.out _).mono ?_); rintro e w4 ⟨rfl, hx⟩; have hy : Ext w3 w4 := by (repeat (first | exact Ext.refl _ | with_reducible (first | assumption | refine Ext.drew ?_ | refine Ext.alloc ?_ _ | refine Ext.drewN ?_ _ | refine Ext.setCell ?_ (by omega) _ | refine Ext.trans ?_ (by assumption))))
                    replace X := X.trans hy; replace q0 := hy.keep q0; replace q1 := hy.keep q1; replace q2 := hy.keep q2; replace q3 := hy.keep q3; replace q4 := hy.keep q4; replace q5 := hy.keep q5; replace q6 := hy.keep q6; replace q7 := hy.keep q7; replace q8 := hy.keep q8; replace q9 := hy.keep q9; replace q10 := hy.keep q10; clear hx hy; (go_wp2_with fail); (with_reducible refine (HAC.out hsoc how _ X).mono ?_); rintro e w5 ⟨rfl, hx⟩; have hy : Ext w4 w5 := by (repeat (first | exact Ext.refl _ | with_reducible (first | assumption | refine Ext.drew ?_ | refine Ext.alloc ?_ _ | refine Ext.drewN ?_ _ | refine Ext.setCell ?_ (by omega) _ | refine Ext.trans ?_ (by assumption))))
                    replace X := X.trans hy; replace q0 := hy.keep q0; replace q1 := hy.keep q1; replace q2 := hy.keep q2; replace q3 := hy.keep q3; replace q4 := hy.keep q4; replace q5 := hy.keep q5; replace q6 := hy.keep q6; replace q7 := hy.keep q7; replace q8 := hy.keep q8; replace q9 := hy.keep q9; replace q10 := hy.keep q10; clear hx hy; (go_wp2_with fail); go_ret; exact ⟨rfl, by (repeat (first | exact Ext.refl _ | with_reducible (first | assumption | refine Ext.drew ?_ | refine Ext.alloc ?_ _ | refine Ext.drewN ?_ _ | refine Ext.setCell ?_ (by omega) _ | refine Ext.trans ?_ (by assumption))))⟩
                  | true =>
                    cases b6 with
                    | false =>
                      obtain rfl : r = 1 := by rw [HE.out]; simp
                      clear HE; go_enter Tryz.func29, Tryz.ntmps29
                      (go_wp2_with fail); obtain ⟨W0, hW⟩ : ∃ W, W = (w.alloc (.cells #[.int .i64 last, .int .i64 owners, .slice a1 n1 c1, .slice a2 n2 c2, .int .i64 soc, .int .i64 day, .int .i64 parcel, .slice a3 n3 c3, .int .i64 llo, .int .i64 lhi, .slice a4 n4 c4] 57)) := ⟨_, rfl⟩; have X : Ext w W0 := by subst hW; (repeat (first | exact Ext.refl _ | with_reducible (first | assumption | refine Ext.drew ?_ | refine Ext.alloc ?_ _ | refine Ext.drewN ?_ _ | refine Ext.setCell ?_ (by omega) _ | refine Ext.trans ?_ (by assumption))))
                      have HS : Hid (∀ w', Ext W0 w' → (w'.cell? ⟨w.heap.size, 0, none⟩ = some (.int .i64 last) ∧ w'.cell? ⟨w.heap.size, 1, none⟩ = some (.int .i64 owners) ∧ w'.cell? ⟨w.heap.size, 2, none⟩ = some (.slice a1 n1 c1) ∧ w'.cell? ⟨w.heap.size, 3, none⟩ = some (.slice a2 n2 c2) ∧ w'.cell? ⟨w.heap.size, 4, none⟩ = some (.int .i64 soc) ∧ w'.cell? ⟨w.heap.size, 5, none⟩ = some (.int .i64 day) ∧ w'.cell? ⟨w.heap.size, 6, none⟩ = some (.int .i64 parcel) ∧ w'.cell? ⟨w.heap.size, 7, none⟩ = some (.slice a3 n3 c3) ∧ w'.cell? ⟨w.heap.size, 8, none⟩ = some (.int .i64 llo) ∧ w'.cell? ⟨w.heap.size, 9, none⟩ = some (.int .i64 lhi) ∧ w'.cell? ⟨w.heap.size, 10, none⟩ = some (.slice a4 n4 c4)) ∧ Ext W0 w') := Lib.hid (fun w' hx => ⟨⟨hx.keep (by subst hW; simp [go_sem]), hx.keep (by subst hW; simp [go_sem]), hx.keep (by subst hW; simp [go_sem]), hx.keep (by subst hW; simp [go_sem]), hx.keep (by subst hW; simp [go_sem]), hx.keep (by subst hW; simp [go_sem]), hx.keep (by subst hW; simp [go_sem]), hx.keep (by subst hW; simp [go_sem]), hx.keep (by subst hW; simp [go_sem]), hx.keep (by subst hW; simp [go_sem]), hx.keep (by subst hW; simp [go_sem])⟩, hx⟩); have HSf : Hid (∀ w', Ext W0 w' → ∀ o, w'.frozen? ⟨w.heap.size, o, none⟩ = false) := Lib.hid (fun w' hx o => (hx.frozen (by subst hW; simp)).trans (by subst hW; simp [go_sem])); have HSz : w.heap.size + 1 ≤ W0.heap.size := by subst hW; simp
                      rw [← hW]; clear hW; obtain ⟨⟨q0, q1, q2, q3, q4, q5, q6, q7, q8, q9, q10⟩, -⟩ := HS.out W0 (Ext.refl _); clear HS HSf HSz; go_region; have Y : Ext W0 W0.drew := (Ext.refl W0).drew; replace X := X.trans Y; replace q0 := Y.keep q0; replace q1 := Y.keep q1; replace q2 := Y.keep q2; replace q3 := Y.keep q3; replace q4 := Y.keep q4; replace q5 := Y.keep q5; replace q6 := Y.keep q6; replace q7 := Y.keep q7; replace q8 := Y.keep q8; replace q9 := Y.keep q9; replace q10 := Y.keep q10; clear Y; generalize W0.drew = W at *; (go_wp2_with fail); (with_reducible refine (HBK.out _ X).mono ?_); rintro e w1 ⟨rfl, hx⟩; have hy : Ext W w1 := by (repeat (first | exact Ext.refl _ | with_reducible (first | assumption | refine Ext.drew ?_ | refine Ext.alloc ?_ _ | refine Ext.drewN ?_ _ | refine Ext.setCell ?_ (by omega) _ | refine Ext.trans ?_ (by assumption))))
                      replace X := X.trans hy; replace q0 := hy.keep q0; replace q1 := hy.keep q1; replace q2 := hy.keep q2; replace q3 := hy.keep q3; replace q4 := hy.keep q4; replace q5 := hy.keep q5; replace q6 := hy.keep q6; replace q7 := hy.keep q7; replace q8 := hy.keep q8; replace q9 := hy.keep q9; replace q10 := hy.keep q10; clear hx hy; (go_wp2_with fail); (with_reducible refine (HDY.out _).mono ?_); rintro e w2 ⟨rfl, hx⟩; have hy : Ext w1 w2 := by (repeat (first | exact Ext.refl _ | with_reducible (first | assumption | refine Ext.drew ?_ | refine Ext.alloc ?_ _ | refine Ext.drewN ?_ _ | refine Ext.setCell ?_ (by omega) _ | refine Ext.trans ?_ (by assumption))))
                      replace X := X.trans hy; replace q0 := hy.keep q0; replace q1 := hy.keep q1; replace q2 := hy.keep q2; replace q3 := hy.keep q3; replace q4 := hy.keep q4; replace q5 := hy.keep q5; replace q6 := hy.keep q6; replace q7 := hy.keep q7; replace q8 := hy.keep q8; replace q9 := hy.keep q9; replace q10 := hy.keep q10; clear hx hy; (go_wp2_with fail); (with_reducible refine (HPA.out _ X).mono ?_); rintro e w3 ⟨rfl, hx⟩; have hy : Ext w2 w3 := by (repeat (first | exact Ext.refl _ | with_reducible (first | assumption | refine Ext.drew ?_ | refine Ext.alloc ?_ _ | refine Ext.drewN ?_ _ | refine Ext.setCell ?_ (by omega) _ | refine Ext.trans ?_ (by assumption))))
                      replace X := X.trans hy; replace q0 := hy.keep q0; replace q1 := hy.keep q1; replace q2 := hy.keep q2; replace q3 := hy.keep q3; replace q4 := hy.keep q4; replace q5 := hy.keep q5; replace q6 := hy.keep q6; replace q7 := hy.keep q7; replace q8 := hy.keep q8; replace q9 := hy.keep q9; replace q10 := hy.keep q10; clear hx hy; (go_wp2_with fail); (with_reducible refine (HOF.out _).mono ?_); rintro e w4 ⟨rfl, hx⟩; have hy : Ext w3 w4 := by (repeat (first | exact Ext.refl _ | with_reducible (first | assumption | refine Ext.drew ?_ | refine Ext.alloc ?_ _ | refine Ext.drewN ?_ _ | refine Ext.setCell ?_ (by omega) _ | refine Ext.trans ?_ (by assumption))))
                      replace X := X.trans hy; replace q0 := hy.keep q0; replace q1 := hy.keep q1; replace q2 := hy.keep q2; replace q3 := hy.keep q3; replace q4 := hy.keep q4; replace q5 := hy.keep q5; replace q6 := hy.keep q6; replace q7 := hy.keep q7; replace q8 := hy.keep q8; replace q9 := hy.keep q9; replace q10 := hy.keep q10; clear hx hy; (go_wp2_with fail); (with_reducible refine (HAC.out hsoc how _ X).mono ?_); rintro e w5 ⟨rfl, hx⟩; have hy : Ext w4 w5 := by (repeat (first | exact Ext.refl _ | with_reducible (first | assumption | refine Ext.drew ?_ | refine Ext.alloc ?_ _ | refine Ext.drewN ?_ _ | refine Ext.setCell ?_ (by omega) _ | refine Ext.trans ?_ (by assumption))))
                      replace X := X.trans hy; replace q0 := hy.keep q0; replace q1 := hy.keep q1; replace q2 := hy.keep q2; replace q3 := hy.keep q3; replace q4 := hy.keep q4; replace q5 := hy.keep q5; replace q6 := hy.keep q6; replace q7 := hy.keep q7; replace q8 := hy.keep q8; replace q9 := hy.keep q9; replace q10 := hy.keep q10; clear hx hy; (go_wp2_with fail); (with_reducible refine (HAM.out hsoc _ X).mono ?_); rintro e w6 ⟨rfl, hx⟩; have hy : Ext w5 w6 := by (repeat (first | exact Ext.refl _ | with_reducible (first | assumption | refine Ext.drew ?_ | refine Ext.alloc ?_ _ | refine Ext.drewN ?_ _ | refine Ext.setCell ?_ (by omega) _ | refine Ext.trans ?_ (by assumption))))
                      replace X := X.trans hy; replace q0 := hy.keep q0; replace q1 := hy.keep q1; replace q2 := hy.keep q2; replace q3 := hy.keep q3; replace q4 := hy.keep q4; replace q5 := hy.keep q5; replace q6 := hy.keep q6; replace q7 := hy.keep q7; replace q8 := hy.keep q8; replace q9 := hy.keep q9; replace q10 := hy.keep q10; clear hx hy; (go_wp2_with fail); go_ret; exact ⟨rfl, by (repeat (first | exact Ext.refl _ | with_reducible (first | assumption | refine Ext.drew ?_ | refine Ext.alloc ?_ _ | refine Ext.drewN ?_ _ | refine Ext.setCell ?_ (by omega) _ | refine Ext.trans ?_ (by assumption))))⟩
                    | true =>
                      have HRB := Lib.hid (HOK.out HNL.out (by omega) rfl rfl rfl rfl rfl); have HRE : Hid (r = if 2000 < manyL 2000 rs then 3 else 0) := Lib.hid (by rw [HE.out]; simp [hsoc.1]); have HMB : Hid (∀ k, 1 ≤ manyL 2000 (rs.take k) ∧ manyL 2000 (rs.take k) ≤ 2001) := Lib.hid (fun k => manyL_bd (cap := 2000) (by omega) (fun r hr => (HRB.out r (List.mem_of_mem_take hr)).2.1)); have HMN := Lib.hid (fun k (h : k < rs.length) => manyL_next 2000 h); have hln := HLN.out; clear HE HOK HLN; go_enter Tryz.func29, Tryz.ntmps29
                      (go_wp2_with fail); obtain ⟨W0, hW⟩ : ∃ W, W = (w.alloc (.cells #[.int .i64 last, .int .i64 owners, .slice a1 n1 c1, .slice a2 n2 c2, .int .i64 soc, .int .i64 day, .int .i64 parcel, .slice a3 n3 c3, .int .i64 llo, .int .i64 lhi, .slice a4 n4 c4] 57)) := ⟨_, rfl⟩; have X : Ext w W0 := by subst hW; (repeat (first | exact Ext.refl _ | with_reducible (first | assumption | refine Ext.drew ?_ | refine Ext.alloc ?_ _ | refine Ext.drewN ?_ _ | refine Ext.setCell ?_ (by omega) _ | refine Ext.trans ?_ (by assumption))))
                      have HS : Hid (∀ w', Ext W0 w' → (w'.cell? ⟨w.heap.size, 0, none⟩ = some (.int .i64 last) ∧ w'.cell? ⟨w.heap.size, 1, none⟩ = some (.int .i64 owners) ∧ w'.cell? ⟨w.heap.size, 2, none⟩ = some (.slice a1 n1 c1) ∧ w'.cell? ⟨w.heap.size, 3, none⟩ = some (.slice a2 n2 c2) ∧ w'.cell? ⟨w.heap.size, 4, none⟩ = some (.int .i64 soc) ∧ w'.cell? ⟨w.heap.size, 5, none⟩ = some (.int .i64 day) ∧ w'.cell? ⟨w.heap.size, 6, none⟩ = some (.int .i64 parcel) ∧ w'.cell? ⟨w.heap.size, 7, none⟩ = some (.slice a3 n3 c3) ∧ w'.cell? ⟨w.heap.size, 8, none⟩ = some (.int .i64 llo) ∧ w'.cell? ⟨w.heap.size, 9, none⟩ = some (.int .i64 lhi) ∧ w'.cell? ⟨w.heap.size, 10, none⟩ = some (.slice a4 n4 c4)) ∧ Ext W0 w') := Lib.hid (fun w' hx => ⟨⟨hx.keep (by subst hW; simp [go_sem]), hx.keep (by subst hW; simp [go_sem]), hx.keep (by subst hW; simp [go_sem]), hx.keep (by subst hW; simp [go_sem]), hx.keep (by subst hW; simp [go_sem]), hx.keep (by subst hW; simp [go_sem]), hx.keep (by subst hW; simp [go_sem]), hx.keep (by subst hW; simp [go_sem]), hx.keep (by subst hW; simp [go_sem]), hx.keep (by subst hW; simp [go_sem]), hx.keep (by subst hW; simp [go_sem])⟩, hx⟩); have HSf : Hid (∀ w', Ext W0 w' → ∀ o, w'.frozen? ⟨w.heap.size, o, none⟩ = false) := Lib.hid (fun w' hx o => (hx.frozen (by subst hW; simp)).trans (by subst hW; simp [go_sem])); have HSz : w.heap.size + 1 ≤ W0.heap.size := by subst hW; simp
                      rw [← hW]; clear hW; obtain ⟨⟨q0, q1, q2, q3, q4, q5, q6, q7, q8, q9, q10⟩, -⟩ := HS.out W0 (Ext.refl _); clear HS HSf HSz; go_region; have Y : Ext W0 W0.drew := (Ext.refl W0).drew; replace X := X.trans Y; replace q0 := Y.keep q0; replace q1 := Y.keep q1; replace q2 := Y.keep q2; replace q3 := Y.keep q3; replace q4 := Y.keep q4; replace q5 := Y.keep q5; replace q6 := Y.keep q6; replace q7 := Y.keep q7; replace q8 := Y.keep q8; replace q9 := Y.keep q9; replace q10 := Y.keep q10; clear Y; generalize W0.drew = W at *; (go_wp2_with fail); (with_reducible refine (HBK.out _ X).mono ?_); rintro e w1 ⟨rfl, hx⟩; have hy : Ext W w1 := by (repeat (first | exact Ext.refl _ | with_reducible (first | assumption | refine Ext.drew ?_ | refine Ext.alloc ?_ _ | refine Ext.drewN ?_ _ | refine Ext.setCell ?_ (by omega) _ | refine Ext.trans ?_ (by assumption))))
                      replace X := X.trans hy; replace q0 := hy.keep q0; replace q1 := hy.keep q1; replace q2 := hy.keep q2; replace q3 := hy.keep q3; replace q4 := hy.keep q4; replace q5 := hy.keep q5; replace q6 := hy.keep q6; replace q7 := hy.keep q7; replace q8 := hy.keep q8; replace q9 := hy.keep q9; replace q10 := hy.keep q10; clear hx hy; (go_wp2_with fail); (with_reducible refine (HDY.out _).mono ?_); rintro e w2 ⟨rfl, hx⟩; have hy : Ext w1 w2 := by (repeat (first | exact Ext.refl _ | with_reducible (first | assumption | refine Ext.drew ?_ | refine Ext.alloc ?_ _ | refine Ext.drewN ?_ _ | refine Ext.setCell ?_ (by omega) _ | refine Ext.trans ?_ (by assumption))))
                      replace X := X.trans hy; replace q0 := hy.keep q0; replace q1 := hy.keep q1; replace q2 := hy.keep q2; replace q3 := hy.keep q3; replace q4 := hy.keep q4; replace q5 := hy.keep q5; replace q6 := hy.keep q6; replace q7 := hy.keep q7; replace q8 := hy.keep q8; replace q9 := hy.keep q9; replace q10 := hy.keep q10; clear hx hy; (go_wp2_with fail); (with_reducible refine (HPA.out _ X).mono ?_); rintro e w3 ⟨rfl, hx⟩; have hy : Ext w2 w3 := by (repeat (first | exact Ext.refl _ | with_reducible (first | assumption | refine Ext.drew ?_ | refine Ext.alloc ?_ _ | refine Ext.drewN ?_ _ | refine Ext.setCell ?_ (by omega) _ | refine Ext.trans ?_ (by assumption))))
                      replace X := X.trans hy; replace q0 := hy.keep q0; replace q1 := hy.keep q1; replace q2 := hy.keep q2; replace q3 := hy.keep q3; replace q4 := hy.keep q4; replace q5 := hy.keep q5; replace q6 := hy.keep q6; replace q7 := hy.keep q7; replace q8 := hy.keep q8; replace q9 := hy.keep q9; replace q10 := hy.keep q10; clear hx hy; (go_wp2_with fail); (with_reducible refine (HOF.out _).mono ?_); rintro e w4 ⟨rfl, hx⟩; have hy : Ext w3 w4 := by (repeat (first | exact Ext.refl _ | with_reducible (first | assumption | refine Ext.drew ?_ | refine Ext.alloc ?_ _ | refine Ext.drewN ?_ _ | refine Ext.setCell ?_ (by omega) _ | refine Ext.trans ?_ (by assumption))))
                      replace X := X.trans hy; replace q0 := hy.keep q0; replace q1 := hy.keep q1; replace q2 := hy.keep q2; replace q3 := hy.keep q3; replace q4 := hy.keep q4; replace q5 := hy.keep q5; replace q6 := hy.keep q6; replace q7 := hy.keep q7; replace q8 := hy.keep q8; replace q9 := hy.keep q9; replace q10 := hy.keep q10; clear hx hy; (go_wp2_with fail); (with_reducible refine (HAC.out hsoc how _ X).mono ?_); rintro e w5 ⟨rfl, hx⟩; have hy : Ext w4 w5 := by (repeat (first | exact Ext.refl _ | with_reducible (first | assumption | refine Ext.drew ?_ | refine Ext.alloc ?_ _ | refine Ext.drewN ?_ _ | refine Ext.setCell ?_ (by omega) _ | refine Ext.trans ?_ (by assumption))))
                      replace X := X.trans hy; replace q0 := hy.keep q0; replace q1 := hy.keep q1; replace q2 := hy.keep q2; replace q3 := hy.keep q3; replace q4 := hy.keep q4; replace q5 := hy.keep q5; replace q6 := hy.keep q6; replace q7 := hy.keep q7; replace q8 := hy.keep q8; replace q9 := hy.keep q9; replace q10 := hy.keep q10; clear hx hy; (go_wp2_with fail); (with_reducible refine (HAM.out hsoc _ X).mono ?_); rintro e w6 ⟨rfl, hx⟩; have hy : Ext w5 w6 := by (repeat (first | exact Ext.refl _ | with_reducible (first | assumption | refine Ext.drew ?_ | refine Ext.alloc ?_ _ | refine Ext.drewN ?_ _ | refine Ext.setCell ?_ (by omega) _ | refine Ext.trans ?_ (by assumption))))
                      replace X := X.trans hy; replace q0 := hy.keep q0; replace q1 := hy.keep q1; replace q2 := hy.keep q2; replace q3 := hy.keep q3; replace q4 := hy.keep q4; replace q5 := hy.keep q5; replace q6 := hy.keep q6; replace q7 := hy.keep q7; replace q8 := hy.keep q8; replace q9 := hy.keep q9; replace q10 := hy.keep q10; clear hx hy; clear HBK HDY HPA HOF HAC HAM HOW; (go_wp2_with fail); (with_reducible refine (HRN.out _ X).mono ?_); rintro e w4 ⟨a, q, rfl, hown, hx4⟩; have HO := Lib.hid hown; have X4 := X.trans hx4; clear hown hx4 HRN X q0 q1 q2 q3 q4 q5 q6 q7 q8 q9 q10; (go_wp2_with fail); go_loopw [6, 77] (fun s5 s55 wr => ∃ k : Nat, k ≤ rs.length ∧ s55 = .int .i64 k ∧ s5 = .int .i64 (manyL 2000 (rs.take k)) ∧ Ext w4 wr) (fun _ s _ => rs.length - (intOf s).toNat)
                      case atStart => exact ⟨0, Nat.zero_le _, rfl, rfl, Ext.refl _⟩
                      case round =>
                        obtain ⟨k, hk, rfl, rfl, hx⟩ := hrel; obtain ⟨wo, rfl⟩ : ∃ x, x = wr := ⟨_, rfl⟩; by_cases hlt : k < rs.length
                        · obtain ⟨g, rfl, -, -, hc⟩ := Hs.Own.at rngC_len HO.out hlt; have m0 := hx.keep (hc 0 _ rfl); have m1 := hx.keep (hc 1 _ rfl); simp only [Nat.add_zero] at m0; have hr := HRB.out _ (List.getElem_mem hlt); have HN := Lib.hid (HMN.out k hlt); have hb := HMB.out k; obtain ⟨mk, hmk⟩ : ∃ x, x = manyL 2000 (rs.take k) := ⟨_, rfl⟩; have HMK := Lib.hid hmk; rw [← hmk] at HN hb ⊢; clear hmk hc; generalize rs[k] = x at *; obtain ⟨lo, hi⟩ := x; simp only at hr m0 m1 HN; have hk0 : (0 : Int) ≤ (k : Int) := by omega
                          have hk1 : (k : Int) < (rs.length : Int) := by omega
                          have hpr : 0 ≤ mk * (hi - lo + 1) ∧ mk * (hi - lo + 1) ≤ 202101 := by
                            have h1 : 0 * (hi - lo + 1) ≤ mk * (hi - lo + 1) := Int.mul_le_mul_of_nonneg_right (by omega) (by omega); have h2 : mk * (hi - lo + 1) ≤ 2001 * (hi - lo + 1) := Int.mul_le_mul_of_nonneg_right (by omega) (by omega); omega
                          have HSZ := Lib.hid (size_d lo hi (by omega)); generalize hi - lo + 1 = s at *; have hw : IntKind.i64.wrap (mk * s) = mk * s := IntWalk.i64_in _ (by omega); obtain ⟨z, hz⟩ : ∃ z, z = min (mk * s) 2001 := ⟨_, rfl⟩; have HZ : Hid (manyL 2000 (rs.take (k + 1)) = z) := Lib.hid (by rw [HN.out, hz]; rfl); have HMI := Lib.hid (min2_d (mk * s) 2001 z (by rw [hz]; omega)); clear hz HN hb hr hpr; (go_wp2_with fail); (with_reducible refine (HSZ.out _).mono ?_); rintro e w5 ⟨rfl, hx5⟩; have X5 : Ext w4 w5 := by (repeat (first | exact Ext.refl _ | with_reducible (first | assumption | refine Ext.drew ?_ | refine Ext.alloc ?_ _ | refine Ext.drewN ?_ _ | refine Ext.setCell ?_ (by omega) _ | refine Ext.trans ?_ (by assumption))))
                          clear hx5 m0 m1 hx; (go_wp2_with fail); (with_reducible refine (HMI.out _ _ (by simp [go_sem]) (by simp [go_sem]) 2 (Nat.le_refl _)).mono ?_); rintro e w6 ⟨rfl, hx6⟩; have X6 : Ext w4 w6 := by (repeat (first | exact Ext.refl _ | with_reducible (first | assumption | refine Ext.drew ?_ | refine Ext.alloc ?_ _ | refine Ext.drewN ?_ _ | refine Ext.setCell ?_ (by omega) _ | refine Ext.trans ?_ (by assumption))))
                          clear hx6 X5; (go_wp2_with fail); go_roundw
                          case rel => exact ⟨k + 1, by omega, by go_num, by rw [HZ.out], X6⟩
                          case measure => simp [intOf]; omega
                        · obtain rfl : k = rs.length := by omega
                          have HT : Hid (rs.take rs.length = rs) := Lib.hid (List.take_length); rw [HT.out]; have X7 := X4.trans hx; by_cases hq : 2000 < manyL 2000 rs
                          · have dd : decide (2000 < manyL 2000 rs) = true := decide_eq_true hq; obtain rfl : r = 3 := by rw [HRE.out, if_pos hq]
                            clear hq; (go_wp2_with fail); go_ret; exact ⟨rfl, X7⟩
                          · have dd : decide (2000 < manyL 2000 rs) = false := decide_eq_false hq; obtain rfl : r = 0 := by rw [HRE.out, if_neg hq]
                            clear hq; (go_wp2_with fail); go_ret; exact ⟨rfl, X7⟩
  · have hb : (eb != 0) = true := by rw [bne_iff_ne]; exact h0
    obtain rfl : r = eb := by rw [HE.out, if_pos h0]
    clear HE h0; go_enter Tryz.func29, Tryz.ntmps29
    (go_wp2_with fail); obtain ⟨W0, hW⟩ : ∃ W, W = (w.alloc (.cells #[.int .i64 last, .int .i64 owners, .slice a1 n1 c1, .slice a2 n2 c2, .int .i64 soc, .int .i64 day, .int .i64 parcel, .slice a3 n3 c3, .int .i64 llo, .int .i64 lhi, .slice a4 n4 c4] 57)) := ⟨_, rfl⟩; have X : Ext w W0 := by subst hW; (repeat (first | exact Ext.refl _ | with_reducible (first | assumption | refine Ext.drew ?_ | refine Ext.alloc ?_ _ | refine Ext.drewN ?_ _ | refine Ext.setCell ?_ (by omega) _ | refine Ext.trans ?_ (by assumption))))
    have HS : Hid (∀ w', Ext W0 w' → (w'.cell? ⟨w.heap.size, 0, none⟩ = some (.int .i64 last) ∧ w'.cell? ⟨w.heap.size, 1, none⟩ = some (.int .i64 owners) ∧ w'.cell? ⟨w.heap.size, 2, none⟩ = some (.slice a1 n1 c1) ∧ w'.cell? ⟨w.heap.size, 3, none⟩ = some (.slice a2 n2 c2) ∧ w'.cell? ⟨w.heap.size, 4, none⟩ = some (.int .i64 soc) ∧ w'.cell? ⟨w.heap.size, 5, none⟩ = some (.int .i64 day) ∧ w'.cell? ⟨w.heap.size, 6, none⟩ = some (.int .i64 parcel) ∧ w'.cell? ⟨w.heap.size, 7, none⟩ = some (.slice a3 n3 c3) ∧ w'.cell? ⟨w.heap.size, 8, none⟩ = some (.int .i64 llo) ∧ w'.cell? ⟨w.heap.size, 9, none⟩ = some (.int .i64 lhi) ∧ w'.cell? ⟨w.heap.size, 10, none⟩ = some (.slice a4 n4 c4)) ∧ Ext W0 w') := Lib.hid (fun w' hx => ⟨⟨hx.keep (by subst hW; simp [go_sem]), hx.keep (by subst hW; simp [go_sem]), hx.keep (by subst hW; simp [go_sem]), hx.keep (by subst hW; simp [go_sem]), hx.keep (by subst hW; simp [go_sem]), hx.keep (by subst hW; simp [go_sem]), hx.keep (by subst hW; simp [go_sem]), hx.keep (by subst hW; simp [go_sem]), hx.keep (by subst hW; simp [go_sem]), hx.keep (by subst hW; simp [go_sem]), hx.keep (by subst hW; simp [go_sem])⟩, hx⟩); have HSf : Hid (∀ w', Ext W0 w' → ∀ o, w'.frozen? ⟨w.heap.size, o, none⟩ = false) := Lib.hid (fun w' hx o => (hx.frozen (by subst hW; simp)).trans (by subst hW; simp [go_sem])); have HSz : w.heap.size + 1 ≤ W0.heap.size := by subst hW; simp
    rw [← hW]; clear hW; obtain ⟨⟨q0, q1, q2, q3, q4, q5, q6, q7, q8, q9, q10⟩, -⟩ := HS.out W0 (Ext.refl _); clear HS HSf HSz; go_region; have Y : Ext W0 W0.drew := (Ext.refl W0).drew; replace X := X.trans Y; replace q0 := Y.keep q0; replace q1 := Y.keep q1; replace q2 := Y.keep q2; replace q3 := Y.keep q3; replace q4 := Y.keep q4; replace q5 := Y.keep q5; replace q6 := Y.keep q6; replace q7 := Y.keep q7; replace q8 := Y.keep q8; replace q9 := Y.keep q9; replace q10 := Y.keep q10; clear Y; generalize W0.drew = W at *; (go_wp2_with fail); (with_reducible refine (HBK.out _ X).mono ?_); rintro e w1 ⟨rfl, hx⟩; have hy : Ext W w1 := by (repeat (first | exact Ext.refl _ | with_reducible (first | assumption | refine Ext.drew ?_ | refine Ext.alloc ?_ _ | refine Ext.drewN ?_ _ | refine Ext.setCell ?_ (by omega) _ | refine Ext.trans ?_ (by assumption))))
    replace X := X.trans hy; replace q0 := hy.keep q0; replace q1 := hy.keep q1; replace q2 := hy.keep q2; replace q3 := hy.keep q3; replace q4 := hy.keep q4; replace q5 := hy.keep q5; replace q6 := hy.keep q6; replace q7 := hy.keep q7; replace q8 := hy.keep q8; replace q9 := hy.keep q9; replace q10 := hy.keep q10; clear hx hy; (go_wp2_with fail); go_ret; exact ⟨rfl, by (repeat (first | exact Ext.refl _ | with_reducible (first | assumption | refine Ext.drew ?_ | refine Ext.alloc ?_ _ | refine Ext.drewN ?_ _ | refine Ext.setCell ?_ (by omega) _ | refine Ext.trans ?_ (by assumption))))⟩
end Go.Proofs.YtegkdnfeceomdaaGreat
/- Contracts of layer 8: shares, and their settlement. -/
namespace Go.Hs
open Go.RowKit
def sh3 (a b c : Int) : Value := .agg #[.int .i64 a, .int .i64 b, .int .i64 c]
end Go.Hs
namespace Go.Proofs.YtegkdnfeceomdaaGreat
open Go.RowKit Go.Hs
attribute [local irreducible] World.setCell World.alloc
theorem index_sh0 (a b c : Int) (w : World) : (Instr.index 133 (.agg #[.int .i64 a, .int .i64 b, .int .i64 c]) (.int .i64 0)).run Tryz.prog w = .ok (.int .i64 a) w := by kernel_rfl
theorem index_sh1 (a b c : Int) (w : World) : (Instr.index 133 (.agg #[.int .i64 a, .int .i64 b, .int .i64 c]) (.int .i64 1)).run Tryz.prog w = .ok (.int .i64 b) w := by kernel_rfl
theorem index_sh2 (a b c : Int) (w : World) : (Instr.index 133 (.agg #[.int .i64 a, .int .i64 b, .int .i64 c]) (.int .i64 2)).run Tryz.prog w = .ok (.int .i64 c) w := by kernel_rfl
set_option maxRecDepth 100000 in
set_option maxHeartbeats 4000000 in
theorem total_s (a b c : Int) (w : World) (ha : 0 ≤ a ∧ a ≤ 1000000) (hb : 0 ≤ b ∧ b ≤ 1000000) (hc : 0 ≤ c ∧ c ≤ 1000000) :
    Calls Tryz.prog 121 #[sh3 a b c] w fun e w' => e = .returned (.int .i64 (a + b + c)) ∧ Ext w w' := by
  have h0 := index_sh0 a b c; have h1 := index_sh1 a b c; have h2 := index_sh2 a b c; have w1 : IntKind.i64.wrap (a + b) = a + b := IntWalk.i64_in _ (by omega); have w2 : IntKind.i64.wrap (a + b + c) = a + b + c := IntWalk.i64_in _ (by omega); have w0 : IntKind.i64.wrap a = a := IntWalk.i64_in _ (by omega); unfold sh3; clear ha hb hc; go_enter Tryz.func121, Tryz.ntmps121
  (go_wp2_with fail); go_loopw [2, 6] (fun s2 s6 wr => ((s6 = .int .i64 0 ∧ s2 = .int .i64 0) ∨ (s6 = .int .i64 1 ∧ s2 = .int .i64 a) ∨ (s6 = .int .i64 2 ∧ s2 = .int .i64 (a + b)) ∨ (s6 = .int .i64 3 ∧ s2 = .int .i64 (a + b + c))) ∧ Ext w wr) (fun _ s _ => 3 - (intOf s).toNat)
  case atStart => exact ⟨.inl ⟨rfl, rfl⟩, by (repeat (first | exact Ext.refl _ | with_reducible (first | assumption | refine Ext.drew ?_ | refine Ext.alloc ?_ _ | refine Ext.drewN ?_ _ | refine Ext.setCell ?_ (by omega) _ | refine Ext.trans ?_ (by assumption))))⟩
  case round =>
    obtain ⟨hr, hx⟩ := hrel; rcases hr with ⟨rfl, rfl⟩ | ⟨rfl, rfl⟩ | ⟨rfl, rfl⟩ | ⟨rfl, rfl⟩
    · (go_wp2_with fail); go_roundw
      case rel => exact ⟨.inr (.inl ⟨rfl, by first | rfl | simp⟩), hx⟩
      case measure => simp [intOf]
    · (go_wp2_with fail); go_roundw
      case rel => exact ⟨.inr (.inr (.inl ⟨rfl, rfl⟩)), hx⟩
      case measure => simp [intOf]
    · (go_wp2_with fail); go_roundw
      case rel => exact ⟨.inr (.inr (.inr ⟨rfl, rfl⟩)), hx⟩
      case measure => simp [intOf]
    · (go_wp2_with fail); go_ret; exact ⟨rfl, hx⟩
end Go.Proofs.YtegkdnfeceomdaaGreat
/- Contracts of layer 8: the settlement of three shares. Printed by gen_sc.py. -/
namespace Go.Hs
open Go.RowKit
structure Sh3 (R : Nat) (x y z : Int) (w : World) : Prop where
  c0 : w.cell? ⟨R, 0, none⟩ = some (.int .i64 x)
  c1 : w.cell? ⟨R, 1, none⟩ = some (.int .i64 y)
  c2 : w.cell? ⟨R, 2, none⟩ = some (.int .i64 z)
  fr : ∀ (o : Nat), w.frozen? ⟨R, o, none⟩ = false
theorem Sh3.set0 {R : Nat} {x y z : Int} {w : World} (h : Sh3 R x y z w) (v : Int) : Sh3 R v y z (w.setCell ⟨R, 0, none⟩ (.int .i64 v)) := ⟨World.cell?_setCell_same _ _ _ h.c0, cell_ne (.inr (by decide)) h.c1, cell_ne (.inr (by decide)) h.c2, fun o => by rw [World.frozen?_setCell]; exact h.fr o⟩
theorem Sh3.set1 {R : Nat} {x y z : Int} {w : World} (h : Sh3 R x y z w) (v : Int) : Sh3 R x v z (w.setCell ⟨R, 1, none⟩ (.int .i64 v)) := ⟨cell_ne (.inr (by decide)) h.c0, World.cell?_setCell_same _ _ _ h.c1, cell_ne (.inr (by decide)) h.c2, fun o => by rw [World.frozen?_setCell]; exact h.fr o⟩
theorem Sh3.set2 {R : Nat} {x y z : Int} {w : World} (h : Sh3 R x y z w) (v : Int) : Sh3 R x y v (w.setCell ⟨R, 2, none⟩ (.int .i64 v)) := ⟨cell_ne (.inr (by decide)) h.c0, cell_ne (.inr (by decide)) h.c1, World.cell?_setCell_same _ _ _ h.c2, fun o => by rw [World.frozen?_setCell]; exact h.fr o⟩
def settle3 (amount a b c : Int) : Int × Int × Int :=
  if a + b + c ≤ amount then (a, b, c) else (amount * a / (a + b + c), amount * (a + b) / (a + b + c) - amount * a / (a + b + c), amount * (a + b + c) / (a + b + c) - amount * (a + b) / (a + b + c))
theorem settle3_eq (amount a b c : Int) : settleL amount [a, b, c] = [(settle3 amount a b c).1, (settle3 amount a b c).2.1, (settle3 amount a b c).2.2] := by
  have e : sumI [a, b, c] = a + b + c := by simp [sumI]
  unfold settleL settle3; rw [e]; split
  · rfl
  · simp [settleGo]
theorem tdiv_ok {x y : Int} (hx : 0 ≤ x) : x.tdiv y = x / y := Int.tdiv_eq_ediv_of_nonneg hx
end Go.Hs
namespace Go.Proofs.YtegkdnfeceomdaaGreat
open Go.RowKit Go.Hs
attribute [local irreducible] World.setCell World.alloc
set_option maxRecDepth 100000 in
set_option maxHeartbeats 4000000 in
theorem settle_s (a b c amount : Int) (w : World) (ha : 0 ≤ a ∧ a ≤ 5000) (hb : 0 ≤ b ∧ b ≤ 5000) (hc : 0 ≤ c ∧ c ≤ 5000) (hm : 0 ≤ amount ∧ amount ≤ 1000) :
    Calls Tryz.prog 65 #[sh3 a b c, .int .i64 amount] w fun e w' => e = .returned (sh3 (settle3 amount a b c).1 (settle3 amount a b c).2.1 (settle3 amount a b c).2.2) ∧ Ext w w' := by
  have HT : Hid (∀ W, Calls Tryz.prog 121 #[sh3 a b c] W fun e w' => e = .returned (.int .i64 (a + b + c)) ∧ Ext W w') := Lib.hid (fun W => total_s a b c W (by omega) (by omega) (by omega)); have h0 := index_sh0 a b c; have h1 := index_sh1 a b c; have h2 := index_sh2 a b c; unfold sh3 at *; by_cases hle : a + b + c ≤ amount
  · have HS : Hid (settle3 amount a b c = (a, b, c)) := Lib.hid (by unfold settle3; rw [if_pos hle]); have hd : decide (a + b + c ≤ amount) = true := decide_eq_true hle; rw [HS.out]; go_enter Tryz.func65, Tryz.ntmps65
    (go_wp2_with fail); (with_reducible refine (HT.out _).mono ?_); rintro e w1 ⟨rfl, hx1⟩; have q0 := hx1.keep (k := w.heap.size) (o := 0) (v := .int .i64 a) (by simp [go_sem]); have q1 := hx1.keep (k := w.heap.size) (o := 1) (v := .int .i64 b) (by simp [go_sem]); have q2 := hx1.keep (k := w.heap.size) (o := 2) (v := .int .i64 c) (by simp [go_sem]); have z0 := hx1.keep (k := w.heap.size + 1) (o := 0) (v := .int .i64 0) (by simp [go_sem]); have z1 := hx1.keep (k := w.heap.size + 1) (o := 1) (v := .int .i64 0) (by simp [go_sem]); have z2 := hx1.keep (k := w.heap.size + 1) (o := 2) (v := .int .i64 0) (by simp [go_sem]); have zf : ∀ o, w1.frozen? ⟨w.heap.size + 1, o, none⟩ = false := fun o => (hx1.frozen (by simp)).trans (by simp [go_sem])
    have X : Ext w w1 := by (repeat (first | exact Ext.refl _ | with_reducible (first | assumption | refine Ext.drew ?_ | refine Ext.alloc ?_ _ | refine Ext.drewN ?_ _ | refine Ext.setCell ?_ (by omega) _ | refine Ext.trans ?_ (by assumption))))
    have h3 := (((⟨z0, z1, z2, zf⟩ : Sh3 (w.heap.size + 1) 0 0 0 w1).set0 a).set1 b).set2 c; clear hx1; (go_wp2_with fail); refine bodyPost_ret (v := .agg #[.int .i64 a, .int .i64 b, .int .i64 c]) (by simp [results, Tryz.results65, go_sem, h3.c0, h3.c1, h3.c2]) rfl ⟨rfl, ?_⟩
    exact (((X.setCell (by omega) _).setCell (by omega) _).setCell (by omega) _)
  · obtain ⟨al, hal⟩ : ∃ al, al = a + b + c := ⟨_, rfl⟩
    have hp : ∀ x, 0 ≤ x → x ≤ 15000 → 0 ≤ amount * x ∧ amount * x ≤ 15000000 := fun x h1 h2 => by
      have e1 : 0 * x ≤ amount * x := Int.mul_le_mul_of_nonneg_right hm.1 h1; have e2 : amount * x ≤ 1000 * x := Int.mul_le_mul_of_nonneg_right hm.2 h1; omega
    have hq : ∀ x, 0 ≤ x → x ≤ 15000000 → 0 ≤ x / al ∧ x / al ≤ 15000000 := fun x h1 h2 => by
      have e1 := Int.ediv_nonneg h1 (show 0 ≤ al by omega); have e2 : x / al ≤ x := Int.ediv_le_self al h1; omega
    obtain ⟨p1, hp1⟩ : ∃ p, p = amount * a / al := ⟨_, rfl⟩; obtain ⟨p2, hp2⟩ : ∃ p, p = amount * (a + b) / al := ⟨_, rfl⟩; obtain ⟨p3, hp3⟩ : ∃ p, p = amount * (a + b + c) / al := ⟨_, rfl⟩; have HS : Hid (settle3 amount a b c = (p1, p2 - p1, p3 - p2)) := Lib.hid (by unfold settle3; rw [if_neg hle, ← hal, hp1, hp2, hp3, ← hal]); have m1 := hp a (by omega) (by omega); have m2 := hp (a + b) (by omega) (by omega); have m3 := hp (a + b + c) (by omega) (by omega); have n1 := hq _ m1.1 m1.2; have n2 := hq _ m2.1 m2.2; have n3 := hq _ m3.1 m3.2; rw [← hp1] at n1; rw [← hp2] at n2; rw [← hp3] at n3; have t1 : (amount * a).tdiv al = p1 := by rw [hp1]; exact tdiv_ok m1.1
    have t2 : (amount * (a + b)).tdiv al = p2 := by rw [hp2]; exact tdiv_ok m2.1
    have t3 : (amount * (a + b + c)).tdiv al = p3 := by rw [hp3]; exact tdiv_ok m3.1
    have t1' : amount * a / al = p1 := hp1.symm; have t2' : amount * (a + b) / al = p2 := hp2.symm; have t3' : amount * (a + b + c) / al = p3 := hp3.symm; have v1 : IntKind.i64.wrap a = a := IntWalk.i64_in _ (by omega); have v2 : IntKind.i64.wrap (a + b) = a + b := IntWalk.i64_in _ (by omega); have v3 : IntKind.i64.wrap (a + b + c) = a + b + c := IntWalk.i64_in _ (by omega); have v4 : IntKind.i64.wrap (amount * a) = amount * a := IntWalk.i64_in _ (by omega); have v5 : IntKind.i64.wrap (amount * (a + b)) = amount * (a + b) := IntWalk.i64_in _ (by omega); have v6 : IntKind.i64.wrap (amount * (a + b + c)) = amount * (a + b + c) := IntWalk.i64_in _ (by omega); have v7 : IntKind.i64.wrap p1 = p1 := IntWalk.i64_in _ (by omega); have v8 : IntKind.i64.wrap p2 = p2 := IntWalk.i64_in _ (by omega); have v9 : IntKind.i64.wrap p3 = p3 := IntWalk.i64_in _ (by omega); have y2 : IntKind.i64.wrap (p2 - p1) = p2 - p1 := IntWalk.i64_in _ (by omega); have y3 : IntKind.i64.wrap (p3 - p2) = p3 - p2 := IntWalk.i64_in _ (by omega); have hz : ¬ al = 0 := by omega
    have hd : decide (al ≤ amount) = false := decide_eq_false (by omega); rw [← hal] at HT; rw [HS.out]; clear hp hq m1 m2 m3 n1 n2 n3 hp1 hp2 hp3 hle ha hb hc hm HS; have HAL := Lib.hid hal; clear hal; go_enter Tryz.func65, Tryz.ntmps65
    (go_wp2_with fail); (with_reducible refine (HT.out _).mono ?_); rintro e w1 ⟨rfl, hx1⟩; have q0 := hx1.keep (k := w.heap.size) (o := 0) (v := .int .i64 a) (by simp [go_sem]); have q1 := hx1.keep (k := w.heap.size) (o := 1) (v := .int .i64 b) (by simp [go_sem]); have q2 := hx1.keep (k := w.heap.size) (o := 2) (v := .int .i64 c) (by simp [go_sem]); have z0 := hx1.keep (k := w.heap.size + 1) (o := 0) (v := .int .i64 0) (by simp [go_sem]); have z1 := hx1.keep (k := w.heap.size + 1) (o := 1) (v := .int .i64 0) (by simp [go_sem]); have z2 := hx1.keep (k := w.heap.size + 1) (o := 2) (v := .int .i64 0) (by simp [go_sem]); have zf : ∀ o, w1.frozen? ⟨w.heap.size + 1, o, none⟩ = false := fun o => (hx1.frozen (by simp)).trans (by simp [go_sem])
    have X : Ext w w1 := by (repeat (first | exact Ext.refl _ | with_reducible (first | assumption | refine Ext.drew ?_ | refine Ext.alloc ?_ _ | refine Ext.drewN ?_ _ | refine Ext.setCell ?_ (by omega) _ | refine Ext.trans ?_ (by assumption))))
    have HZ : Hid (Sh3 (w.heap.size + 1) 0 0 0 w1) := Lib.hid ⟨z0, z1, z2, zf⟩; clear hx1 HT z0 z1 z2 zf; (go_wp2_with fail); go_loopw [6, 7, 18] (fun s6 s7 s18 wr => ((s18 = .int .i64 0 ∧ s6 = .int .i64 0 ∧ s7 = .int .i64 0 ∧ Hid (Sh3 (w.heap.size + 1) 0 0 0 wr)) ∨ (s18 = .int .i64 1 ∧ s6 = .int .i64 a ∧ s7 = .int .i64 p1 ∧ Hid (Sh3 (w.heap.size + 1) p1 0 0 wr)) ∨ (s18 = .int .i64 2 ∧ s6 = .int .i64 (a + b) ∧ s7 = .int .i64 p2 ∧ Hid (Sh3 (w.heap.size + 1) p1 (p2 - p1) 0 wr)) ∨ (s18 = .int .i64 3 ∧ s6 = .int .i64 (a + b + c) ∧ s7 = .int .i64 p3 ∧ Hid (Sh3 (w.heap.size + 1) p1 (p2 - p1) (p3 - p2) wr))) ∧ Ext w wr) (fun _ _ s _ => 3 - (intOf s).toNat)
    case atStart => exact ⟨.inl ⟨rfl, rfl, rfl, HZ⟩, X⟩
    case round =>
      obtain ⟨hr, hx⟩ := hrel; obtain ⟨wo, rfl⟩ : ∃ x, x = wr := ⟨_, rfl⟩; clear q0 q1 q2; rcases hr with ⟨rfl, rfl, rfl, HC⟩ | ⟨rfl, rfl, rfl, HC⟩ | ⟨rfl, rfl, rfl, HC⟩ | ⟨rfl, rfl, rfl, HC⟩
      · have f0 := HC.out.c0; have ff := HC.out.fr; (go_wp2_with fail); go_roundw
        case rel => exact ⟨.inr (.inl ⟨rfl, by first | rfl | simp, rfl, Lib.hid (by first | exact HC.out.set0 p1 | simpa using HC.out.set0 p1)⟩), Ext.setCell hx (by omega) _⟩
        case measure => simp [intOf]
      · have f0 := HC.out.c1; have ff := HC.out.fr; (go_wp2_with fail); go_roundw
        case rel => exact ⟨.inr (.inr (.inl ⟨rfl, rfl, rfl, Lib.hid (HC.out.set1 (p2 - p1))⟩)), Ext.setCell hx (by omega) _⟩
        case measure => simp [intOf]
      · have f0 := HC.out.c2; have ff := HC.out.fr; (go_wp2_with fail); go_roundw
        case rel => exact ⟨.inr (.inr (.inr ⟨rfl, rfl, rfl, Lib.hid (HC.out.set2 (p3 - p2))⟩)), Ext.setCell hx (by omega) _⟩
        case measure => simp [intOf]
      · have g0 := HC.out.c0; have g1 := HC.out.c1; have g2 := HC.out.c2; have ff := HC.out.fr; have h3 := ((HC.out.set0 p1).set1 (p2 - p1)).set2 (p3 - p2); (go_wp2_with fail); refine bodyPost_ret (v := .agg #[.int .i64 p1, .int .i64 (p2 - p1), .int .i64 (p3 - p2)]) (by simp [results, Tryz.results65, go_sem, h3.c0, h3.c1, h3.c2]) rfl ⟨rfl, ?_⟩
        exact (((hx.setCell (by omega) _).setCell (by omega) _).setCell (by omega) _)
end Go.Proofs.YtegkdnfeceomdaaGreat
/- Contracts of layer 7: how a valid case ends in a truth. -/
namespace Go.Hs
open Go.RowKit Go.Proofs.YtegkdnfeceomdaaGreat
end Go.Hs
namespace Go.Proofs.YtegkdnfeceomdaaGreat
open Go.RowKit Go.Hs
attribute [local irreducible] World.setCell World.alloc
def PlayV (c : Cas) (t : List Thr) (w0 w : World) (v : Value) : Prop := ∃ a q, v = .agg #[.slice a c.flds.length q, .int .i64 (sumT c c.flds t).award, .int .i64 (feeA c.fee (sumT c c.flds t)), .int .i64 (feeB c.fee (sumT c c.flds t))] ∧
  IntsV w (.slice a c.flds.length q) (countsT c.flds t) ∧ Ext w0 w
theorem PlayV.ext {c : Cas} {t : List Thr} {w0 w w' : World} {v : Value} (h : PlayV c t w0 w v) (hx : Ext w w') : PlayV c t w0 w' v := by
  obtain ⟨a, q, he, h1, h2⟩ := h; exact ⟨a, q, he, h1.ext hx, h2.trans hx⟩
end Go.Proofs.YtegkdnfeceomdaaGreat
/- Sets that lie in maps: what a store makes of them, and how they are gone through. -/
namespace Go.Hs
open Go.RowKit
structure KeyT {α : Type} (P : Program) (T : TypeId) (enc : α → Value) : Prop where
  eq : ∀ a b w, ∃ r : Bool, (Op.equal T (enc a) (enc b)).run P w = .ok r w ∧ (r = true ↔ a = b)
  chk : ∀ a w, (Instr.checkKey false 10000 T (enc a)).run P w = .ok () w
  und : ∃ fs, P.underlying T = some (.struct fs)
  same : ∀ a, Instr.sameBits 10000 (enc a) (enc a) = true
def SetAt {α : Type} (enc : α → Value) (r : Nat) (S : α → Prop) (w : World) : Prop :=
  ∃ es clock, w.heap[r]? = some (.map es clock) ∧ (∀ e ∈ es.toList, (∃ a, S a ∧ e.key = enc a) ∧ e.born < clock) ∧ (∀ a, S a → ∃ e ∈ es.toList, e.key = enc a) ∧ (es.toList.map (·.born)).Nodup
section
variable {α : Type} {P : Program} {T : TypeId} {enc : α → Value}
theorem SetAt.lt {r : Nat} {S : α → Prop} {w : World} (h : SetAt enc r S w) : r < w.heap.size := by
  obtain ⟨es, clock, hr, -⟩ := h; exact (Array.getElem?_eq_some_iff.1 hr).1
theorem SetAt.of {r : Nat} {S : α → Prop} {w w' : World} (h : SetAt enc r S w) (hx : w'.heap[r]? = w.heap[r]?) : SetAt enc r S w' := by
  obtain ⟨es, clock, hr, rest⟩ := h; exact ⟨es, clock, hx.trans hr, rest⟩
theorem SetAt.congr {r : Nat} {S S' : α → Prop} {w : World} (h : SetAt enc r S w) (e : ∀ a, S a ↔ S' a) : SetAt enc r S' w := by
  obtain ⟨es, clock, hr, h1, h2, h3⟩ := h; exact ⟨es, clock, hr, fun x hx => let ⟨⟨a, ha, hk⟩, hb⟩ := h1 x hx; ⟨⟨a, (e a).1 ha, hk⟩, hb⟩, fun a ha => h2 a ((e a).2 ha), h3⟩
theorem SetAt.empty (w : World) : SetAt enc w.heap.size (fun _ : α => False) (w.alloc (.map #[] 0)) :=
  ⟨#[], 0, World.alloc_heap_new w _, fun e he => by simp at he, fun a h => h.elim, by simp⟩
theorem SetAt.noCells {r : Nat} {S : α → Prop} {w : World} (h : SetAt enc r S w) : NoCells w r := fun o => by
  obtain ⟨es, clock, hr, -⟩ := h; simp [World.cell?, hr]
theorem find_key (K : KeyT P T enc) (a : α) (i : Nat) (es : List MapEntry) (h : ∀ e ∈ es, ∃ b, e.key = enc b) :
    ∃ r, (∀ w, (Instr.findAsking T (enc a) es i).run P w = .ok r w) ∧ ((r = none ∧ ∀ e ∈ es, e.key ≠ enc a) ∨ ∃ j v, r = some (i + j, v) ∧ ∃ e, es[j]? = some e ∧ e.key = enc a) := by
  induction es generalizing i with
  | nil => exact ⟨none, fun _ => rfl, .inl ⟨rfl, fun e he => by cases he⟩⟩
  | cons e es ih =>
    obtain ⟨b, hk⟩ := h e (by simp); obtain ⟨r, hr, hor⟩ := ih (i + 1) (fun e he => h e (by simp [he])); by_cases heq : a = b
    · subst heq; refine ⟨some (i, e.val), fun w => ?_, .inr ⟨0, e.val, by simp, e, by simp, hk⟩⟩
      obtain ⟨q, hq, hqi⟩ := K.eq a a w; have : q = true := hqi.2 rfl; subst this; unfold Instr.findAsking; rw [hk, Sem.run_bind, hq]; rfl
    · refine ⟨r, fun w => ?_, ?_⟩
      · obtain ⟨q, hq, hqi⟩ := K.eq a b w
        have : q = false := by
          cases q with
          | false => rfl
          | true => exact absurd (hqi.1 rfl) heq
        subst this; unfold Instr.findAsking; rw [hk, Sem.run_bind, hq]; exact hr w
      · rcases hor with ⟨h1, h2⟩ | ⟨j, v, h1, e', h2, h3⟩
        · refine .inl ⟨h1, fun e' he' => ?_⟩
          rcases List.mem_cons.1 he' with rfl | h'
          · rw [hk]; intro hc
            obtain ⟨q, hq, hqi⟩ := K.eq b a default; obtain ⟨q2, hq2, hqi2⟩ := K.eq a a default; rw [hc] at hq; rw [hq] at hq2; have e2 : q = q2 := by injection hq2
            exact heq (hqi.1 (e2.trans (hqi2.2 rfl))).symm
          · exact h2 e' h'
        · exact .inr ⟨j + 1, v, by rw [h1]; congr 2; omega, e', by simpa using h2, h3⟩
theorem findKey_key (K : KeyT P T enc) (hagg : ∀ a, ∃ c, enc a = .agg c) (a : α) (es : List MapEntry) (h : ∀ e ∈ es, ∃ b, e.key = enc b) :
    ∃ r, (∀ w, (Instr.findKey T (enc a) es).run P w = .ok r w) ∧ ((r = none ∧ ∀ e ∈ es, e.key ≠ enc a) ∨ ∃ j v, r = some (j, v) ∧ ∃ e, es[j]? = some e ∧ e.key = enc a) := by
  obtain ⟨r, hr, ho⟩ := find_key K a 0 es h; obtain ⟨fs, hu⟩ := K.und; obtain ⟨c, hc⟩ := hagg a; cases es with
  | nil =>
    refine ⟨none, fun w => ?_, .inl ⟨rfl, fun e he => by cases he⟩⟩
    simp only [Instr.findKey, Sem.run_bind, run_underlying hu, Result.andThen_ok, Instr.findNow, Sem.run_pure]
  | cons e es =>
    refine ⟨r, fun w => ?_, by simpa using ho⟩
    have : Instr.findNow (.struct fs) (enc a) (e :: es) 0 = none := by
      rw [hc]; simp [Instr.findNow, Instr.sameNow]
    simp only [Instr.findKey, Sem.run_bind, run_underlying hu, Result.andThen_ok, this]; exact hr w
theorem SetAt.put (K : KeyT P T enc) (hagg : ∀ a, ∃ c, enc a = .agg c) {M E : TypeId} (hM : P.underlying M = some (.map T E)) {r : Nat} {S : α → Prop} {w : World} (h : SetAt enc r S w) (a : α) (v : Value) :
    ∃ o, (Instr.mapUpdate M (.map (some r)) (enc a) v).run P w = .ok () (w.putObj r o) ∧ SetAt enc r (fun x => S x ∨ x = a) (w.putObj r o) := by
  obtain ⟨es, clock, hr, h1, h2, h3⟩ := h; obtain ⟨x, hx, ho⟩ := findKey_key K hagg a es.toList (fun e he => let ⟨⟨b, _, hk⟩, _⟩ := h1 e he; ⟨b, hk⟩); have hg : (getObj r).run P w = .ok (.map es clock) w := by simp [getObj, Sem.run, hr]
  have hlt : r < w.heap.size := (Array.getElem?_eq_some_iff.1 hr).1; have hs : ∀ o : Obj, (setObj r o).run P w = .ok () (w.putObj r o) := fun o => by simp [setObj, Sem.run, hr, World.putObj]
  have hck := K.chk a; rcases ho with ⟨rfl, hno⟩ | ⟨j, v', rfl, e, hj, hk⟩
  · refine ⟨_, ?_, es.push { key := enc a, val := v, born := clock }, clock + 1, World.putObj_heap_same hlt, ?_, ?_, ?_⟩
    · simp [Instr.mapUpdate, run_underlying hM, hg, hck, hx, hs]
    · intro e he'
      simp only [Array.toList_push, List.mem_append, List.mem_cons, List.not_mem_nil, or_false] at he'; rcases he' with he' | rfl
      · obtain ⟨⟨b, hb, hbk⟩, hc⟩ := h1 e he'; exact ⟨⟨b, .inl hb, hbk⟩, by omega⟩
      · exact ⟨⟨a, .inr rfl, rfl⟩, by simp⟩
    · intro b hb
      rcases hb with hb | rfl
      · obtain ⟨e, he, hke⟩ := h2 b hb; exact ⟨e, by simp only [Array.toList_push, List.mem_append]; exact .inl he, hke⟩
      · exact ⟨_, by simp only [Array.toList_push, List.mem_append, List.mem_cons, List.not_mem_nil, or_false]; exact .inr rfl, rfl⟩
    · simp only [Array.toList_push, List.map_append, List.map_cons, List.map_nil]; rw [List.nodup_append]; refine ⟨h3, by simp, fun x hx y hy => ?_⟩
      simp only [List.mem_cons, List.not_mem_nil, or_false] at hy; subst hy; obtain ⟨e, he, rfl⟩ := List.mem_map.1 hx; have := (h1 e he).2; omega
  · have hks : (Instr.keyThatStays (((es[j]?).map (·.key)).getD (enc a)) (enc a)).run P w = .ok (enc a) w := by
      have e1 : es[j]? = some e := by simpa using hj
      rw [e1]; simp only [Option.map_some, Option.getD_some, hk, Instr.keyThatStays]; rw [K.same a]; rfl
    have hbn : ∀ l : List MapEntry, ∀ j, ((l.modify j fun e => { e with key := enc a, val := v }).map (·.born)) = l.map (·.born) := by
      intro l
      induction l with
      | nil => intro j; simp
      | cons y l ih => intro j; cases j <;> simp [ih]
    refine ⟨_, ?_, es.modify j fun e => { e with key := enc a, val := v }, clock, World.putObj_heap_same hlt, ?_, ?_, ?_⟩
    · simp [Instr.mapUpdate, run_underlying hM, hg, hck, hx, hs, hks]
    · intro e' he'
      obtain ⟨k, hk', hke⟩ := List.getElem_of_mem he'; simp only [Array.toList_modify, List.getElem_modify] at hke; split at hke
      · subst hke; exact ⟨⟨a, .inr rfl, rfl⟩, (h1 _ (List.getElem_mem _)).2⟩
      · subst hke; obtain ⟨⟨b, hb, hbk⟩, hc⟩ := h1 _ (List.getElem_mem (l := es.toList) (by simpa using hk')); exact ⟨⟨b, .inl hb, hbk⟩, hc⟩
    · have hjl : j < es.toList.length := (List.getElem?_eq_some_iff.1 hj).1; intro b hb
      by_cases hba : b = a
      · subst hba; refine ⟨{ e with key := enc b, val := v }, ?_, rfl⟩
        rw [Array.toList_modify]; refine List.mem_iff_getElem.2 ⟨j, by simpa using hjl, ?_⟩
        have e1 : es.toList[j] = e := (List.getElem?_eq_some_iff.1 hj).2; simp only [List.getElem_modify_eq, e1]
      · rcases hb with hb | rfl
        · obtain ⟨e', he', hke⟩ := h2 b hb; obtain ⟨k, hk', rfl⟩ := List.getElem_of_mem he'; by_cases hjk : j = k
          · subst hjk; have e1 : es.toList[j] = e := (List.getElem?_eq_some_iff.1 hj).2; rw [e1, hk] at hke; obtain ⟨q, hq, hqi⟩ := K.eq b a default; obtain ⟨q2, hq2, hqi2⟩ := K.eq a a default; rw [← hke] at hq; rw [hq] at hq2; have e2 : q = q2 := by injection hq2
            exact absurd (hqi.1 (e2.trans (hqi2.2 rfl))) hba
          · refine ⟨es.toList[k], ?_, hke⟩
            rw [Array.toList_modify]; refine List.mem_iff_getElem.2 ⟨k, by simpa using hk', ?_⟩
            rw [List.getElem_modify_ne _ _ hjk]
        · exact absurd rfl hba
    · rw [Array.toList_modify, hbn]; exact h3
end
end Go.Hs
/- Contracts of layer 8: the settlements that are known lie in a map; what all societies pay. -/
namespace Go.Hs
open Go.RowKit
abbrev Dmg.v (d : Dmg) : Value := .agg #[.int .i64 d.amount, .int .i64 d.s0, .int .i64 d.s1, .int .i64 d.s2]
def paysD (d : Dmg) : Int × Int × Int := settle3 d.amount d.s0 d.s1 d.s2
def paysV (d : Dmg) : Value := sh3 (paysD d).1 (paysD d).2.1 (paysD d).2.2
structure DmgOK (d : Dmg) : Prop where
  a : 0 ≤ d.amount ∧ d.amount ≤ 1000
  s0 : 0 ≤ d.s0 ∧ d.s0 ≤ 5000
  s1 : 0 ≤ d.s1 ∧ d.s1 ≤ 5000
  s2 : 0 ≤ d.s2 ∧ d.s2 ≤ 5000
def Stl (r : Nat) (w : World) : Prop := ∃ es clock, w.heap[r]? = some (.map es clock) ∧ ∀ e ∈ es.toList, ∃ d : Dmg, e.key = d.v ∧ e.val = paysV d
theorem Stl.lt {r : Nat} {w : World} (h : Stl r w) : r < w.heap.size := by
  obtain ⟨es, clock, hr, -⟩ := h; exact (Array.getElem?_eq_some_iff.1 hr).1
theorem Stl.of {r : Nat} {w w' : World} (h : Stl r w) (hx : w'.heap[r]? = w.heap[r]?) : Stl r w' := by
  obtain ⟨es, clock, hr, rest⟩ := h; exact ⟨es, clock, hx.trans hr, rest⟩
theorem Stl.ext {r : Nat} {w w' : World} (h : Stl r w) (hx : Ext w w') : Stl r w' := h.of (hx.heap h.lt)
theorem Stl.empty (w : World) : Stl w.heap.size (w.alloc (.map #[] 0)) := ⟨#[], 0, World.alloc_heap_new w _, fun e he => by simp at he⟩
theorem Stl.noCells {r : Nat} {w : World} (h : Stl r w) : NoCells w r := fun o => by
  obtain ⟨es, clock, hr, -⟩ := h; simp [World.cell?, hr]
theorem Stl.ne {r b o : Nat} {v : Value} {w : World} (h : Stl r w) (hc : w.cell? ⟨b, o, none⟩ = some v) : b ≠ r := by
  rintro rfl; obtain ⟨es, clock, hr, -⟩ := h; simp [World.cell?, hr] at hc
structure MM (m : Nat) (w w' : World) : Prop where
  kp : KP (fun j => j = m) w w'
  stl : Stl m w → Stl m w'
section
variable {m : Nat} {a b c : World}
theorem MM.refl (w : World) : MM m w w := ⟨KP.refl w, id⟩
theorem MM.trans (h : MM m a b) (k : MM m b c) : MM m a c := ⟨h.kp.trans k.kp, fun q => k.stl (h.stl q)⟩
theorem MM.ext (h : MM m a b) (k : Ext b c) : MM m a c := ⟨h.kp.ext k, fun q => (h.stl q).ext k⟩
theorem Ext.mm (h : Ext a b) : MM m a b := (MM.refl a).ext h
theorem MM.drew (h : MM m a b) : MM m a b.drew := h.ext (Ext.refl b).drew
theorem MM.alloc (h : MM m a b) (o : Obj) : MM m a (b.alloc o) := h.ext ((Ext.refl b).alloc o)
theorem MM.setCell (h : MM m a b) {T i : Nat} (hT : a.heap.size ≤ T) (hm : Stl m a) (v : Value) : MM m a (b.setCell ⟨T, i, none⟩ v) :=
  have E : Below 0 b (b.setCell ⟨T, i, none⟩ v) := Below.setCell (Below.refl 0 b) (Nat.zero_le _) v
  ⟨⟨E.os.trans h.kp.os, E.tape.trans h.kp.tape, E.output.trans h.kp.output, Nat.le_trans h.kp.size E.size, fun k hk hr => (Below.heap_setCell _ _ _ _ (show k ≠ T by omega)).trans (h.kp.block k hk hr)⟩,
   fun q => (h.stl q).of (Below.heap_setCell _ _ _ _ (show m ≠ T by have := hm.lt; omega))⟩
theorem MM.put (h : MM m a b) {o : Obj} (hm : Stl m (b.putObj m o)) : MM m a (b.putObj m o) :=
  ⟨⟨h.kp.os, h.kp.tape, h.kp.output, by simpa using h.kp.size, fun k hk hr => (World.putObj_heap_other hr).trans (h.kp.block k hk hr)⟩, fun _ => hm⟩
theorem MM.keep (h : MM m a b) (hm : Stl m a) {k o : Nat} {v : Value} (hc : a.cell? ⟨k, o, none⟩ = some v) : b.cell? ⟨k, o, none⟩ = some v := h.kp.keep (hm.ne hc) hc
theorem MM.keep' (h : MM m a b) {k o : Nat} {v : Value} (hne : k ≠ m) (hc : a.cell? ⟨k, o, none⟩ = some v) : b.cell? ⟨k, o, none⟩ = some v := h.kp.keep hne hc
theorem MM.toExt (h : MM m a b) {w : World} (hx : Ext w a) (hm : w.heap.size ≤ m) : Ext w b := h.kp.toExt hx (fun k hk => by subst hk; exact hm)
theorem MM.size (h : MM m a b) : a.heap.size ≤ b.heap.size := h.kp.size
end
theorem find_val {P : Program} {T : TypeId} {α : Type} {enc : α → Value} (K : KeyT P T enc) (a : α) (i : Nat) (es : List MapEntry) (h : ∀ e ∈ es, ∃ b, e.key = enc b) :
    ∃ r, (∀ w, (Instr.findAsking T (enc a) es i).run P w = .ok r w) ∧ ((r = none ∧ ∀ e ∈ es, e.key ≠ enc a) ∨ ∃ j e, r = some (i + j, e.val) ∧ es[j]? = some e ∧ e.key = enc a) := by
  induction es generalizing i with
  | nil => exact ⟨none, fun _ => rfl, .inl ⟨rfl, fun e he => by cases he⟩⟩
  | cons e es ih =>
    obtain ⟨b, hk⟩ := h e (by simp); obtain ⟨r, hr, hor⟩ := ih (i + 1) (fun e he => h e (by simp [he])); by_cases heq : a = b
    · subst heq; refine ⟨some (i, e.val), fun w => ?_, .inr ⟨0, e, by simp, by simp, hk⟩⟩
      obtain ⟨q, hq, hqi⟩ := K.eq a a w; have : q = true := hqi.2 rfl; subst this; unfold Instr.findAsking; rw [hk, Sem.run_bind, hq]; rfl
    · refine ⟨r, fun w => ?_, ?_⟩
      · obtain ⟨q, hq, hqi⟩ := K.eq a b w
        have : q = false := by
          cases q with
          | false => rfl
          | true => exact absurd (hqi.1 rfl) heq
        subst this; unfold Instr.findAsking; rw [hk, Sem.run_bind, hq]; exact hr w
      · rcases hor with ⟨h1, h2⟩ | ⟨j, e', h1, h2, h3⟩
        · refine .inl ⟨h1, fun e' he' => ?_⟩
          rcases List.mem_cons.1 he' with rfl | h'
          · rw [hk]; intro hc
            obtain ⟨q, hq, hqi⟩ := K.eq b a default; obtain ⟨q2, hq2, hqi2⟩ := K.eq a a default; rw [hc] at hq; rw [hq] at hq2; have e2 : q = q2 := by injection hq2
            exact heq (hqi.1 (e2.trans (hqi2.2 rfl))).symm
          · exact h2 e' h'
        · exact .inr ⟨j + 1, e', by rw [h1]; congr 2; omega, by simpa using h2, h3⟩
theorem findKey_val {P : Program} {T : TypeId} {α : Type} {enc : α → Value} (K : KeyT P T enc) (hagg : ∀ a, ∃ c, enc a = .agg c) (a : α) (es : List MapEntry) (h : ∀ e ∈ es, ∃ b, e.key = enc b) :
    ∃ r, (∀ w, (Instr.findKey T (enc a) es).run P w = .ok r w) ∧ ((r = none ∧ ∀ e ∈ es, e.key ≠ enc a) ∨ ∃ j e, r = some (j, e.val) ∧ es[j]? = some e ∧ e.key = enc a) := by
  obtain ⟨r, hr, ho⟩ := find_val K a 0 es h; obtain ⟨fs, hu⟩ := K.und; obtain ⟨c, hc⟩ := hagg a; cases es with
  | nil =>
    refine ⟨none, fun w => ?_, .inl ⟨rfl, fun e he => by cases he⟩⟩
    simp only [Instr.findKey, Sem.run_bind, run_underlying hu, Result.andThen_ok, Instr.findNow, Sem.run_pure]
  | cons e es =>
    refine ⟨r, fun w => ?_, by simpa using ho⟩
    have : Instr.findNow (.struct fs) (enc a) (e :: es) 0 = none := by
      rw [hc]; simp [Instr.findNow, Instr.sameNow]
    simp only [Instr.findKey, Sem.run_bind, run_underlying hu, Result.andThen_ok, this]; exact hr w
end Go.Hs
namespace Go.Proofs.YtegkdnfeceomdaaGreat
open Go.RowKit Go.Hs
theorem Dmg.v_inj (a b : Dmg) (h : a.v = b.v) : a = b := by
  obtain ⟨a0, a1, a2, a3⟩ := a; obtain ⟨b0, b1, b2, b3⟩ := b; simp [Dmg.v] at h
  obtain ⟨rfl, rfl, rfl, rfl⟩ := h; rfl
theorem eqd_int_n (n : Nat) (a b : Int) (w : World) : (Op.equalIn (n + 1) 3 (.int .i64 a) (.int .i64 b)).run Tryz.prog w = .ok (a == b) w := by
  simp [Op.equalIn, go_sem]
theorem eqd_arr_n (n : Nat) (b c d b' c' d' : Int) (w : World) :
    (Op.equalIn (n + 2) 133 (.agg #[.int .i64 b, .int .i64 c, .int .i64 d]) (.agg #[.int .i64 b', .int .i64 c', .int .i64 d'])).run Tryz.prog w = .ok (b == b' && (c == c' && d == d')) w := by
  rw [Op.equalIn]; simp only [Sem.run_bind, run_underlying Tryz.underlying133, Result.andThen_ok]; simp only [Std.Legacy.Range.forIn_eq_forIn_range', Std.Legacy.Range.size, Nat.sub_zero, Nat.add_sub_cancel, Nat.div_one, List.range'_succ, List.range'_zero, List.forIn_cons, List.forIn_nil]; have h := eqd_int_n n; generalize Op.equalIn (n + 1) = eqn at *; go_simp; by_cases h2 : b = b' <;> by_cases h3 : c = c' <;> by_cases h4 : d = d' <;> simp [h2, h3, h4]
theorem eqd_n (n : Nat) (a b c d a' b' c' d' : Int) (w : World) :
    (Op.equalIn (n + 3) 139 (.agg #[.int .i64 a, .int .i64 b, .int .i64 c, .int .i64 d]) (.agg #[.int .i64 a', .int .i64 b', .int .i64 c', .int .i64 d'])).run Tryz.prog w = .ok (a == a' && (b == b' && (c == c' && d == d'))) w := by
  have h := eqd_arr_n n; have h1 := eqd_int_n (n + 1); rw [Op.equalIn]; generalize Op.equalIn (n + 2) = eqn at *; simp only [Sem.run_bind, run_underlying Tryz.underlying139, Result.andThen_ok]; go_simp; by_cases h0 : a = a' <;> simp [h0]
  by_cases h2 : b = b' <;> by_cases h3 : c = c' <;> by_cases h4 : d = d' <;> simp [h2, h3, h4]
theorem eqd (a b c d a' b' c' d' : Int) (w : World) :
    (Op.equal 139 (.agg #[.int .i64 a, .int .i64 b, .int .i64 c, .int .i64 d]) (.agg #[.int .i64 a', .int .i64 b', .int .i64 c', .int .i64 d'])).run Tryz.prog w = .ok (a == a' && (b == b' && (c == c' && d == d'))) w :=
  eqd_n 9997 a b c d a' b' c' d' w
theorem check_dmg (em : Bool) (a b c d : Int) (w : World) :
    (Instr.checkKey em 10000 139 (.agg #[.int .i64 a, .int .i64 b, .int .i64 c, .int .i64 d])).run Tryz.prog w = .ok () w := by
  have : ∀ n, (Instr.checkKey em (n + 3) 139 (.agg #[.int .i64 a, .int .i64 b, .int .i64 c, .int .i64 d])).run Tryz.prog w = .ok () w := by
    intro n
    simp [Instr.checkKey, go_sem, Std.Legacy.Range.forIn_eq_forIn_range', Std.Legacy.Range.size, List.range'_succ]
  exact this 9997
theorem kDmg : KeyT Tryz.prog 139 Dmg.v := by
  refine ⟨fun a b w => ⟨_, eqd _ _ _ _ _ _ _ _ w, ?_⟩, fun a w => check_dmg _ _ _ _ _ w, ⟨_, Tryz.underlying139⟩, fun a => ?_⟩
  · obtain ⟨a0, a1, a2, a3⟩ := a; obtain ⟨b0, b1, b2, b3⟩ := b; simp only [Bool.and_eq_true, beq_iff_eq, Dmg.mk.injEq]
  · have : ∀ n, Instr.sameBits (n + 2) a.v a.v = true := by intro n; simp [Instr.sameBits, Dmg.v]
    exact this 9998
theorem zero_sh (w : World) : (zeroValue 133).run Tryz.prog w = .ok (sh3 0 0 0) w := by kernel_rfl
theorem memo_get {r : Nat} {w : World} (h : Stl r w) (d : Dmg) : ∃ k : Bool, ∀ w', w'.heap[r]? = w.heap[r]? → (Instr.lookup 168 (.map (some r)) d.v true).run Tryz.prog w' = .ok (.tuple #[if k then paysV d else sh3 0 0 0, .bool k]) w' := by
  obtain ⟨es, clock, hr, h1⟩ := h; obtain ⟨x, hx, ho⟩ := findKey_val kDmg (fun a => ⟨_, rfl⟩) d es.toList (fun e he => let ⟨b, hk, _⟩ := h1 e he; ⟨b, hk⟩); rw [hr]; rcases ho with ⟨rfl, hno⟩ | ⟨j, e, rfl, hj, hk⟩
  · refine ⟨false, fun w' hr => ?_⟩
    have hg : (getObj r).run Tryz.prog w' = .ok (.map es clock) w' := by simp [getObj, Sem.run, hr]
    have hck := fun em => check_dmg em d.amount d.s0 d.s1 d.s2 w'
    have hz := zero_sh w'; simp [Instr.lookup, run_underlying Tryz.underlying168, hg, hck, hx]
    rfl
  · refine ⟨true, fun w' hr => ?_⟩
    have hg : (getObj r).run Tryz.prog w' = .ok (.map es clock) w' := by simp [getObj, Sem.run, hr]
    have hck := fun em => check_dmg em d.amount d.s0 d.s1 d.s2 w'
    obtain ⟨b, hb, hv⟩ := h1 e (List.mem_of_getElem? hj); have : b = d := Dmg.v_inj _ _ (hb.symm.trans hk); subst this; simp [Instr.lookup, run_underlying Tryz.underlying168, hg, hck, hx, hv]
theorem memo_put {r : Nat} {w : World} (h : Stl r w) (d : Dmg) : ∃ o, (Instr.mapUpdate 168 (.map (some r)) d.v (paysV d)).run Tryz.prog w = .ok () (w.putObj r o) ∧ Stl r (w.putObj r o) := by
  obtain ⟨es, clock, hr, h1⟩ := h; obtain ⟨x, hx, ho⟩ := findKey_val kDmg (fun a => ⟨_, rfl⟩) d es.toList (fun e he => let ⟨b, hk, _⟩ := h1 e he; ⟨b, hk⟩); have hg : (getObj r).run Tryz.prog w = .ok (.map es clock) w := by simp [getObj, Sem.run, hr]
  have hlt : r < w.heap.size := (Array.getElem?_eq_some_iff.1 hr).1; have hs : ∀ o : Obj, (setObj r o).run Tryz.prog w = .ok () (w.putObj r o) := fun o => by simp [setObj, Sem.run, hr, World.putObj]
  have hck := fun em => check_dmg em d.amount d.s0 d.s1 d.s2 w
  have hsame := kDmg.same d; rcases ho with ⟨rfl, hno⟩ | ⟨j, e, rfl, hj, hk⟩
  · refine ⟨_, ?_, es.push { key := d.v, val := paysV d, born := clock }, clock + 1, World.putObj_heap_same hlt, ?_⟩
    · simp [Instr.mapUpdate, run_underlying Tryz.underlying168, hg, hck, hx, hs]
    · intro e he'
      simp only [Array.toList_push, List.mem_append, List.mem_cons, List.not_mem_nil, or_false] at he'; rcases he' with he' | rfl
      · exact h1 e he'
      · exact ⟨d, rfl, rfl⟩
  · have hks : (Instr.keyThatStays (((es[j]?).map (·.key)).getD d.v) d.v).run Tryz.prog w = .ok d.v w := by
      have e1 : es[j]? = some e := by simpa using hj
      rw [e1]; simp only [Option.map_some, Option.getD_some, hk, Instr.keyThatStays]; rw [hsame]; rfl
    refine ⟨_, ?_, es.modify j fun e => { e with key := d.v, val := paysV d }, clock, World.putObj_heap_same hlt, ?_⟩
    · simp [Instr.mapUpdate, run_underlying Tryz.underlying168, hg, hck, hx, hs, hks]
    · intro e' he'
      obtain ⟨k, hk', hke⟩ := List.getElem_of_mem he'; simp only [Array.toList_modify, List.getElem_modify] at hke; split at hke
      · subst hke; exact ⟨d, rfl, rfl⟩
      · subst hke; exact h1 _ (List.getElem_mem (l := es.toList) (by simpa using hk'))
attribute [local irreducible] World.setCell World.alloc
set_option maxRecDepth 100000 in
set_option maxHeartbeats 4000000 in
theorem pays_d (p m : Nat) (d : Dmg) (w : World) (hp : w.cell? ⟨p, 11, none⟩ = some (.map (some m))) (hs : Stl m w) (hd : DmgOK d) :
    Calls Tryz.prog 75 #[.pointer (some ⟨p, 0, none⟩), d.v] w fun e w' => e = .returned (paysV d) ∧ MM m w w' := by
  have HST := Lib.hid (fun W => settle_s d.s0 d.s1 d.s2 d.amount W hd.s0 hd.s1 hd.s2 hd.a); have HPV : Hid (paysV d = sh3 (settle3 d.amount d.s0 d.s1 d.s2).1 (settle3 d.amount d.s0 d.s1 d.s2).2.1 (settle3 d.amount d.s0 d.s1 d.s2).2.2) := rfl; have HGET := Lib.hid (fun W (h : Stl m W) => memo_get h d); have HPUT := Lib.hid (fun W (h : Stl m W) => memo_put h d); have hml := hs.lt; have hS := Lib.hid hs; rw [HPV.out] at HGET HPUT ⊢; clear hd hs HPV; generalize (settle3 d.amount d.s0 d.s1 d.s2).1 = z0 at *; generalize (settle3 d.amount d.s0 d.s1 d.s2).2.1 = z1 at *; generalize (settle3 d.amount d.s0 d.s1 d.s2).2.2 = z2 at *; obtain ⟨am, s0, s1, s2⟩ := d; simp only [Dmg.v] at *; unfold sh3 at *; go_enter Tryz.func75, Tryz.ntmps75
  (go_wp2_with fail); obtain ⟨W, hW⟩ : ∃ W, W = ((w.alloc (.cells #[.int .i64 am, .int .i64 s0, .int .i64 s1, .int .i64 s2] 139)).alloc (.cells #[.int .i64 0, .int .i64 0, .int .i64 0] 133)) := ⟨_, rfl⟩; have X : Ext w W := by subst hW; (repeat (first | exact Ext.refl _ | with_reducible (first | assumption | refine Ext.drew ?_ | refine Ext.alloc ?_ _ | refine Ext.drewN ?_ _ | refine Ext.setCell ?_ (by omega) _ | refine Ext.trans ?_ (by assumption))))
  have HS : Hid (∀ w', Ext W w' → (w'.cell? ⟨w.heap.size, 0, none⟩ = some (.int .i64 am) ∧ w'.cell? ⟨w.heap.size, 1, none⟩ = some (.int .i64 s0) ∧ w'.cell? ⟨w.heap.size, 2, none⟩ = some (.int .i64 s1) ∧ w'.cell? ⟨w.heap.size, 3, none⟩ = some (.int .i64 s2) ∧ w'.cell? ⟨w.heap.size + 1, 0, none⟩ = some (.int .i64 0) ∧ w'.cell? ⟨w.heap.size + 1, 1, none⟩ = some (.int .i64 0) ∧ w'.cell? ⟨w.heap.size + 1, 2, none⟩ = some (.int .i64 0)) ∧ Ext W w') := Lib.hid (fun w' hx => ⟨⟨hx.keep (by subst hW; simp [go_sem]), hx.keep (by subst hW; simp [go_sem]), hx.keep (by subst hW; simp [go_sem]), hx.keep (by subst hW; simp [go_sem]), hx.keep (by subst hW; simp [go_sem]), hx.keep (by subst hW; simp [go_sem]), hx.keep (by subst hW; simp [go_sem])⟩, hx⟩); have HSf : Hid (∀ w', Ext W w' → ∀ o, w'.frozen? ⟨w.heap.size + 1, o, none⟩ = false) := Lib.hid (fun w' hx o => (hx.frozen (by subst hW; simp)).trans (by subst hW; simp [go_sem])); have HSz : w.heap.size + 1 + 1 ≤ W.heap.size := by subst hW; simp
  rw [← hW]; clear hW; obtain ⟨⟨q0, q1, q2, q3, r0, r1, r2⟩, -⟩ := HS.out W (Ext.refl _); have rf := HSf.out W (Ext.refl _); have hpW := X.keep hp; have hpW0 := hp; have hSW := Lib.hid (hS.out.ext X); have hne : ¬ p = m := hS.out.ne hp; clear HS HSf hp; obtain ⟨k, hk⟩ := HGET.out W hSW.out; have hmW : m < W.heap.size := hSW.out.lt; have hk0 := hk W.drew rfl; have hk1 := fun o => hk (W.alloc o).drew (Below.heap_alloc _ _ _ hmW)
  have a0 := fun o => ((Ext.refl W).alloc o).keep q0
  have a1 := fun o => ((Ext.refl W).alloc o).keep q1
  have a2 := fun o => ((Ext.refl W).alloc o).keep q2
  have a3 := fun o => ((Ext.refl W).alloc o).keep q3
  have a4 := fun o => ((Ext.refl W).alloc o).keep hpW
  clear hk; have XM : Hid (MM m w W) := Lib.hid X.mm; cases k with
  | true =>
    simp only [if_true] at hk0 hk1; go_region; clear hk0 hk1 a0 a1 a2 a3 a4; have Y : Ext W (W.alloc (.cells #[.int .i64 z0, .int .i64 z1, .int .i64 z2] 133)).drew := by (repeat (first | exact Ext.refl _ | with_reducible (first | assumption | refine Ext.drew ?_ | refine Ext.alloc ?_ _ | refine Ext.drewN ?_ _ | refine Ext.setCell ?_ (by omega) _ | refine Ext.trans ?_ (by assumption))))
    have u0 : (W.alloc (.cells #[.int .i64 z0, .int .i64 z1, .int .i64 z2] 133)).drew.cell? ⟨W.heap.size, 0, none⟩ = some (.int .i64 z0) := by simp [go_sem]
    have u1 : (W.alloc (.cells #[.int .i64 z0, .int .i64 z1, .int .i64 z2] 133)).drew.cell? ⟨W.heap.size, 1, none⟩ = some (.int .i64 z1) := by simp [go_sem]
    have u2 : (W.alloc (.cells #[.int .i64 z0, .int .i64 z1, .int .i64 z2] 133)).drew.cell? ⟨W.heap.size, 2, none⟩ = some (.int .i64 z2) := by simp [go_sem]
    have uf : ∀ o, (W.alloc (.cells #[.int .i64 z0, .int .i64 z1, .int .i64 z2] 133)).drew.frozen? ⟨W.heap.size, o, none⟩ = false := by simp [go_sem]
    replace rf := fun o => (Y.frozen (o := o) (lt_of_cell r0)).trans (rf o)
    replace q0 := Y.keep q0; replace q1 := Y.keep q1; replace q2 := Y.keep q2; replace q3 := Y.keep q3; replace r0 := Y.keep r0; replace r1 := Y.keep r1; replace r2 := Y.keep r2; replace hpW := Y.keep hpW; generalize (W.alloc (.cells #[.int .i64 z0, .int .i64 z1, .int .i64 z2] 133)).drew = V at *; (go_wp2_with fail); refine bodyPost_ret (v := .agg #[.int .i64 z0, .int .i64 z1, .int .i64 z2]) (by simp [results, Tryz.results75, go_sem, r0, r1, r2]) rfl ⟨rfl, ?_⟩
    exact (((XM.out.ext Y).setCell (by omega) hS.out _).setCell (by omega) hS.out _).setCell (by omega) hS.out _
  | false =>
    simp only [Bool.false_eq_true, if_false] at hk0 hk1; go_region; clear hk0 hk1 a0 a1 a2 a3 a4; have Y : Ext W (W.alloc (.cells #[.int .i64 0, .int .i64 0, .int .i64 0] 133)).drew := by (repeat (first | exact Ext.refl _ | with_reducible (first | assumption | refine Ext.drew ?_ | refine Ext.alloc ?_ _ | refine Ext.drewN ?_ _ | refine Ext.setCell ?_ (by omega) _ | refine Ext.trans ?_ (by assumption))))
    have u0 : (W.alloc (.cells #[.int .i64 0, .int .i64 0, .int .i64 0] 133)).drew.cell? ⟨W.heap.size, 0, none⟩ = some (.int .i64 0) := by simp [go_sem]
    have u1 : (W.alloc (.cells #[.int .i64 0, .int .i64 0, .int .i64 0] 133)).drew.cell? ⟨W.heap.size, 1, none⟩ = some (.int .i64 0) := by simp [go_sem]
    have u2 : (W.alloc (.cells #[.int .i64 0, .int .i64 0, .int .i64 0] 133)).drew.cell? ⟨W.heap.size, 2, none⟩ = some (.int .i64 0) := by simp [go_sem]
    have uf : ∀ o, (W.alloc (.cells #[.int .i64 0, .int .i64 0, .int .i64 0] 133)).drew.frozen? ⟨W.heap.size, o, none⟩ = false := by simp [go_sem]
    replace rf := fun o => (Y.frozen (o := o) (lt_of_cell r0)).trans (rf o)
    replace q0 := Y.keep q0; replace q1 := Y.keep q1; replace q2 := Y.keep q2; replace q3 := Y.keep q3; replace r0 := Y.keep r0; replace r1 := Y.keep r1; replace r2 := Y.keep r2; replace hpW := Y.keep hpW; generalize (W.alloc (.cells #[.int .i64 0, .int .i64 0, .int .i64 0] 133)).drew = V at *; (go_wp2_with fail); (with_reducible refine (HST.out _).mono ?_); rintro e w1 ⟨rfl, hx1⟩; have Y1 := Lib.hid (Y.trans hx1); replace rf := fun o => (hx1.frozen (o := o) (lt_of_cell r0)).trans (rf o)
    replace uf := fun o => (hx1.frozen (o := o) (lt_of_cell u0)).trans (uf o)
    replace q0 := hx1.keep q0; replace q1 := hx1.keep q1; replace q2 := hx1.keep q2; replace q3 := hx1.keep q3; replace r0 := hx1.keep r0; replace r1 := hx1.keep r1; replace r2 := hx1.keep r2; replace hpW := hx1.keep hpW; replace u0 := hx1.keep u0; replace u1 := hx1.keep u1; replace u2 := hx1.keep u2; have hw1 : W.heap.size < w1.heap.size := lt_of_cell u0; clear hx1 Y; have hnm : ¬ w.heap.size + 1 = m := by omega
    have hnq : ¬ w.heap.size = W.heap.size := by omega
    have hnq1 : ¬ w.heap.size + 1 = W.heap.size := by omega
    have hnp : ¬ p = W.heap.size := by have h : p < w.heap.size := lt_of_cell hpW0; have := X.size; omega
    have M1 : Hid (MM m w (((w1.setCell ⟨W.heap.size, 0, none⟩ (.int .i64 z0)).setCell ⟨W.heap.size, 1, none⟩ (.int .i64 z1)).setCell ⟨W.heap.size, 2, none⟩ (.int .i64 z2)).drew) := Lib.hid (((((XM.out.ext Y1.out).setCell (by omega) hS.out _).setCell (by omega) hS.out _).setCell (by omega) hS.out _).drew); have v0 : (((w1.setCell ⟨W.heap.size, 0, none⟩ (.int .i64 z0)).setCell ⟨W.heap.size, 1, none⟩ (.int .i64 z1)).setCell ⟨W.heap.size, 2, none⟩ (.int .i64 z2)).drew.cell? ⟨W.heap.size, 0, none⟩ = some (.int .i64 z0) := by simp [go_sem, u0, u1, u2]
    have v1 : (((w1.setCell ⟨W.heap.size, 0, none⟩ (.int .i64 z0)).setCell ⟨W.heap.size, 1, none⟩ (.int .i64 z1)).setCell ⟨W.heap.size, 2, none⟩ (.int .i64 z2)).drew.cell? ⟨W.heap.size, 1, none⟩ = some (.int .i64 z1) := by simp [go_sem, u0, u1, u2]
    have v2 : (((w1.setCell ⟨W.heap.size, 0, none⟩ (.int .i64 z0)).setCell ⟨W.heap.size, 1, none⟩ (.int .i64 z1)).setCell ⟨W.heap.size, 2, none⟩ (.int .i64 z2)).drew.cell? ⟨W.heap.size, 2, none⟩ = some (.int .i64 z2) := by simp [go_sem, u0, u1, u2]
    have x0 : (((w1.setCell ⟨W.heap.size, 0, none⟩ (.int .i64 z0)).setCell ⟨W.heap.size, 1, none⟩ (.int .i64 z1)).setCell ⟨W.heap.size, 2, none⟩ (.int .i64 z2)).drew.cell? ⟨w.heap.size + 1, 0, none⟩ = some (.int .i64 0) := by simp [go_sem, r0, hnq1]
    have x1 : (((w1.setCell ⟨W.heap.size, 0, none⟩ (.int .i64 z0)).setCell ⟨W.heap.size, 1, none⟩ (.int .i64 z1)).setCell ⟨W.heap.size, 2, none⟩ (.int .i64 z2)).drew.cell? ⟨w.heap.size + 1, 1, none⟩ = some (.int .i64 0) := by simp [go_sem, r1, hnq1]
    have x2 : (((w1.setCell ⟨W.heap.size, 0, none⟩ (.int .i64 z0)).setCell ⟨W.heap.size, 1, none⟩ (.int .i64 z1)).setCell ⟨W.heap.size, 2, none⟩ (.int .i64 z2)).drew.cell? ⟨w.heap.size + 1, 2, none⟩ = some (.int .i64 0) := by simp [go_sem, r2, hnq1]
    have xf : ∀ o, (((w1.setCell ⟨W.heap.size, 0, none⟩ (.int .i64 z0)).setCell ⟨W.heap.size, 1, none⟩ (.int .i64 z1)).setCell ⟨W.heap.size, 2, none⟩ (.int .i64 z2)).drew.frozen? ⟨w.heap.size + 1, o, none⟩ = false := fun o => by simp [go_sem, rf]
    obtain ⟨o, hput, hst2⟩ := HPUT.out _ (M1.out.stl hS.out); have MV : MM m _ (((((w1.setCell ⟨W.heap.size, 0, none⟩ (.int .i64 z0)).setCell ⟨W.heap.size, 1, none⟩ (.int .i64 z1)).setCell ⟨W.heap.size, 2, none⟩ (.int .i64 z2)).drew).putObj m o) := (MM.refl _).put hst2; have M2 := Lib.hid (M1.out.trans MV); replace v0 := MV.keep' (by omega) v0; replace v1 := MV.keep' (by omega) v1; replace v2 := MV.keep' (by omega) v2; replace xf := fun o => (MV.kp.frozen (o := o) (lt_of_cell x0) hnm).trans (xf o)
    replace x0 := MV.keep' (by omega) x0; replace x1 := MV.keep' (by omega) x1; replace x2 := MV.keep' (by omega) x2; clear hst2 MV; (go_wp2_with fail); go_region; clear hput hnm r0 r1 r2 u0 u1 u2 rf uf q0 q1 q2 q3 hpW; generalize ((((w1.setCell ⟨W.heap.size, 0, none⟩ (.int .i64 z0)).setCell ⟨W.heap.size, 1, none⟩ (.int .i64 z1)).setCell ⟨W.heap.size, 2, none⟩ (.int .i64 z2)).drew).putObj m o = V9 at *; (go_wp2_with fail); refine bodyPost_ret (v := .agg #[.int .i64 z0, .int .i64 z1, .int .i64 z2]) (by simp [results, Tryz.results75, go_sem, x0, x1, x2]) rfl ⟨rfl, ?_⟩
    exact ((M2.out.setCell (by omega) hS.out _).setCell (by omega) hS.out _).setCell (by omega) hS.out _
end Go.Proofs.YtegkdnfeceomdaaGreat
/- Contracts of layer 8: a case at work; whether a claim is right. -/
namespace Go.Hs
open Go.RowKit
structure WkD (W0 : World) (p m : Nat) (A : CaseA) (c : DCas) (w : World) : Prop where
  ext : Ext W0 w
  box : ∀ i x, (caseL A.a1 c.bk.pars.length A.c1 A.a2 c.bk.ents.length A.c2 A.a3 c.covs.length A.c3 A.a4 c.clms.length A.c4 c.bk.last c.bk.owners c.soc c.day c.parcel c.llo c.lhi)[i]? = some x → w.cell? ⟨p, i, none⟩ = some x
  map : w.cell? ⟨p, 11, none⟩ = some (.map (some m))
  stl : Stl m w
  fr : ∀ o, w.frozen? ⟨p, o, none⟩ = false
  hp : W0.heap.size ≤ p
  hm : W0.heap.size ≤ m
section
variable {W0 w w' : World} {p m : Nat} {A : CaseA} {c : DCas}
theorem WkD.lt (h : WkD W0 p m A c w) : p < w.heap.size := lt_of_cell h.map
theorem WkD.ne (h : WkD W0 p m A c w) : p ≠ m := h.stl.ne h.map
theorem WkD.mm (h : WkD W0 p m A c w) (k : MM m w w') : WkD W0 p m A c w' :=
  ⟨k.toExt h.ext h.hm, fun i x hi => k.keep' h.ne (h.box i x hi), k.keep' h.ne h.map, k.stl h.stl, fun o => (k.kp.frozen h.lt h.ne).trans (h.fr o), h.hp, h.hm⟩
theorem WkD.grow (h : WkD W0 p m A c w) (k : Ext w w') : WkD W0 p m A c w' := h.mm k.mm
structure BoxD (p m : Nat) (A : CaseA) (c : DCas) (w : World) : Prop where
  c0 : w.cell? ⟨p, 0, none⟩ = some (.int .i64 c.bk.last)
  c1 : w.cell? ⟨p, 1, none⟩ = some (.int .i64 c.bk.owners)
  c2 : w.cell? ⟨p, 2, none⟩ = some (.slice A.a1 c.bk.pars.length A.c1)
  c3 : w.cell? ⟨p, 3, none⟩ = some (.slice A.a2 c.bk.ents.length A.c2)
  c4 : w.cell? ⟨p, 4, none⟩ = some (.int .i64 c.soc)
  c5 : w.cell? ⟨p, 5, none⟩ = some (.int .i64 c.day)
  c6 : w.cell? ⟨p, 6, none⟩ = some (.int .i64 c.parcel)
  c7 : w.cell? ⟨p, 7, none⟩ = some (.slice A.a3 c.covs.length A.c3)
  c8 : w.cell? ⟨p, 8, none⟩ = some (.int .i64 c.llo)
  c9 : w.cell? ⟨p, 9, none⟩ = some (.int .i64 c.lhi)
  c10 : w.cell? ⟨p, 10, none⟩ = some (.slice A.a4 c.clms.length A.c4)
  c11 : w.cell? ⟨p, 11, none⟩ = some (.map (some m))
theorem WkD.cells (h : WkD W0 p m A c w) : BoxD p m A c w :=
  ⟨h.box 0 _ rfl, h.box 1 _ rfl, h.box 2 _ rfl, h.box 3 _ rfl, h.box 4 _ rfl, h.box 5 _ rfl, h.box 6 _ rfl, h.box 7 _ rfl, h.box 8 _ rfl, h.box 9 _ rfl, h.box 10 _ rfl, h.map⟩
theorem BoxD.wkd (h : BoxD p m A c w) (hx : Ext W0 w) (hs : Stl m w) (fr : ∀ o, w.frozen? ⟨p, o, none⟩ = false) (hp : W0.heap.size ≤ p) (hm : W0.heap.size ≤ m) : WkD W0 p m A c w := by
  refine ⟨hx, fun i x hi => ?_, h.c11, hs, fr, hp, hm⟩
  rcases i with _ | _ | _ | _ | _ | _ | _ | _ | _ | _ | _ | i
  all_goals first
    | (simp [caseL] at hi; done)
    | (simp [caseL] at hi; subst hi; first | exact h.c0 | exact h.c1 | exact h.c2 | exact h.c3 | exact h.c4 | exact h.c5 | exact h.c6 | exact h.c7 | exact h.c8 | exact h.c9 | exact h.c10)
end
theorem stl_at {w W : World} {r : Nat} (h : w.heap.size = r) (hx : Ext (w.alloc (.map #[] 0)) W) : Stl r W := by subst h; exact (Stl.empty w).ext hx
def payD (d : Dmg) (k : Int) : Int := if k = 0 then (paysD d).1 else if k = 1 then (paysD d).2.1 else (paysD d).2.2
def rightD (x : Clm) (d : Dmg) : Bool := inR (payD d x.soc) x.plo x.phi
end Go.Hs
namespace Go.Proofs.YtegkdnfeceomdaaGreat
open Go.RowKit Go.Hs
attribute [local irreducible] World.setCell World.alloc
set_option maxRecDepth 100000 in
set_option maxHeartbeats 4000000 in
theorem work_d (W0 : World) (A : CaseA) (c : DCas) (w : World) (hx : Ext W0 w) :
    Calls Tryz.prog 70 #[A.v c] w fun e w' => ∃ p m, e = .returned (.pointer (some ⟨p, 0, none⟩)) ∧ WkD W0 p m A c w' ∧ Ext w w' := by
  obtain ⟨a1, c1, a2, c2, a3, c3, a4, c4⟩ := A
  have HB : Hid (∀ W V, BoxD (w.heap.size + 2) (w.heap.size + 1) ⟨a1, c1, a2, c2, a3, c3, a4, c4⟩ c W → Ext w W → Stl (w.heap.size + 1) W → (∀ o, W.frozen? ⟨w.heap.size + 2, o, none⟩ = false) → W = V → WkD W0 (w.heap.size + 2) (w.heap.size + 1) ⟨a1, c1, a2, c2, a3, c3, a4, c4⟩ c V ∧ Ext w V) := Lib.hid (by
    rintro W V hB hE hS hF rfl; have := hx.size; exact ⟨hB.wkd (hx.trans hE) hS hF (by omega) (by omega), hE⟩)
  have HB2 : Hid (∀ W, W.cell? ⟨w.heap.size + 2, 0, none⟩ = some (.int .i64 c.bk.last) → W.cell? ⟨w.heap.size + 2, 1, none⟩ = some (.int .i64 c.bk.owners) → W.cell? ⟨w.heap.size + 2, 2, none⟩ = some (.slice a1 c.bk.pars.length c1) → W.cell? ⟨w.heap.size + 2, 3, none⟩ = some (.slice a2 c.bk.ents.length c2) → W.cell? ⟨w.heap.size + 2, 4, none⟩ = some (.int .i64 c.soc) → W.cell? ⟨w.heap.size + 2, 5, none⟩ = some (.int .i64 c.day) → W.cell? ⟨w.heap.size + 2, 6, none⟩ = some (.int .i64 c.parcel) → W.cell? ⟨w.heap.size + 2, 7, none⟩ = some (.slice a3 c.covs.length c3) → W.cell? ⟨w.heap.size + 2, 8, none⟩ = some (.int .i64 c.llo) → W.cell? ⟨w.heap.size + 2, 9, none⟩ = some (.int .i64 c.lhi) → W.cell? ⟨w.heap.size + 2, 10, none⟩ = some (.slice a4 c.clms.length c4) → W.cell? ⟨w.heap.size + 2, 11, none⟩ = some (.map (some (w.heap.size + 1))) → BoxD (w.heap.size + 2) (w.heap.size + 1) ⟨a1, c1, a2, c2, a3, c3, a4, c4⟩ c W) := Lib.hid (fun W h0 h1 h2 h3 h4 h5 h6 h7 h8 h9 h10 h11 => ⟨h0, h1, h2, h3, h4, h5, h6, h7, h8, h9, h10, h11⟩); unfold CaseA.v caseV; simp only at *; clear hx; generalize c.bk.pars.length = n1 at *; generalize c.bk.ents.length = n2 at *; generalize c.covs.length = n3 at *; generalize c.clms.length = n4 at *; generalize c.bk.last = last at *; generalize c.bk.owners = owners at *; generalize c.soc = soc at *; generalize c.day = day at *; generalize c.parcel = parcel at *; generalize c.llo = llo at *; generalize c.lhi = lhi at *; have hmm := @run_makeMap Tryz.prog; go_enter Tryz.func70, Tryz.ntmps70
  (go_wp2_with fail); go_ret; refine ⟨w.heap.size + 2, w.heap.size + 1, rfl, HB.out _ _ (HB2.out _ ?_ ?_ ?_ ?_ ?_ ?_ ?_ ?_ ?_ ?_ ?_ ?_) (by (repeat (first | exact Ext.refl _ | with_reducible (first | assumption | refine Ext.drew ?_ | refine Ext.alloc ?_ _ | refine Ext.drewN ?_ _ | refine Ext.setCell ?_ (by omega) _ | refine Ext.trans ?_ (by assumption))))) (stl_at (w := w.alloc _) (by simp) (by (repeat (first | exact Ext.refl _ | with_reducible (first | assumption | refine Ext.drew ?_ | refine Ext.alloc ?_ _ | refine Ext.drewN ?_ _ | refine Ext.setCell ?_ (by omega) _ | refine Ext.trans ?_ (by assumption)))))) (fun o => by simp [go_sem]) rfl⟩
  all_goals simp [go_sem]
set_option maxRecDepth 100000 in
set_option maxHeartbeats 4000000 in
theorem right_d (p m : Nat) (x : Clm) (d : Dmg) (w : World) (hp : w.cell? ⟨p, 11, none⟩ = some (.map (some m))) (hs : Stl m w) (hd : DmgOK d) (hx : x.soc = 0 ∨ x.soc = 1 ∨ x.soc = 2) :
    Calls Tryz.prog 74 #[.pointer (some ⟨p, 0, none⟩), x.c.val, d.v] w fun e w' => e = .returned (.bool (rightD x d)) ∧ MM m w w' := by
  have HP0 := Lib.hid (fun W (h1 : W.cell? ⟨p, 11, none⟩ = some (.map (some m))) (h2 : Stl m W) => pays_d p m d W h1 h2 hd); have HH := Lib.hid (fun W => has_d x.plo x.phi (payD d x.soc) W); have HR : Hid (rightD x d = inR (payD d x.soc) x.plo x.phi) := rfl
  have HI : Hid (∀ w, (Instr.index 133 (paysV d) (.int .i64 x.soc)).run Tryz.prog w = .ok (.int .i64 (payD d x.soc)) w) := Lib.hid (by
    rcases hx with h | h | h
    · intro w; rw [h]; exact index_sh0 _ _ _ w
    · intro w; rw [h]; exact index_sh1 _ _ _ w
    · intro w; rw [h]; exact index_sh2 _ _ _ w)
  have hne : ¬ p = m := hs.ne hp; have hS := Lib.hid hs; have hml : m < w.heap.size := hs.lt; clear hd hx hs; generalize rightD x d = r at *; generalize payD d x.soc = py at *; generalize paysV d = pv at *; obtain ⟨am, s0, s1, s2⟩ := d; obtain ⟨so, lo, hi⟩ := x; simp only [Dmg.v, Clm.c, V3.val] at *; rw [HR.out]; clear HR; generalize inR py lo hi = r at *; go_enter Tryz.func74, Tryz.ntmps74
  (go_wp2_with fail); obtain ⟨W, hW⟩ : ∃ W, W = ((w.alloc (.cells #[.int .i64 so, .int .i64 lo, .int .i64 hi] 121)).alloc (.cells #[.int .i64 am, .int .i64 s0, .int .i64 s1, .int .i64 s2] 139)) := ⟨_, rfl⟩; have X : Ext w W := by subst hW; (repeat (first | exact Ext.refl _ | with_reducible (first | assumption | refine Ext.drew ?_ | refine Ext.alloc ?_ _ | refine Ext.drewN ?_ _ | refine Ext.setCell ?_ (by omega) _ | refine Ext.trans ?_ (by assumption))))
  have HS : Hid (∀ w', Ext W w' → (w'.cell? ⟨w.heap.size, 0, none⟩ = some (.int .i64 so) ∧ w'.cell? ⟨w.heap.size, 1, none⟩ = some (.int .i64 lo) ∧ w'.cell? ⟨w.heap.size, 2, none⟩ = some (.int .i64 hi) ∧ w'.cell? ⟨w.heap.size + 1, 0, none⟩ = some (.int .i64 am) ∧ w'.cell? ⟨w.heap.size + 1, 1, none⟩ = some (.int .i64 s0) ∧ w'.cell? ⟨w.heap.size + 1, 2, none⟩ = some (.int .i64 s1) ∧ w'.cell? ⟨w.heap.size + 1, 3, none⟩ = some (.int .i64 s2)) ∧ Ext W w') := Lib.hid (fun w' hx => ⟨⟨hx.keep (by subst hW; simp [go_sem]), hx.keep (by subst hW; simp [go_sem]), hx.keep (by subst hW; simp [go_sem]), hx.keep (by subst hW; simp [go_sem]), hx.keep (by subst hW; simp [go_sem]), hx.keep (by subst hW; simp [go_sem]), hx.keep (by subst hW; simp [go_sem])⟩, hx⟩); have HSf : Hid (∀ w', Ext W w' → ∀ o, w'.frozen? ⟨w.heap.size + 1, o, none⟩ = false) := Lib.hid (fun w' hx o => (hx.frozen (by subst hW; simp)).trans (by subst hW; simp [go_sem])); have HSz : w.heap.size + 1 + 1 ≤ W.heap.size := by subst hW; simp
  rw [← hW]; clear hW; obtain ⟨⟨q0, q1, q2, r0, r1, r2, r3⟩, -⟩ := HS.out W (Ext.refl _); have hpW := X.keep hp; have hSW := hS.out.ext X
  have HSS : Hid (∀ w', MM m W w' → (w'.cell? ⟨w.heap.size, 0, none⟩ = some (.int .i64 so) ∧ w'.cell? ⟨w.heap.size, 1, none⟩ = some (.int .i64 lo) ∧ w'.cell? ⟨w.heap.size, 2, none⟩ = some (.int .i64 hi) ∧ w'.cell? ⟨w.heap.size + 1, 0, none⟩ = some (.int .i64 am) ∧ w'.cell? ⟨w.heap.size + 1, 1, none⟩ = some (.int .i64 s0) ∧ w'.cell? ⟨w.heap.size + 1, 2, none⟩ = some (.int .i64 s1) ∧ w'.cell? ⟨w.heap.size + 1, 3, none⟩ = some (.int .i64 s2)) ∧ MM m W w') := Lib.hid (fun w' h =>
    ⟨⟨h.keep' (by omega) q0, h.keep' (by omega) q1, h.keep' (by omega) q2, h.keep' (by omega) r0, h.keep' (by omega) r1, h.keep' (by omega) r2, h.keep' (by omega) r3⟩, h⟩)
  have hix := HI.out; have HP := Lib.hid (fun W' (h : MM m W W') => HP0.out W' (h.keep' hne hpW) (h.stl hSW)); clear HP0 HS HSf hp hpW q0 q1 q2 r0 r1 r2 r3 hSW HI
  go_region_held3 (fun w' => (w'.cell? ⟨w.heap.size, 0, none⟩ = some (.int .i64 so) ∧ w'.cell? ⟨w.heap.size, 1, none⟩ = some (.int .i64 lo) ∧ w'.cell? ⟨w.heap.size, 2, none⟩ = some (.int .i64 hi) ∧ w'.cell? ⟨w.heap.size + 1, 0, none⟩ = some (.int .i64 am) ∧ w'.cell? ⟨w.heap.size + 1, 1, none⟩ = some (.int .i64 s0) ∧ w'.cell? ⟨w.heap.size + 1, 2, none⟩ = some (.int .i64 s1) ∧ w'.cell? ⟨w.heap.size + 1, 3, none⟩ = some (.int .i64 s2)) ∧ MM m W w')
    ((refine HSS.out _ ?_; (repeat (first | exact MM.refl _ | with_reducible (first | assumption | refine MM.drew ?_ | refine MM.alloc ?_ _ | refine MM.ext ?_ (by assumption) | refine MM.trans ?_ (by assumption) | refine Ext.mm (by assumption))))))
    (first
      | (go_at_call 75; (refine (HP.out _ (by (repeat (first | exact MM.refl _ | with_reducible (first | assumption | refine MM.drew ?_ | refine MM.alloc ?_ _ | refine MM.ext ?_ (by assumption) | refine MM.trans ?_ (by assumption) | refine Ext.mm (by assumption)))))).mono ?_); rintro e w3 ⟨rfl, hx3⟩)
      | (go_at_call 127; (refine (HH.out _).mono ?_); rintro e w4 ⟨rfl, hx4⟩))
  all_goals
    (go_wp2_with fail); go_ret; exact ⟨rfl, X.mm.trans (by (repeat (first | exact MM.refl _ | with_reducible (first | assumption | refine MM.drew ?_ | refine MM.alloc ?_ _ | refine MM.ext ?_ (by assumption) | refine MM.trans ?_ (by assumption) | refine Ext.mm (by assumption)))))⟩
end Go.Proofs.YtegkdnfeceomdaaGreat
