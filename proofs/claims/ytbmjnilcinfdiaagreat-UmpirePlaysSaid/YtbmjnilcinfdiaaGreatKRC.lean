/- Contracts of layer 7: whether the umpire is called for a field, by the reference; the error of a question about a field. -/
import Derived.Test.YtbmjnilcinfdiaaGreatKRB
import Derived.Test.YtbmjnilcinfdiaaGreatKB9
set_option linter.unusedSimpArgs false
set_option linter.unusedVariables false
namespace Go.Proofs.YtbmjnilcinfdiaaGreat
open Go.RowKit Go.Hs
attribute [local irreducible] World.setCell World.alloc

set_option maxRecDepth 100000 in
set_option maxHeartbeats 4000000 in
theorem RCalled_any (l : List Tar) (f : Fld) (hf : FldOK l f) (w : World) :
    Calls Tryz.prog 23 #[f.c.val] w fun e w' => e = .returned (.int .i64 (calledV f)) ∧ Ext w w' := by
  have hN := truthsN_le hf
  have hfr := hf.r
  have HEV := Lib.hid (REvery_any l f hf)
  have HIC : Hid (∀ n, n < truthsN f → ∀ w', Calls Tryz.prog 48 #[f.c.val, (truthAt f n).c.val] w' fun e w'' => e = .returned (.bool (calledB f (truthAt f n))) ∧ Ext w' w'') := Lib.hid (fun n hn w' => by
    have hx := truthAt_ok hn
    have := hx.a; have := hx.b; have := hfr.a; have := hfr.b
    exact IsCalled_any f _ (by omega) (by omega) w')
  have HCV := Lib.hid (called_count (truthsN_pos hf))
  have HY := Lib.hid (fun n => cntC_yes (f := f) (n := n))
  have HNO := Lib.hid (fun n => cntC_no (f := f) (n := n))
  have HLE := Lib.hid (cntC_le f)
  have hc0 : cntC f 0 = 0 := rfl
  have HC0 := Lib.hid hc0
  clear hf hfr hc0
  generalize calledV f = cv at *
  generalize truthsN f = N at *
  generalize cntC f = cn at *
  obtain ⟨fv, hfv⟩ : ∃ fv, fv = f := ⟨_, rfl⟩
  have HFC : Hid (f.c.val = .agg #[.int .i64 fv.crop, .int .i64 fv.value, .int .i64 fv.near, .int .i64 fv.alo, .int .i64 fv.ahi, .int .i64 fv.blo, .int .i64 fv.bhi, .int .i64 fv.ulo, .int .i64 fv.uhi]) := Lib.hid (by rw [hfv]; rfl)
  clear hfv
  rw [HFC.out] at HEV HIC ⊢
  obtain ⟨cr, va, ne, al, ah, bl, bh, ul, uh⟩ := fv
  simp only at *
  clear HFC
  go_enter Tryz.func23, Tryz.ntmps23
  go_wp2_with fail
  (with_reducible refine (HEV.out _).mono ?_)
  rintro e w1 ⟨a, q, rfl, hrow, hx1⟩
  have HS : Hid (∀ w', Ext w1 w' → (w'.cell? ⟨w.heap.size, 0, none⟩ = some (.int .i64 cr) ∧ w'.cell? ⟨w.heap.size, 1, none⟩ = some (.int .i64 va) ∧ w'.cell? ⟨w.heap.size, 2, none⟩ = some (.int .i64 ne) ∧ w'.cell? ⟨w.heap.size, 3, none⟩ = some (.int .i64 al) ∧ w'.cell? ⟨w.heap.size, 4, none⟩ = some (.int .i64 ah) ∧ w'.cell? ⟨w.heap.size, 5, none⟩ = some (.int .i64 bl) ∧ w'.cell? ⟨w.heap.size, 6, none⟩ = some (.int .i64 bh) ∧ w'.cell? ⟨w.heap.size, 7, none⟩ = some (.int .i64 ul) ∧ w'.cell? ⟨w.heap.size, 8, none⟩ = some (.int .i64 uh))) :=
    Lib.hid (fun w' hk => ⟨hk.keep (hx1.keep (by simp [go_sem])), hk.keep (hx1.keep (by simp [go_sem])), hk.keep (hx1.keep (by simp [go_sem])), hk.keep (hx1.keep (by simp [go_sem])), hk.keep (hx1.keep (by simp [go_sem])), hk.keep (hx1.keep (by simp [go_sem])), hk.keep (hx1.keep (by simp [go_sem])), hk.keep (hx1.keep (by simp [go_sem])), hk.keep (hx1.keep (by simp [go_sem]))⟩)
  have X1 : Ext w w1 := by (repeat (first | exact Ext.refl _ | (with_reducible assumption) | (with_reducible refine Ext.drew ?_) | (with_reducible refine Ext.alloc ?_ _) | (with_reducible refine Ext.drewN ?_ _) | (with_reducible refine Ext.setCell ?_ (by omega) _) | (with_reducible refine Ext.trans ?_ (by with_reducible assumption))))
  have HRW := Lib.hid hrow
  clear hrow hx1
  go_wp2_with fail
  go_loopw [4, 5] (fun s4 s5 wr => ∃ i : Nat, i ≤ N ∧ s5 = .int .i64 i ∧ s4 = .int .i64 (cn i : Nat) ∧ Ext w1 wr) (fun _ s _ => N - (intOf s).toNat)
  case atStart => exact ⟨0, Nat.zero_le _, rfl, by rw [HC0.out]; rfl, Ext.refl _⟩
  case round =>
    obtain ⟨i, hi, rfl, rfl, hx⟩ := hrel
    obtain ⟨wo, rfl⟩ : ∃ x, x = wr := ⟨_, rfl⟩
    by_cases hlt : i < N
    · obtain ⟨b, off, rfl, hbb, hc3⟩ := HRW.out.at hlt
      have hic := HIC.out i hlt
      have hcl := HLE.out i
      have hc3 := Cell3.ext hx _ _ _ hc3
      have HYI := Lib.hid (HY.out i)
      have HNI := Lib.hid (HNO.out i)
      clear HIC HRW HEV hbb HY HNO HCV HLE HC0
      generalize calledB f (truthAt f i) = cb at *
      generalize truthAt f i = x at *
      obtain ⟨A, B, U⟩ := x
      have HSX := Lib.hid hic
      obtain ⟨m0, m1, m2⟩ := hc3
      simp only [Thr.c] at *
      have HS2 : Hid (∀ w', Ext wo w' → ((w'.cell? ⟨w.heap.size, 0, none⟩ = some (.int .i64 cr) ∧ w'.cell? ⟨w.heap.size, 1, none⟩ = some (.int .i64 va) ∧ w'.cell? ⟨w.heap.size, 2, none⟩ = some (.int .i64 ne) ∧ w'.cell? ⟨w.heap.size, 3, none⟩ = some (.int .i64 al) ∧ w'.cell? ⟨w.heap.size, 4, none⟩ = some (.int .i64 ah) ∧ w'.cell? ⟨w.heap.size, 5, none⟩ = some (.int .i64 bl) ∧ w'.cell? ⟨w.heap.size, 6, none⟩ = some (.int .i64 bh) ∧ w'.cell? ⟨w.heap.size, 7, none⟩ = some (.int .i64 ul) ∧ w'.cell? ⟨w.heap.size, 8, none⟩ = some (.int .i64 uh)) ∧ w'.cell? ⟨b, off + i * 3, none⟩ = some (.int .i64 A) ∧ w'.cell? ⟨b, off + i * 3 + 1, none⟩ = some (.int .i64 B) ∧ w'.cell? ⟨b, off + i * 3 + 2, none⟩ = some (.int .i64 U)) ∧ Ext wo w') :=
        Lib.hid (fun w' hk => ⟨⟨HS.out w' (hx.trans hk), hk.keep m0, hk.keep m1, hk.keep m2⟩, hk⟩)
      clear hic HS m0 m1 m2
      go_wp2_with fail
      go_region_held3 (fun w' => ((w'.cell? ⟨w.heap.size, 0, none⟩ = some (.int .i64 cr) ∧ w'.cell? ⟨w.heap.size, 1, none⟩ = some (.int .i64 va) ∧ w'.cell? ⟨w.heap.size, 2, none⟩ = some (.int .i64 ne) ∧ w'.cell? ⟨w.heap.size, 3, none⟩ = some (.int .i64 al) ∧ w'.cell? ⟨w.heap.size, 4, none⟩ = some (.int .i64 ah) ∧ w'.cell? ⟨w.heap.size, 5, none⟩ = some (.int .i64 bl) ∧ w'.cell? ⟨w.heap.size, 6, none⟩ = some (.int .i64 bh) ∧ w'.cell? ⟨w.heap.size, 7, none⟩ = some (.int .i64 ul) ∧ w'.cell? ⟨w.heap.size, 8, none⟩ = some (.int .i64 uh)) ∧ w'.cell? ⟨b, off + i * 3, none⟩ = some (.int .i64 A) ∧ w'.cell? ⟨b, off + i * 3 + 1, none⟩ = some (.int .i64 B) ∧ w'.cell? ⟨b, off + i * 3 + 2, none⟩ = some (.int .i64 U)) ∧ Ext wo w')
        ((refine HS2.out _ ?_; (repeat (first | exact Ext.refl _ | (with_reducible assumption) | (with_reducible refine Ext.drew ?_) | (with_reducible refine Ext.alloc ?_ _) | (with_reducible refine Ext.drewN ?_ _) | (with_reducible refine Ext.setCell ?_ (by omega) _) | (with_reducible refine Ext.trans ?_ (by with_reducible assumption))))))
        (first
          | (go_at_call 48; (with_reducible refine (HSX.out _).mono ?_); rintro e w3 ⟨rfl, hx3⟩))
      all_goals
        clear HS2 HSX
        have X3 : Ext w1 w3 := by (repeat (first | exact Ext.refl _ | (with_reducible assumption) | (with_reducible refine Ext.drew ?_) | (with_reducible refine Ext.alloc ?_ _) | (with_reducible refine Ext.drewN ?_ _) | (with_reducible refine Ext.setCell ?_ (by omega) _) | (with_reducible refine Ext.trans ?_ (by with_reducible assumption))))
        cases cb with
        | false =>
          have HK := Lib.hid (HNI.out rfl)
          clear HYI HNI
          go_wp2_with fail
          go_roundw
          case rel => exact ⟨i + 1, by omega, by go_num, by rw [HK.out], X3⟩
          case measure => simp [intOf]; omega
        | true =>
          have HK := Lib.hid (HYI.out rfl)
          clear HYI HNI
          go_wp2_with fail
          go_roundw
          case rel => exact ⟨i + 1, by omega, by go_num, by rw [HK.out]; go_num, X3⟩
          case measure => simp [intOf]; omega
    · have ei : i = N := by omega
      subst ei
      have hle := HLE.out i
      clear HIC HRW HEV HY HNO HLE HC0 HS
      generalize cn i = k at *
      by_cases h1 : k = i
      · have e : Hid (cv = 1) := Lib.hid (by rw [HCV.out, if_pos h1])
        clear HCV
        subst h1
        go_wp2_with fail
        go_ret
        exact ⟨ret_int e.out.symm, X1.trans hx⟩
      · by_cases h2 : k = 0
        · have e : Hid (cv = 2) := Lib.hid (by rw [HCV.out, if_neg h1, if_pos h2])
          have d1 : ((k : Int) == (i : Int)) = false := by rw [beq_eq_false_iff_ne]; omega
          clear HCV h1
          subst h2
          go_wp2_with fail
          go_ret
          exact ⟨ret_int e.out.symm, X1.trans hx⟩
        · have e : Hid (cv = 3) := Lib.hid (by rw [HCV.out, if_neg h1, if_neg h2])
          have d1 : ((k : Int) == (i : Int)) = false := by rw [beq_eq_false_iff_ne]; omega
          have d2 : ((k : Int) == 0) = false := by rw [beq_eq_false_iff_ne]; omega
          clear HCV h1 h2
          go_wp2_with fail
          go_ret
          exact ⟨ret_int e.out.symm, X1.trans hx⟩

set_option maxRecDepth 100000 in
set_option maxHeartbeats 4000000 in
theorem fieldedU_any (c : Cas) (v : Value) (k : Int) (w : World) (hv : CasV w v c) :
    Calls Tryz.prog 20 #[v, .int .i64 k] w fun e w' => e = .returned (.int .i64 (askE c k)) ∧ Ext w w' := by
  have HF : Hid (∀ W, Ext w W → Calls Tryz.prog 28 #[v] W fun e w' => e = .returned (.int .i64 (caseE c)) ∧ Ext W w') := Lib.hid (fun W hx => faultU_any c v W (hv.ext hx))
  have HE : Hid (askE c k = askF (caseE c) c.flds.length k) := rfl
  have HI : Hid (∀ W, Calls Tryz.prog 49 #[.int .i64 k, .int .i64 0, .int .i64 ((c.flds.length : Int) - 1)] W fun e w' => e = .returned (.bool (inR k 0 ((c.flds.length : Int) - 1))) ∧ W = w') := Lib.hid (fun W => In_any k 0 _ W)
  obtain ⟨a1, c1, a2, c2, rfl, -, -, -, hl1, hl2⟩ := hv.open
  have hw : IntKind.i64.wrap ((c.flds.length : Int) - 1) = (c.flds.length : Int) - 1 := IntWalk.i64_in _ (by omega)
  unfold casV at *
  clear hv
  generalize askE c k = r at *
  generalize caseE c = ce at *
  generalize c.tars.length = n1 at *
  generalize c.flds.length = n2 at *
  generalize c.day = day at *
  generalize c.fee = fee at *
  go_enter Tryz.func20, Tryz.ntmps20
  go_wp2_with fail
  (with_reducible refine (HF.out _ (by (repeat (first | exact Ext.refl _ | (with_reducible assumption) | (with_reducible refine Ext.drew ?_) | (with_reducible refine Ext.alloc ?_ _) | (with_reducible refine Ext.drewN ?_ _) | (with_reducible refine Ext.setCell ?_ (by omega) _) | (with_reducible refine Ext.trans ?_ (by with_reducible assumption)))))).mono ?_)
  rintro e w1 ⟨rfl, hx1⟩
  have q3 := hx1.keep (k := w.heap.size) (o := 3) (v := .slice a2 n2 c2) (by simp [go_sem])
  have X1 : Ext w w1 := by (repeat (first | exact Ext.refl _ | (with_reducible assumption) | (with_reducible refine Ext.drew ?_) | (with_reducible refine Ext.alloc ?_ _) | (with_reducible refine Ext.drewN ?_ _) | (with_reducible refine Ext.setCell ?_ (by omega) _) | (with_reducible refine Ext.trans ?_ (by with_reducible assumption))))
  clear hx1 HF
  by_cases h0 : ce = 0
  · subst h0
    have HE2 : Hid (r = if inR k 0 ((n2 : Int) - 1) then 0 else 2) := Lib.hid (by rw [HE.out]; simp [askF])
    clear HE
    generalize inR k 0 ((n2 : Int) - 1) = b at *
    go_wp2_with fail
    (with_reducible refine (HI.out _).mono ?_)
    rintro e w2 ⟨rfl, rfl⟩
    cases b with
    | false =>
      have e : Hid (r = 2) := Lib.hid (by rw [HE2.out]; rfl)
      clear HE2
      go_wp2_with fail
      go_ret
      exact ⟨ret_int e.out.symm, X1⟩
    | true =>
      have e : Hid (r = 0) := Lib.hid (by rw [HE2.out]; rfl)
      clear HE2
      go_wp2_with fail
      go_ret
      exact ⟨ret_int e.out.symm, X1⟩
  · have hb2 : (ce != 0) = true := by rw [bne_iff_ne]; exact h0
    have e : Hid (r = ce) := Lib.hid (by rw [HE.out]; unfold askF; rw [if_pos h0])
    clear HE h0
    go_wp2_with fail
    go_ret
    exact ⟨ret_int e.out.symm, X1⟩
end Go.Proofs.YtbmjnilcinfdiaaGreat
