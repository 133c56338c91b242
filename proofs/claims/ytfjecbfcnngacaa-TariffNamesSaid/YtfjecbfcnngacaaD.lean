/- Contracts: a valid tariff. -/
import Derived.Test.YtfjecbfcnngacaaC
namespace Go.Proofs.Ytfjecbfcnngacaa
open Go.RowKit Go.Hs

theorem validB_eq (t : Tar) : validB t = (inR t.start 0 120 && (inR t.least 0 100 && (risesB t.weeks 120 && (decide (1 < t.counts.length) && (risesB t.counts 100 && ((t.counts.getD (t.counts.length - 1) 0 == 100) && (decide (0 < t.rates.length) && allB t.rates.length (fun i => cropB t (t.rates.getD i []))))))))) := by
  simp [validB, Bool.and_assoc]

set_option maxHeartbeats 1000000 in
theorem valid_any (u : V6) (t : Tar) (w : World) (h : TarU w u t) :
    Calls Try.prog 67 #[u.val] w fun e w' => e = .returned (.bool (validB t)) ∧ Ext w w' := by
  have HT := h
  obtain ⟨u0, u1, u2, u3, u4, u5⟩ := u
  obtain ⟨h0, h1, h2, g1, g2, hwk, hct, hrt⟩ := h
  subst h0 h1 h2
  simp only at hwk hct hrt
  have X1 : Ext w (w.alloc (.cells #[.int .i64 t.start, .bool t.whole, .int .i64 t.least, u3, u4, u5] 96)) := (Ext.refl w).alloc _
  have hW := hwk.ext X1
  obtain ⟨a4, k4, rfl, h4, h4', hcc, -⟩ := hct.cells
  obtain ⟨a5, k5, us, rfl, hl5, hc51, hc52, hcs5, hus⟩ := hrt.cells
  have C4 : (w.alloc (.cells #[.int .i64 t.start, .bool t.whole, .int .i64 t.least, u3, .slice a4 t.counts.length k4, .slice a5 us.length k5] 96)).cell? ⟨w.heap.size, 4, none⟩ = some (.slice a4 t.counts.length k4) := by simp
  have C5 : (w.alloc (.cells #[.int .i64 t.start, .bool t.whole, .int .i64 t.least, u3, .slice a4 t.counts.length k4, .slice a5 us.length k5] 96)).cell? ⟨w.heap.size, 5, none⟩ = some (.slice a5 us.length k5) := by simp
  have hall : ∀ w1, Ext (w.alloc (.cells #[.int .i64 t.start, .bool t.whole, .int .i64 t.least, u3, .slice a4 t.counts.length k4, .slice a5 us.length k5] 96)) w1 →
      Calls Try.prog 89 #[.slice a5 us.length k5, .func (.func 87) #[.agg #[.int .i64 t.start, .bool t.whole, .int .i64 t.least, u3, .slice a4 t.counts.length k4, .slice a5 us.length k5]] #[]] w1
        fun e w' => e = .returned (.bool (allB t.rates.length (fun i => cropB t (t.rates.getD i [])))) ∧ Ext w1 w' := by
    intro w1 hx1
    have hx := X1.trans hx1
    have := allx_ints2 87 fn_crop #[.agg #[.int .i64 t.start, .bool t.whole, .int .i64 t.least, u3, .slice a4 t.counts.length k4, .slice a5 us.length k5]] #[] a5 k5 us (fun i => cropB t (t.rates.getD i [])) w1 hc52 (hcs5.ext hx)
      (fun i hi w2 hx2 => by
        have hi' : i < t.rates.length := by omega
        refine (crop_any ⟨_, _, _, _, _, _⟩ t us[i] t.rates[i] w2 (HT.ext (hx.trans hx2)) ((hus i hi hi').ext (hx.trans hx2))).mono ?_
        rintro e w3 ⟨rfl, hx3⟩
        exact ⟨ret_bool (by simp [hi']), hx3⟩)
    rw [hl5] at this ⊢
    exact this
  have HL := Lib.hid hl5; clear hl5
  have HV := Lib.hid (validB_eq t)
  clear HT hus hcs5 hrt
  by_cases hlen : 1 < t.counts.length
  · obtain ⟨b, off, rfl, hcl⟩ := hcc (t.counts.length - 1) (by simp; omega)
    have hcl' : w.cell? ⟨b, off + (t.counts.length - 1), none⟩ = some (.int .i64 (t.counts.getD (t.counts.length - 1) 0)) := by
      have h' : t.counts.length - 1 < t.counts.length := by omega
      rw [hcl]; simp [h']
    clear hcl hcc
    have HCL := Lib.hid hcl'; clear hcl'
    generalize hL : t.counts.getD (t.counts.length - 1) 0 = last at *
    have HL2 := Lib.hid hL; clear hL
    go_enter Try.func67, Try.ntmps67
    go_wp2_with (first
      | (go_at_call 74; refine (within_any _ _ _ _).mono ?_; rintro e w' ⟨rfl, rfl⟩)
      | (go_at_call 88; (with_reducible refine (rising_any _ t.weeks 120 _ hW).mono ?_); rintro e w2 ⟨rfl, hx2⟩; have hC := hct.ext (X1.trans hx2); have C4' := hx2.keep C4)
      | (go_at_call 88; (with_reducible refine (rising_any _ t.counts 100 _ hC).mono ?_); rintro e w3 ⟨rfl, hx3⟩; have C4'' := hx3.keep C4'; have C5'' := hx3.keep (hx2.keep C5); have hcl3 := hx3.keep (hx2.keep (X1.keep HCL.out)))
      | (go_at_call 89; (with_reducible refine (hall _ (hx2.trans hx3)).mono ?_); rintro e w4 ⟨rfl, hx4⟩))
    all_goals
      go_ret
      refine ⟨ret_bool ?_, ?_⟩
      · rw [HV.out, ← HL.out]
        simp [*]
      · first
        | exact X1.trans (hx2.trans (hx3.trans hx4))
        | exact X1.trans (hx2.trans hx3)
        | exact X1.trans hx2
        | exact X1
  · clear hcc hall
    go_enter Try.func67, Try.ntmps67
    go_wp2_with (first
      | (go_at_call 74; refine (within_any _ _ _ _).mono ?_; rintro e w' ⟨rfl, rfl⟩)
      | (go_at_call 88; (with_reducible refine (rising_any _ t.weeks 120 _ hW).mono ?_); rintro e w2 ⟨rfl, hx2⟩; have hC := hct.ext (X1.trans hx2); have C4' := hx2.keep C4))
    all_goals
      go_ret
      refine ⟨ret_bool ?_, ?_⟩
      · rw [HV.out]
        simp [*]
        try omega
      · first
        | exact X1.trans hx2
        | exact X1

end Go.Proofs.Ytfjecbfcnngacaa
