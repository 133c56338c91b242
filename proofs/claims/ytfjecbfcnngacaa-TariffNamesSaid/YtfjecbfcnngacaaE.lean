/- Contracts: the list of tariffs, and tariffs at work. -/
import Derived.Test.YtfjecbfcnngacaaD
namespace Go.Proofs.Ytfjecbfcnngacaa
open Go.RowKit Go.Hs

set_option maxRecDepth 100000 in
set_option maxHeartbeats 400000 in
theorem check_any (v : Value) (l : List Tar) (w : World) (hv : TarsV w v l) :
    Calls Try.prog 23 #[v] w fun e w' => e = .returned (.int .i64 (checkS l)) ∧ Ext w w' := by
  obtain ⟨a, c, us, rfl, hl, hc1, hc2, hcs, hus⟩ := hv.cells
  have hfew : Calls Try.prog 65 #[.slice a us.length c, .func (.func 66) #[] #[]] w fun e w' => e = .returned (.bool (allB us.length (fun i => fewB (l.getD i default)))) ∧ Ext w w' :=
    allx_tar 66 fn_few #[] #[] a c us (fun i => fewB (l.getD i default)) w hc2 hcs
      (fun i hi w2 hx2 => by
        have hi' : i < l.length := by omega
        refine (few_any us[i] l[i] w2 ((hus i hi hi').ext hx2)).mono ?_
        rintro e w3 ⟨rfl, hx3⟩
        exact ⟨ret_bool (by simp [hi']), hx3⟩)
  have hval : ∀ w1, Ext w w1 → Calls Try.prog 65 #[.slice a us.length c, .func (.func 67) #[] #[]] w1 fun e w' => e = .returned (.bool (allB us.length (fun i => validB (l.getD i default)))) ∧ Ext w1 w' := fun w1 hx1 =>
    allx_tar 67 fn_valid #[] #[] a c us (fun i => validB (l.getD i default)) w1 hc2 (hcs.ext hx1)
      (fun i hi w2 hx2 => by
        have hi' : i < l.length := by omega
        refine (valid_any us[i] l[i] w2 ((hus i hi hi').ext (hx1.trans hx2))).mono ?_
        rintro e w3 ⟨rfl, hx3⟩
        exact ⟨ret_bool (by simp [hi']), hx3⟩)
  have HL := Lib.hid hl; clear hl
  generalize hbf : allB us.length (fun i => fewB (l.getD i default)) = bf at *
  have HBF := Lib.hid hbf; clear hbf
  generalize hbv : allB us.length (fun i => validB (l.getD i default)) = bv at *
  have HBV := Lib.hid hbv; clear hbv
  by_cases h3 : 3 < us.length
  · clear hfew hval hcs hus hv
    go_enter Try.func23, Try.ntmps23
    go_wp2_with fail
    go_ret
    exact ⟨ret_int (by rw [checkS, if_pos (Or.inl (HL.out ▸ h3))]), Ext.refl _⟩
  have h3' : us.length ≤ 3 := by omega
  clear h3
  cases bf with
  | false =>
    clear hval hcs hus hv
    go_enter Try.func23, Try.ntmps23
    go_wp2_with (first
      | (go_at_call 65; (with_reducible refine hfew.mono ?_); rintro e w1 ⟨rfl, hx1⟩))
    go_ret
    exact ⟨ret_int (by rw [checkS, if_pos (Or.inr (HL.out ▸ HBF.out))]), hx1⟩
  | true =>
    have N3 : ¬ (3 < l.length ∨ allB l.length (fun i => fewB (l.getD i default)) = false) := by
      rw [← HL.out, HBF.out]; simp; omega
    have H3 := Lib.hid N3; clear N3
    by_cases h0 : us.length = 0
    · have hu : us = [] := List.length_eq_zero_iff.1 h0
      subst hu
      clear hval hcs hus hv
      simp only [List.length_nil] at hfew
      go_enter Try.func23, Try.ntmps23
      go_wp2_with (first
        | (go_at_call 65; (with_reducible refine hfew.mono ?_); rintro e w1 ⟨rfl, hx1⟩))
      go_ret
      exact ⟨ret_int (by rw [checkS, if_neg H3.out, if_pos (Or.inl (by rw [← HL.out]; rfl))]), hx1⟩
    have h0' : 0 < us.length := by omega
    clear h0
    have hne : ¬ us = [] := by rintro rfl; simp at h0'
    have hv' := hv
    obtain ⟨b, off, rfl, hcell0⟩ := hcs 0 h0'
    have hu0 := hus 0 h0' (by rw [← HL.out]; exact h0')
    obtain ⟨z0, z1, z2, g1, g2, -, -, hr0⟩ := hu0
    obtain ⟨a5, k5, q5, h5, h5', -⟩ := hr0
    obtain ⟨c0, c1, c2, c3, c4, c5⟩ := hcell0
    rw [z0] at c0
    rw [q5] at c5
    simp only [Nat.zero_mul, Nat.add_zero] at c0 c1 c2 c3 c4 c5
    have e0 : l[0]'(by rw [← HL.out]; exact h0') = l.getD 0 default := by
      have : 0 < l.length := by rw [← HL.out]; exact h0'
      simp [this]
    rw [e0] at c0 c5 g1
    clear z0 z1 z2 q5 c1 c2 c3 c4 e0
    generalize hs0 : (l.getD 0 default).start = s0 at *
    generalize hr0 : (l.getD 0 default).rates.length = r0 at *
    have HS0 := Lib.hid hs0; clear hs0
    have HR0 := Lib.hid hr0; clear hr0
    by_cases hz : s0 = 0
    · subst hz
      cases bv with
      | false =>
        clear hcs hus hv c5
        go_enter Try.func23, Try.ntmps23
        go_wp2_with (first
          | (go_at_call 65; (with_reducible refine hfew.mono ?_); rintro e w1 ⟨rfl, hx1⟩; have c01 := hx1.keep c0)
          | (go_at_call 65; (with_reducible refine (hval _ hx1).mono ?_); rintro e w2 ⟨rfl, hx2⟩))
        go_ret
        exact ⟨ret_int (by rw [checkS, if_neg H3.out, if_pos (Or.inr (Or.inr (HL.out ▸ HBV.out)))]), hx1.trans hx2⟩
      | true =>
        have N1 : ¬ (l.length = 0 ∨ (l.getD 0 default).start ≠ 0 ∨ allB l.length (fun i => validB (l.getD i default)) = false) := by
          rw [← HL.out, HBV.out, HS0.out]; simp; omega
        have H1 := Lib.hid N1; clear N1
        have hrows := SliceV.rows hv
        clear hus
        have D1 : decide (3 < (us.length : Int)) = false := by simp; omega
        have D2 : ((us.length : Int) == 0) = false := by simp; exact hne
        by_cases hc : c = 1
        · have hu1 : us.length = 1 := by omega
          clear hcs
          subst hc
          have HU1 := Lib.hid hu1
          have hle : us.length ≤ 1 := by omega
          clear hu1
          go_enter Try.func23, Try.ntmps23
          go_wp2_with (first
            | (go_at_call 65; (with_reducible refine hfew.mono ?_); rintro e w1 ⟨rfl, hx1⟩; have c01 := hx1.keep c0)
            | (go_at_call 65; (with_reducible refine (hval _ hx1).mono ?_); rintro e w2 ⟨rfl, hx2⟩))
          refine wp_loop_rounds 1 ?_
          rw [rounds_succ]
          go_wp2_with fail
          go_ret
          have hch : chainB l = true := by
            rw [chainB_link, ← HL.out, HU1.out]; rfl
          refine ⟨ret_int ?_, hx1.trans hx2⟩
          rw [checkS, if_neg H3.out, if_neg H1.out, if_neg (by simp [hch])]
        · go_enter Try.func23, Try.ntmps23
          go_wp2_with (first
            | (go_at_call 65; (with_reducible refine hfew.mono ?_); rintro e w1 ⟨rfl, hx1⟩; have c01 := hx1.keep c0)
            | (go_at_call 65; (with_reducible refine (hval _ hx1).mono ?_); rintro e w2 ⟨rfl, hx2⟩))
          have HX := hx1.trans hx2
          clear hx1 hx2 c01
          go_loopw [3, 4, 33] (fun i3 p4 c33 wr => ∃ k : Nat, k ≤ us.length - 1 ∧ c33 = .int .i64 k ∧ Hid (∀ m, m < k → linkB l m = true) ∧ Ext w wr) (fun _ _ i _ => us.length - (intOf i).toNat)
          case atStart => exact ⟨0, Nat.zero_le _, by simp, fun m hm => absurd hm (Nat.not_lt_zero _), HX⟩
          case round =>
            obtain ⟨k, hk, rfl, hp, hx⟩ := hrel
            by_cases hlt : k < us.length - 1
            · have hk1 : k + 1 < us.length := by omega
              have hkl : k < us.length := by omega
              have hk1' : k + 1 < l.length := by rw [← HL.out]; exact hk1
              have hkl' : k < l.length := by rw [← HL.out]; exact hkl
              obtain ⟨a3, k3, a4, k4, a6, k6, x0, x1, x2, x3, x4, x5, hT1⟩ := (TarAt.ext hx _ _ _ (hrows.at (k + 1) hk1')).open
              obtain ⟨_, _, _, _, _, _, y0, -, -, -, -, -, hT0⟩ := (TarAt.ext hx _ _ _ (hrows.at k hkl')).open
              have h6' := hT1.rates.len_le.2
              have G1 := hT1.f
              have G0 := hT0.f
              have ea : l[k + 1] = l.getD (k + 1) default := by simp [hk1']
              have eb : l[k] = l.getD k default := by simp [hkl']
              have hlk : linkB l k = (decide ((l.getD k default).start < (l.getD (k + 1) default).start) && decide ((l.getD (k + 1) default).rates.length = r0)) := by rw [linkB, HR0.out]
              rw [ea] at x0 x1 x2 x3 x4 x5 G1 h6'
              rw [eb] at y0 G0
              have ec : off + (k + 1) * 6 = off + 6 + k * 6 := by omega
              rw [ec] at x0 x1 x2 x3 x4 x5
              clear hT0 hT1
              have c50 := hx.keep c5
              generalize (l.getD (k + 1) default).start = s1 at *
              generalize (l.getD k default).start = s at *
              generalize (l.getD (k + 1) default).rates.length = r1 at *
              have HLK := Lib.hid hlk
              have HEC := Lib.hid ec
              have hy0 := hx.keep c0
              have hb : b < wr.heap.size := lt_of_cell y0
              clear hlk ec ea eb hrows hcs hv hfew hval
              have LOK : ∀ b : Bool, linkB l k = b → Hid (linkB l k = b) := fun _ h => h
              by_cases hs : s1 ≤ s
              · have hd : decide (s1 ≤ s) = true := by simp [hs]
                have HF := LOK false (by rw [HLK.out]; simp; omega)
                clear LOK
                go_wp2_with fail
                go_quiet (fail)
                go_wp2_with fail
                go_ret
                exact ⟨ret_int (by rw [checkS, if_neg H3.out, if_neg H1.out, if_pos (chainB_no (by rw [← HL.out]; exact hlt) HF.out)]), (hx.alloc _).drewN _⟩
              · have hd : decide (s1 ≤ s) = false := by simp; omega
                by_cases hr : r1 = r0
                · have HF := LOK true (by rw [HLK.out]; simp; omega)
                  have hq : ((r1 : Int) != (r0 : Int)) = false := by simp [hr]
                  have HR := Lib.hid hr
                  clear LOK hr
                  go_wp2_with fail
                  go_quiet (fail)
                  go_wp2_with fail
                  go_roundw
                  case rel => exact ⟨k + 1, by omega, by go_num, upTo_next hp HF.out, (hx.alloc _).drewN _⟩
                  case measure => simp [intOf]; omega
                · have HF := LOK false (by rw [HLK.out]; simp; omega)
                  have hq : ((r1 : Int) != (r0 : Int)) = true := by simp; omega
                  have HR := Lib.hid hr
                  clear LOK hr
                  go_wp2_with fail
                  go_quiet (fail)
                  go_wp2_with fail
                  go_ret
                  exact ⟨ret_int (by rw [checkS, if_neg H3.out, if_neg H1.out, if_pos (chainB_no (by rw [← HL.out]; exact hlt) HF.out)]), (hx.alloc _).drewN _⟩
            · have hk' : k = us.length - 1 := by omega
              have hch : chainB l = true := by
                rw [chainB_link, allB_iff]
                intro m hm
                exact hp m (by rw [hk', HL.out]; exact hm)
              have HCH := Lib.hid hch
              clear hch hk' hp hfew hval hcs hv hrows
              go_wp2_with fail
              go_ret
              exact ⟨ret_int (by rw [checkS, if_neg H3.out, if_neg H1.out, if_neg (by rw [HCH.out]; simp)]), hx⟩
    · have hd : (s0 == 0) = false := by simp [hz]
      have HZ := Lib.hid hz; clear hz
      clear hval hcs hus hv c5
      have C0 := c0
      go_enter Try.func23, Try.ntmps23
      go_wp2_with (first
        | (go_at_call 65; (with_reducible refine hfew.mono ?_); rintro e w1 ⟨rfl, hx1⟩; have c01 := hx1.keep c0))
      go_ret
      exact ⟨ret_int (by rw [checkS, if_neg H3.out, if_pos (Or.inr (Or.inl (HS0.out ▸ HZ.out)))]), hx1⟩
end Go.Proofs.Ytfjecbfcnngacaa
