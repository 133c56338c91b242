/- Contracts of the reference of layer 7: the results of all lists of outcomes. -/
import Derived.Test.YtedblocbcjoolaaGreatKRK
import Derived.Test.YtedblocbcjoolaaGreatKXR
import Derived.Deep.CutBlock
set_option linter.unusedSimpArgs false
set_option linter.unusedVariables false
namespace Go.Proofs.YtedblocbcjoolaaGreat
open Go.RowKit Go.Hs
attribute [local irreducible] World.setCell World.alloc
theorem info_rocs : (Tryz.prog.info? 124).map (fun i => (i.zero, i.size, i.bytes)) = some (some (.slice none 0 0), 1, 24) := by kernel_rfl
theorem info_rres : (Tryz.prog.info? 62).map (fun i => (i.zero, i.size, i.bytes)) = some (some (.agg #[.slice none 0 0, .int .i64 0, .int .i64 0, .int .i64 0]), 4, 48) := by kernel_rfl

set_option maxRecDepth 100000 in
set_option maxHeartbeats 8000000 in
theorem REnds_any (c : Cas) (v : Value) (w : World) (hv : CasV w v c) (hc : CasOK c) (h0 : checkS c.tars = 0) :
    Calls Tryz.prog 34 #[v] w fun e w' => ∃ a q, e = .returned (.slice a (endsF c c.flds).length q) ∧ ResRow c.fee w.heap.size 62 (endsF c c.flds) (.slice a (endsF c c.flds).length q) w' ∧ Ext w w' := by
  have HV := Lib.hid hv
  have HC := Lib.hid hc
  obtain ⟨a1, c1, a2, c2, rfl, -, -, hcl, hl1, hl2⟩ := hv.open
  have HCL : Hid (∀ w', Ext w w' → Cells9 w' a2 (c.flds.map Fld.c)) := Lib.hid (fun w' hx => hcl.ext hx)
  obtain ⟨i3, hi3, hz30, hz31, hz32⟩ := info_parts info_roc
  obtain ⟨i1, hi1, hz10, hz11, hz12⟩ := info_parts info_rocs
  obtain ⟨i4, hi4, hz40, hz41, hz42⟩ := info_parts info_rres
  have HO : Hid (∀ k (hk : k < c.flds.length) W, Ext w W → Calls Tryz.prog 59 #[casV a1 c.tars.length c1 c.day c.fee a2 c.flds.length c2, c.flds[k].c.val] W fun e w' => ∃ a q, e = .returned (.slice a (outcomesS c c.flds[k]).length q) ∧ OcRow W.heap.size 128 (outcomesS c c.flds[k]) (.slice a (outcomesS c c.flds[k]).length q) w' ∧ Ext W w') :=
    Lib.hid (fun k hk W hx => ROutcomes_any c _ _ W (HV.out.ext hx) hc h0 (hc.flds _ (List.getElem_mem hk)))
  have hfew := hc.few
  have HOL : Hid (∀ k (hk : k < c.flds.length), (outcomesS c c.flds[k]).length ≤ 125) := Lib.hid (fun k hk => by
    have h1 := outTo_len c c.flds[k] (truthsN c.flds[k])
    rw [outTo_all] at h1
    exact Nat.le_trans h1 (truthsN_le (hc.flds _ (List.getElem_mem hk))))
  have HLE : Hid (∀ j, (endsF c (c.flds.take j)).length ≤ 1953125) := Lib.hid (fun j => by
    have h1 := ends_len (c := c) (fs := c.flds.take j) (fun f hf => by
      obtain ⟨k, hk, rfl⟩ := List.mem_iff_getElem.1 (List.mem_of_mem_take hf)
      exact HOL.out k hk)
    refine Nat.le_trans h1 ?_
    have h2 : (c.flds.take j).length ≤ 3 := by rw [List.length_take]; omega
    have h3 := Nat.pow_le_pow_right (n := 125) (by decide) h2
    exact Nat.le_trans h3 (by decide))
  have HEND : Hid (∀ k (hk : k < (endsF c c.flds).length) W vl, Ext w W → OcsV W vl (endsF c c.flds)[k] → Calls Tryz.prog 60 #[casV a1 c.tars.length c1 c.day c.fee a2 c.flds.length c2, vl] W fun e w' => e = .returned (.agg #[.slice none 0 0, .int .i64 (sumR (endsF c c.flds)[k]).award, .int .i64 ((sumR (endsF c c.flds)[k]).far c.fee), .int .i64 ((sumR (endsF c c.flds)[k]).soc c.fee)]) ∧ Ext W w') := Lib.hid (fun k hk W vl hx hvl => by
    have hmem := List.getElem_mem hk
    have h3 := ends_width hmem
    refine REnd_any c _ _ vl W (HV.out.ext hx) hvl (by omega) ?_ HC.out.fee
    obtain ⟨t, ht, e⟩ := mem_ends.1 hmem
    rw [e]; exact ocsT_ok HC.out h0 ht)
  clear hv hcl hc
  unfold casV at *
  go_enter Tryz.func34, Tryz.ntmps34
  go_wp2_with fail
  have X : Ext w (((w.alloc (.cells #[.slice a1 c.tars.length c1, .int .i64 c.day, .int .i64 c.fee, .slice a2 c.flds.length c2] 25)).alloc (.cells #[] 128)).alloc (.cells #[.slice (some ⟨w.heap.size + 1, 0, none⟩) 0 0] 124)) := by (repeat (first | exact Ext.refl _ | (with_reducible assumption) | (with_reducible refine Ext.drew ?_) | (with_reducible refine Ext.alloc ?_ _) | (with_reducible refine Ext.drewN ?_ _) | (with_reducible refine Ext.setCell ?_ (by omega) _) | (with_reducible refine Ext.trans ?_ (by with_reducible assumption))))
  have q0 : (((w.alloc (.cells #[.slice a1 c.tars.length c1, .int .i64 c.day, .int .i64 c.fee, .slice a2 c.flds.length c2] 25)).alloc (.cells #[] 128)).alloc (.cells #[.slice (some ⟨w.heap.size + 1, 0, none⟩) 0 0] 124)).cell? ⟨w.heap.size, 0, none⟩ = some (.slice a1 c.tars.length c1) := by simp [go_sem]
  have q1 : (((w.alloc (.cells #[.slice a1 c.tars.length c1, .int .i64 c.day, .int .i64 c.fee, .slice a2 c.flds.length c2] 25)).alloc (.cells #[] 128)).alloc (.cells #[.slice (some ⟨w.heap.size + 1, 0, none⟩) 0 0] 124)).cell? ⟨w.heap.size, 1, none⟩ = some (.int .i64 c.day) := by simp [go_sem]
  have q2 : (((w.alloc (.cells #[.slice a1 c.tars.length c1, .int .i64 c.day, .int .i64 c.fee, .slice a2 c.flds.length c2] 25)).alloc (.cells #[] 128)).alloc (.cells #[.slice (some ⟨w.heap.size + 1, 0, none⟩) 0 0] 124)).cell? ⟨w.heap.size, 2, none⟩ = some (.int .i64 c.fee) := by simp [go_sem]
  have q3 : (((w.alloc (.cells #[.slice a1 c.tars.length c1, .int .i64 c.day, .int .i64 c.fee, .slice a2 c.flds.length c2] 25)).alloc (.cells #[] 128)).alloc (.cells #[.slice (some ⟨w.heap.size + 1, 0, none⟩) 0 0] 124)).cell? ⟨w.heap.size, 3, none⟩ = some (.slice a2 c.flds.length c2) := by simp [go_sem]
  have q4 : (((w.alloc (.cells #[.slice a1 c.tars.length c1, .int .i64 c.day, .int .i64 c.fee, .slice a2 c.flds.length c2] 25)).alloc (.cells #[] 128)).alloc (.cells #[.slice (some ⟨w.heap.size + 1, 0, none⟩) 0 0] 124)).cell? ⟨w.heap.size + 1 + 1, 0, none⟩ = some (.slice (some ⟨w.heap.size + 1, 0, none⟩) 0 0) := by simp [go_sem]
  have HA0 : Hid (AllV (((w.alloc (.cells #[.slice a1 c.tars.length c1, .int .i64 c.day, .int .i64 c.fee, .slice a2 c.flds.length c2] 25)).alloc (.cells #[] 128)).alloc (.cells #[.slice (some ⟨w.heap.size + 1, 0, none⟩) 0 0] 124)) (.slice (some ⟨w.heap.size + 1 + 1, 0, none⟩) 1 1) [[]]) := Lib.hid ⟨_, 1, rfl, fun i hi => by
    obtain rfl : i = 0 := by simpa using hi
    exact ⟨_, 0, _, 0, rfl, q4, _, 0, rfl, Nat.le_refl _, by simp, fun i h => absurd h (by simp)⟩⟩
  clear q4
  generalize (((w.alloc (.cells #[.slice a1 c.tars.length c1, .int .i64 c.day, .int .i64 c.fee, .slice a2 c.flds.length c2] 25)).alloc (.cells #[] 128)).alloc (.cells #[.slice (some ⟨w.heap.size + 1, 0, none⟩) 0 0] 124)) = W at *
  have HS : Hid (∀ w', Ext W w' → (w'.cell? ⟨w.heap.size, 0, none⟩ = some (.slice a1 c.tars.length c1) ∧ w'.cell? ⟨w.heap.size, 1, none⟩ = some (.int .i64 c.day) ∧ w'.cell? ⟨w.heap.size, 2, none⟩ = some (.int .i64 c.fee) ∧ w'.cell? ⟨w.heap.size, 3, none⟩ = some (.slice a2 c.flds.length c2))) := Lib.hid (fun w' hx => ⟨hx.keep q0, hx.keep q1, hx.keep q2, hx.keep q3⟩)
  clear q0 q1 q2 q3
  go_loopw [3, 4] (fun s3 s4 wr => ∃ (i n : Nat) (a3 : Option Addr) (q3 : Nat), i ≤ c.flds.length ∧ s4 = .int .i64 i ∧ s3 = .slice a3 n q3 ∧ Hid (n = (endsF c (c.flds.take i)).length ∧ AllV wr (.slice a3 n q3) (endsF c (c.flds.take i))) ∧ Ext W wr) (fun _ s _ => c.flds.length - (intOf s).toNat)
  case atStart => exact ⟨0, 1, _, 1, Nat.zero_le _, rfl, rfl, Lib.hid ⟨rfl, HA0.out⟩, Ext.refl _⟩
  case round =>
    obtain ⟨i, n, a3, qc3, hi, rfl, rfl, HR, hx⟩ := hrel
    obtain ⟨wo, rfl⟩ : ∃ x, x = wr := ⟨_, rfl⟩
    obtain ⟨q0, q1, q2, q3⟩ := HS.out wo hx
    by_cases hlt : i < c.flds.length
    · have HO1 := Lib.hid (HO.out i hlt)
      have HOL1 := Lib.hid (HOL.out i hlt)
      have HNX : Hid (nextE (endsF c (c.flds.take i)) (outcomesS c c.flds[i]) = endsF c (c.flds.take (i + 1))) := Lib.hid (ends_next c hlt)
      obtain ⟨b, off, rfl, hce⟩ := HCL.out _ (X.trans hx) i (by simpa using hlt)
      have e1 : (c.flds.map Fld.c)[i]'(by simpa using hlt) = (c.flds[i]).c := by simp
      rw [e1] at hce
      clear e1
      generalize outcomesS c c.flds[i] = l at *
      generalize c.flds[i] = f at *
      obtain ⟨cr, va, ne, al, ah, bl, bh, ul, uh⟩ := f
      obtain ⟨m0, m1, m2, m3, m4, m5, m6, m7, m8⟩ := hce
      simp only [Fld.c, V9.val] at *
      have hk0 : (0 : Int) ≤ (i : Int) := by omega
      have hki : (i : Int) < (c.flds.length : Int) := by omega
      have HSX : Hid (∀ w', Ext wo w' → ((w'.cell? ⟨w.heap.size, 0, none⟩ = some (.slice a1 c.tars.length c1) ∧ w'.cell? ⟨w.heap.size, 1, none⟩ = some (.int .i64 c.day) ∧ w'.cell? ⟨w.heap.size, 2, none⟩ = some (.int .i64 c.fee) ∧ w'.cell? ⟨w.heap.size, 3, none⟩ = some (.slice (some ⟨b, off, none⟩) c.flds.length c2)) ∧ (w'.cell? ⟨b, off + i * 9, none⟩ = some (.int .i64 cr) ∧ w'.cell? ⟨b, off + i * 9 + 1, none⟩ = some (.int .i64 va) ∧ w'.cell? ⟨b, off + i * 9 + 2, none⟩ = some (.int .i64 ne) ∧ w'.cell? ⟨b, off + i * 9 + 3, none⟩ = some (.int .i64 al) ∧ w'.cell? ⟨b, off + i * 9 + 4, none⟩ = some (.int .i64 ah) ∧ w'.cell? ⟨b, off + i * 9 + 5, none⟩ = some (.int .i64 bl) ∧ w'.cell? ⟨b, off + i * 9 + 6, none⟩ = some (.int .i64 bh) ∧ w'.cell? ⟨b, off + i * 9 + 7, none⟩ = some (.int .i64 ul) ∧ w'.cell? ⟨b, off + i * 9 + 8, none⟩ = some (.int .i64 uh))) ∧ Ext wo w') := Lib.hid (fun w' h => ⟨⟨HS.out _ (hx.trans h), h.keep m0, h.keep m1, h.keep m2, h.keep m3, h.keep m4, h.keep m5, h.keep m6, h.keep m7, h.keep m8⟩, h⟩)
      have HX := Lib.hid (X.trans hx)
      clear m0 m1 m2 m3 m4 m5 m6 m7 m8
      go_upto_region 6 with fail
      go_cut [6] from 20 to 26 (fun s6 wx => ∃ a6 q6, s6 = .slice a6 l.length q6 ∧ OcRow wo.heap.size 128 l (.slice a6 l.length q6) wx ∧ Ext wo wx)
      case first =>
        clear q0 q1 q2 q3 HNX HR HO HOL HS HA0 hx X HCL HOL1
        refine wp_region_held_drew (S := (fun w' => ((w'.cell? ⟨w.heap.size, 0, none⟩ = some (.slice a1 c.tars.length c1) ∧ w'.cell? ⟨w.heap.size, 1, none⟩ = some (.int .i64 c.day) ∧ w'.cell? ⟨w.heap.size, 2, none⟩ = some (.int .i64 c.fee) ∧ w'.cell? ⟨w.heap.size, 3, none⟩ = some (.slice (some ⟨b, off, none⟩) c.flds.length c2)) ∧ (w'.cell? ⟨b, off + i * 9, none⟩ = some (.int .i64 cr) ∧ w'.cell? ⟨b, off + i * 9 + 1, none⟩ = some (.int .i64 va) ∧ w'.cell? ⟨b, off + i * 9 + 2, none⟩ = some (.int .i64 ne) ∧ w'.cell? ⟨b, off + i * 9 + 3, none⟩ = some (.int .i64 al) ∧ w'.cell? ⟨b, off + i * 9 + 4, none⟩ = some (.int .i64 ah) ∧ w'.cell? ⟨b, off + i * 9 + 5, none⟩ = some (.int .i64 bl) ∧ w'.cell? ⟨b, off + i * 9 + 6, none⟩ = some (.int .i64 bh) ∧ w'.cell? ⟨b, off + i * 9 + 7, none⟩ = some (.int .i64 ul) ∧ w'.cell? ⟨b, off + i * 9 + 8, none⟩ = some (.int .i64 uh))) ∧ Ext wo w')) (by kernel_rfl) ?_ (fun hHeld => ?_)
        focus ((try dsimp only); (refine HSX.out _ ?_; (repeat (first | exact Ext.refl _ | (with_reducible assumption) | (with_reducible refine Ext.drew ?_) | (with_reducible refine Ext.alloc ?_ _) | (with_reducible refine Ext.drewN ?_ _) | (with_reducible refine Ext.setCell ?_ (by omega) _) | (with_reducible refine Ext.trans ?_ (by with_reducible assumption))))))
        refine wpAnyH_take (i := 0) (v := ?_) rfl (by kernel_rfl) (by decide +kernel) (by decide +kernel) (fun _ _ _ h => h) (Or.inl ⟨by rfl, ?_⟩) (by assumption) ?_
        rotate_left
        focus (intro w hSw; (try dsimp only at hSw); go_simp; try (first | (with_reducible rfl) | (with_reducible exact rfl)))
        (try simp only [Act.put, List.getElem_toArray, List.getElem_cons_succ, List.getElem_cons_zero, List.setIfInBounds_toArray, List.set_cons_zero, List.set_cons_succ])
        refine wpAnyH_take (i := 1) (v := ?_) rfl (by kernel_rfl) (by decide +kernel) (by decide +kernel) (fun _ _ _ h => h) (Or.inl ⟨by rfl, ?_⟩) (by assumption) ?_
        rotate_left
        focus (intro w hSw; (try dsimp only at hSw); go_simp; try (first | (with_reducible rfl) | (with_reducible exact rfl)))
        (try simp only [Act.put, List.getElem_toArray, List.getElem_cons_succ, List.getElem_cons_zero, List.setIfInBounds_toArray, List.set_cons_zero, List.set_cons_succ])
        refine wpAnyH_take (i := 2) (v := ?_) rfl (by kernel_rfl) (by decide +kernel) (by decide +kernel) (fun _ _ _ h => h) (Or.inl ⟨by rfl, ?_⟩) (by assumption) ?_
        rotate_left
        focus (intro w hSw; (try dsimp only at hSw); go_simp; try (first | (with_reducible rfl) | (with_reducible exact rfl)))
        (try simp only [Act.put, List.getElem_toArray, List.getElem_cons_succ, List.getElem_cons_zero, List.setIfInBounds_toArray, List.set_cons_zero, List.set_cons_succ])
        refine wpAnyH_take (i := 3) (v := ?_) rfl (by kernel_rfl) (by decide +kernel) (by decide +kernel) (fun _ _ _ h => h) (Or.inl ⟨by rfl, ?_⟩) (by assumption) ?_
        rotate_left
        focus (intro w hSw; (try dsimp only at hSw); go_simp; try (first | (with_reducible rfl) | (with_reducible exact rfl)))
        (try simp only [Act.put, List.getElem_toArray, List.getElem_cons_succ, List.getElem_cons_zero, List.setIfInBounds_toArray, List.set_cons_zero, List.set_cons_succ])
        refine wpAnyH_take (i := 4) (v := ?_) rfl (by kernel_rfl) (by decide +kernel) (by decide +kernel) (fun _ _ _ h => h) (Or.inl ⟨by rfl, ?_⟩) (by assumption) ?_
        rotate_left
        focus (intro w hSw; (try dsimp only at hSw); go_simp; try (first | (with_reducible rfl) | (with_reducible exact rfl)))
        (try simp only [Act.put, List.getElem_toArray, List.getElem_cons_succ, List.getElem_cons_zero, List.setIfInBounds_toArray, List.set_cons_zero, List.set_cons_succ])
        refine wpAnyH_take (i := 5) (v := ?_) rfl (by kernel_rfl) (by decide +kernel) (by decide +kernel) (fun _ _ _ h => h) (Or.inl ⟨by rfl, ?_⟩) (by assumption) ?_
        rotate_left
        focus (intro w hSw; (try dsimp only at hSw); go_simp; try (first | (with_reducible rfl) | (with_reducible exact rfl)))
        (try simp only [Act.put, List.getElem_toArray, List.getElem_cons_succ, List.getElem_cons_zero, List.setIfInBounds_toArray, List.set_cons_zero, List.set_cons_succ])
        repeat' (first
          | (refine wpAnyH_ready (rs := [6]) (by decide +kernel) (by simp) ?_
             refine AllReadyH.cons rfl (fun K hK => ?_) ?_
             focus
               (go_simp; ((refine (HO1.out _ (HX.out.trans (by (repeat (first | exact Ext.refl _ | (with_reducible assumption) | (with_reducible refine Ext.drew ?_) | (with_reducible refine Ext.alloc ?_ _) | (with_reducible refine Ext.drewN ?_ _) | (with_reducible refine Ext.setCell ?_ (by omega) _) | (with_reducible refine Ext.trans ?_ (by with_reducible assumption))))))).mono ?_); rintro e w6 ⟨a6, q6, rfl, hrow6, hx6⟩; have hr6 := OcRow.base hrow6 (Ext.size (a := wo) (by (repeat (first | exact Ext.refl _ | (with_reducible assumption) | (with_reducible refine Ext.drew ?_) | (with_reducible refine Ext.alloc ?_ _) | (with_reducible refine Ext.drewN ?_ _) | (with_reducible refine Ext.setCell ?_ (by omega) _) | (with_reducible refine Ext.trans ?_ (by with_reducible assumption)))))); have hy6 : Ext wo w6 := by (repeat (first | exact Ext.refl _ | (with_reducible assumption) | (with_reducible refine Ext.drew ?_) | (with_reducible refine Ext.alloc ?_ _) | (with_reducible refine Ext.drewN ?_ _) | (with_reducible refine Ext.setCell ?_ (by omega) _) | (with_reducible refine Ext.trans ?_ (by with_reducible assumption))))); go_wp2_with fail)
               refine hK.out _ _ ?_ (fun hNew => ?_)
               focus ((try dsimp only); (refine HSX.out _ ?_; (repeat (first | exact Ext.refl _ | (with_reducible assumption) | (with_reducible refine Ext.drew ?_) | (with_reducible refine Ext.alloc ?_ _) | (with_reducible refine Ext.drewN ?_ _) | (with_reducible refine Ext.setCell ?_ (by omega) _) | (with_reducible refine Ext.trans ?_ (by with_reducible assumption))))))
               clear hK K hHeld
               have hHeld := hNew
               clear hNew
               (try simp only [Act.put, List.getElem_toArray, List.getElem_cons_succ, List.getElem_cons_zero, List.setIfInBounds_toArray, List.set_cons_zero, List.set_cons_succ])
             rotate_left
             exact AllReadyH.nil)
          | (refine wpAnyH_ready (rs := [7]) (by decide +kernel) (by simp) ?_
             refine AllReadyH.cons rfl (fun K hK => ?_) ?_
             focus
               go_simp
               refine hK.out _ _ ?_ (fun hNew => ?_)
               focus ((try dsimp only); (refine HSX.out _ ?_; (repeat (first | exact Ext.refl _ | (with_reducible assumption) | (with_reducible refine Ext.drew ?_) | (with_reducible refine Ext.alloc ?_ _) | (with_reducible refine Ext.drewN ?_ _) | (with_reducible refine Ext.setCell ?_ (by omega) _) | (with_reducible refine Ext.trans ?_ (by with_reducible assumption))))))
               clear hK K hHeld
               have hHeld := hNew
               clear hNew
               (try simp only [Act.put, List.getElem_toArray, List.getElem_cons_succ, List.getElem_cons_zero, List.setIfInBounds_toArray, List.set_cons_zero, List.set_cons_succ])
             rotate_left
             exact AllReadyH.nil)
          | (refine wpAnyH_done (by decide +kernel) ?_ _)
          | fail)
        all_goals
          go_wp2_with fail
          go_meet
          exact ⟨a6, q6, rfl, hr6.ext (by (repeat (first | exact Ext.refl _ | (with_reducible assumption) | (with_reducible refine Ext.drew ?_) | (with_reducible refine Ext.alloc ?_ _) | (with_reducible refine Ext.drewN ?_ _) | (with_reducible refine Ext.setCell ?_ (by omega) _) | (with_reducible refine Ext.trans ?_ (by with_reducible assumption))))), by (repeat (first | exact Ext.refl _ | (with_reducible assumption) | (with_reducible refine Ext.drew ?_) | (with_reducible refine Ext.alloc ?_ _) | (with_reducible refine Ext.drewN ?_ _) | (with_reducible refine Ext.setCell ?_ (by omega) _) | (with_reducible refine Ext.trans ?_ (by with_reducible assumption))))⟩
      case rest =>
        obtain ⟨a6, q6, rfl, hrow6, hx6⟩ := hcut
        obtain ⟨w6, rfl⟩ : ∃ x, x = wc := ⟨_, rfl⟩
        obtain ⟨hnA, hall⟩ := HR.out
        have HAL := Lib.hid (hall.ext hx6)
        have HNA := Lib.hid hnA
        have HWD : Hid (∀ p ∈ endsF c (c.flds.take i), p.length ≤ 3) := Lib.hid (fun p hp => by have h1 := ends_width hp; rw [List.length_take] at h1; omega)
        have HBD : Hid ((nextE (endsF c (c.flds.take i)) l).length ≤ 1953125) := Lib.hid (by rw [HNX.out]; exact HLE.out (i + 1))
        have hnb : n ≤ 1953125 := by rw [hnA]; exact HLE.out i
        have X6 := hx.trans hx6
        have HRL := Lib.hid hrow6
        have HLL := HOL1.out
        have HNX1 := Lib.hid HNX.out
        clear q0 q1 q2 q3 hnA hall HR hx HX HSX HO1 HOL1 HNX hx6 hrow6 hk0
        generalize endsF c (c.flds.take i) = A at *
        go_wp2_with fail
        go_loopw [5, 7] (fun s5 s7 wr => ∃ (m n5 : Nat) (a5 : Option Addr) (q5 : Nat), m ≤ n ∧ s7 = .int .i64 m ∧ s5 = .slice a5 n5 q5 ∧ Hid (n5 = (nextE (A.take m) l).length ∧ AllB w6.heap.size 124 wr (.slice a5 n5 q5) (nextE (A.take m) l)) ∧ Ext w6 wr) (fun _ s _ => n - (intOf s).toNat)
        case atStart => exact ⟨0, 0, none, 0, Nat.zero_le _, rfl, rfl, Lib.hid ⟨rfl, Build1.nil _⟩, Ext.refl _⟩
        case round =>
          obtain ⟨m, n5, a5, q5, hm, rfl, rfl, HR5, hy⟩ := hrel
          obtain ⟨w7, rfl⟩ : ∃ x, x = wr := ⟨_, rfl⟩
          by_cases hlm : m < n
          · have hmA : m < A.length := by have := HNA.out; omega
            obtain ⟨b3, off3, a2', q2', e3, hc3, hv3⟩ : ∃ b off a2 q2, a3 = some ⟨b, off, none⟩ ∧ w6.cell? ⟨b, off + m, none⟩ = some (.slice a2 (A[m]).length q2) ∧ OcsV w6 (.slice a2 (A[m]).length q2) (A[m]) := by
              obtain ⟨a, q, e, h⟩ := HAL.out
              simp only [Value.slice.injEq] at e
              obtain ⟨rfl, -, -⟩ := e
              exact h m hmA
            subst e3
            have HNT := Lib.hid (nextE_take (l := l) hmA)
            have hpl := HWD.out _ (List.getElem_mem hmA)
            have HC3 := Lib.hid hc3
            have HV3 := Lib.hid hv3
            have HM1 : Hid ((nextE (A.take (m + 1)) l).length ≤ 1953125) := Lib.hid (by
              have h1 := HBD.out
              rw [nextE_len] at h1 ⊢
              exact Nat.le_trans (Nat.mul_le_mul_right _ (by rw [List.length_take]; omega)) h1)
            clear hc3 hv3
            generalize A[m] = p at *
            generalize hQ : nextE (A.take (m + 1)) l = Q at *
            have HQ := Lib.hid hQ
            clear hQ
            generalize nextE (A.take m) l = P at *
            obtain ⟨hn5, hab⟩ := HR5.out
            have HAB := Lib.hid hab
            have HN5 := Lib.hid hn5
            clear HR5 hab hn5
            have hm0 : (0 : Int) ≤ (m : Int) := by omega
            have hmn : (m : Int) < (n : Int) := by omega
            go_wp2_with fail
            go_loopw [5, 8] (fun s5 s8 wr => ∃ (k n8 : Nat) (a8 : Option Addr) (q8 : Nat), k ≤ l.length ∧ s8 = .int .i64 k ∧ s5 = .slice a8 n8 q8 ∧ Hid (n8 = (P ++ (l.take k).map (fun o => p ++ [o])).length ∧ AllB w6.heap.size 124 wr (.slice a8 n8 q8) (P ++ (l.take k).map (fun o => p ++ [o]))) ∧ Ext w6 wr) (fun _ s _ => l.length - (intOf s).toNat)
            case atStart => exact ⟨0, n5, a5, q5, Nat.zero_le _, rfl, rfl, Lib.hid (by simpa using ⟨HN5.out, HAB.out⟩), hy⟩
            case round =>
              obtain ⟨k, n8, a8, q8, hk, rfl, rfl, HR8, hz⟩ := hrel
              obtain ⟨wq, rfl⟩ : ∃ x, x = wr := ⟨_, rfl⟩
              clear HAB HN5
              by_cases hlk : k < l.length
              · obtain ⟨b6, rfl, -, hc6⟩ := HRL.out.at hlk
                obtain ⟨g0, g1, g2⟩ := hc6
                have HPN : Hid ((P ++ (l.take (k + 1)).map (fun o => p ++ [o])) = (P ++ (l.take k).map (fun o => p ++ [o])) ++ [p ++ [l[k]]]) := Lib.hid (by rw [part_next hlk, List.append_assoc])
                obtain ⟨hn8, hab8⟩ := HR8.out
                have HN8 := Lib.hid hn8
                have hPQ : (P ++ (l.take k).map (fun o => p ++ [o])).length ≤ 1953125 := by
                  have h1 := HM1.out
                  rw [HNT.out] at h1
                  rw [List.length_append, List.length_map] at h1 ⊢
                  rw [List.length_take]
                  omega
                rw [← hn8] at hPQ
                clear hn8 HR8 HM1
                generalize P ++ (l.take k).map (fun o => p ++ [o]) = Pk at *
                generalize hPn : P ++ (l.take (k + 1)).map (fun o => p ++ [o]) = Pn at *
                have HPn := Lib.hid hPn
                clear hPn
                obtain ⟨us, hul, hrow8, -, hs8⟩ := hab8
                have HUL := Lib.hid hul
                have HOWN8 : Hid (∀ w', Ext wq w' → w'.ownsRow w6.heap.size 124 1 (.slice a8 n8 q8) n8 us) := Lib.hid (fun w' hx => own_ext (by rw [HN8.out]; rw [HN8.out] at hrow8; exact hrow8) hx)
                have HS8 : Hid (∀ w', Ext wq w' → ∀ i (h1 : i < us.length) (h2 : i < Pk.length), OcsV (mask (cov (fun _ => false) (.slice a8 n8 q8)) w') us[i] Pk[i]) := Lib.hid (fun w' hx i h1 h2 => OcsV.kc (Ext.mask hx (fun _ _ h => h)) (hs8 i h1 h2))
                have HD8 : Hid (∀ g, (Value.slice a8 n8 q8).ownBlock = some g → g < wq.heap.size) := Lib.hid (fun g hg => (own_lt hrow8 hg).2)
                have HB8 : Hid (∀ g, (Value.slice a8 n8 q8).ownBlock = some g → w6.heap.size ≤ g) := Lib.hid (fun g hg => (own_lt hrow8 hg).1)
                clear hul hrow8 hs8
                generalize l[k] = o at *
                obtain ⟨op, ob, ol⟩ := o
                simp only [Oc.c] at g0 g1 g2
                have hk0 : (0 : Int) ≤ (k : Int) := by omega
                have hkl : (k : Int) < (l.length : Int) := by omega
                have HSX : Hid (∀ w', Ext w6 w' → (w'.cell? ⟨b3, off3 + m, none⟩ = some (.slice a2' p.length q2') ∧ w'.cell? ⟨b6, k * 3, none⟩ = some (.int .i64 op) ∧ w'.cell? ⟨b6, k * 3 + 1, none⟩ = some (.bool ob) ∧ w'.cell? ⟨b6, k * 3 + 2, none⟩ = some (.int .i64 ol)) ∧ Ext w6 w') := Lib.hid (fun w' h => ⟨⟨h.keep HC3.out, h.keep g0, h.keep g1, h.keep g2⟩, h⟩)
                have HLN : Hid ((p ++ [(⟨op, ob, ol⟩ : Oc)]).length ≤ 1000) := Lib.hid (by simp; omega)
                have HTF1 : Hid (n8 + 1 ≤ maxLen) := Lib.hid (by simp only [maxLen]; omega)
                have HTF2 : Hid ((n8 + 1) * 24 ≤ 140737488355328) := Lib.hid (by omega)
                have HPE : Hid (p.length = p.length) := Lib.hid rfl
                have HONE : Hid (∀ u ∈ ([.int .i64 op, .bool ob, .int .i64 ol] : List Value), u.oneCell' = true) := Lib.hid (by
                  intro u hu
                  simp only [List.mem_cons, List.not_mem_nil, or_false] at hu
                  rcases hu with rfl | rfl | rfl <;> rfl)
                have HQF1 : Hid (p.length + 1 ≤ maxLen) := Lib.hid (by simp only [maxLen]; omega)
                have HQF2 : Hid ((p.length + 1) * 24 ≤ 140737488355328) := Lib.hid (by omega)
                have HNXR : Hid (∀ w' g cap, w'.ownsRow wq.heap.size 128 3 (.slice (some ⟨g, 0, none⟩) (p.length + 1) cap) (p.length + 1) (p.flatMap (fun o => o.c.cs) ++ [.int .i64 op, .bool ob, .int .i64 ol]) → OcRow wq.heap.size 128 (p ++ [⟨op, ob, ol⟩]) (.slice (some ⟨g, 0, none⟩) (p.length + 1) cap) w') := Lib.hid (fun w' g cap h => OcRow.next (o := ⟨op, ob, ol⟩) h rfl)
                have HPL : Hid ((p.flatMap (fun o => o.c.cs)).length = p.length * 3) := Lib.hid (oc_len p)
                have HP1 := Lib.hid (oc_one p)
                have HPF1 : Hid (0 + p.length ≤ maxLen) := Lib.hid (by simp only [maxLen]; omega)
                have HPF2 : Hid ((0 + p.length) * 24 ≤ 140737488355328) := Lib.hid (by omega)
                clear g0 g1 g2
                go_upto_block 5 with fail
                go_cut [5] from 39 to 53 (fun s5 wx => ∃ g cap, s5 = .slice (some ⟨g, 0, none⟩) (n8 + 1) cap ∧ AllB w6.heap.size 124 wx (.slice (some ⟨g, 0, none⟩) (n8 + 1) cap) (Pk ++ [p ++ [⟨op, ob, ol⟩]]) ∧ Ext w6 wx)
                case first =>
                  clear HS HCL HO HOL HLE HA0 HNA HAL HWD HBD HRL HNX1 HNT HQ HPN HPn X X6 hy
                  have hwq : Ext wq wq := Ext.refl _
                  go_upto_region 13 with fail
                  by_cases hp0 : p.length = 0
                  · obtain rfl : p = [] := List.eq_nil_of_length_eq_zero hp0
                    simp only [List.length_nil, List.flatMap_nil] at *
                    refine wp_region_held_drew (S := (fun w' => (w'.cell? ⟨b3, off3 + m, none⟩ = some (.slice a2' 0 q2') ∧ w'.cell? ⟨b6, k * 3, none⟩ = some (.int .i64 op) ∧ w'.cell? ⟨b6, k * 3 + 1, none⟩ = some (.bool ob) ∧ w'.cell? ⟨b6, k * 3 + 2, none⟩ = some (.int .i64 ol)) ∧ Ext w6 w')) (by kernel_rfl) ?_ (fun hHeld => ?_)
                    focus ((try dsimp only); (refine HSX.out _ ?_; (repeat (first | exact Ext.refl _ | (with_reducible assumption) | (with_reducible refine Ext.drew ?_) | (with_reducible refine Ext.alloc ?_ _) | (with_reducible refine Ext.drewN ?_ _) | (with_reducible refine Ext.setCell ?_ (by omega) _) | (with_reducible refine Ext.trans ?_ (by with_reducible assumption))))))
                    refine wpAnyH_take (i := 0) (v := ?_) rfl (by kernel_rfl) (by decide +kernel) (by decide +kernel) (fun _ _ _ h => h) (Or.inl ⟨by rfl, ?_⟩) (by assumption) ?_
                    rotate_left
                    focus (intro w hSw; (try dsimp only at hSw); go_simp; try (first | (with_reducible rfl) | (with_reducible exact rfl)))
                    (try simp only [Act.put, List.getElem_toArray, List.getElem_cons_succ, List.getElem_cons_zero, List.setIfInBounds_toArray, List.set_cons_zero, List.set_cons_succ])
                    refine wpAnyH_take (i := 2) (v := ?_) rfl (by kernel_rfl) (by decide +kernel) (by decide +kernel) (fun _ _ _ h => h) (Or.inl ⟨by rfl, ?_⟩) (by assumption) ?_
                    rotate_left
                    focus (intro w hSw; (try dsimp only at hSw); go_simp; try (first | (with_reducible rfl) | (with_reducible exact rfl)))
                    (try simp only [Act.put, List.getElem_toArray, List.getElem_cons_succ, List.getElem_cons_zero, List.setIfInBounds_toArray, List.set_cons_zero, List.set_cons_succ])
                    refine wpAnyH_take (i := 3) (v := ?_) rfl (by kernel_rfl) (by decide +kernel) (by decide +kernel) (fun _ _ _ h => h) (Or.inl ⟨by rfl, ?_⟩) (by assumption) ?_
                    rotate_left
                    focus (intro w hSw; (try dsimp only at hSw); go_simp; try (first | (with_reducible rfl) | (with_reducible exact rfl)))
                    (try simp only [Act.put, List.getElem_toArray, List.getElem_cons_succ, List.getElem_cons_zero, List.setIfInBounds_toArray, List.set_cons_zero, List.set_cons_succ])
                    refine wpAnyH_take (i := 4) (v := ?_) rfl (by kernel_rfl) (by decide +kernel) (by decide +kernel) (fun _ _ _ h => h) (Or.inl ⟨by rfl, ?_⟩) (by assumption) ?_
                    rotate_left
                    focus (intro w hSw; (try dsimp only at hSw); go_simp; try (first | (with_reducible rfl) | (with_reducible exact rfl)))
                    (try simp only [Act.put, List.getElem_toArray, List.getElem_cons_succ, List.getElem_cons_zero, List.setIfInBounds_toArray, List.set_cons_zero, List.set_cons_succ])
                    refine wpAnyH_take (i := 5) (v := ?_) rfl (by kernel_rfl) (by decide +kernel) (by decide +kernel) (fun _ _ _ h => h) (Or.inl ⟨by rfl, ?_⟩) (by assumption) ?_
                    rotate_left
                    focus (intro w hSw; (try dsimp only at hSw); go_simp; try (first | (with_reducible rfl) | (with_reducible exact rfl)))
                    (try simp only [Act.put, List.getElem_toArray, List.getElem_cons_succ, List.getElem_cons_zero, List.setIfInBounds_toArray, List.set_cons_zero, List.set_cons_succ])
                    refine wpAnyH_take (i := 7) (v := ?_) rfl (by kernel_rfl) (by decide +kernel) (by decide +kernel) (fun _ _ _ h => h) (Or.inl ⟨by rfl, ?_⟩) (by assumption) ?_
                    rotate_left
                    focus (intro w hSw; (try dsimp only at hSw); go_simp; try (first | (with_reducible rfl) | (with_reducible exact rfl)))
                    (try simp only [Act.put, List.getElem_toArray, List.getElem_cons_succ, List.getElem_cons_zero, List.setIfInBounds_toArray, List.set_cons_zero, List.set_cons_succ])
                    refine wpAnyH_take (i := 8) (v := ?_) rfl (by kernel_rfl) (by decide +kernel) (by decide +kernel) (fun _ _ _ h => h) (Or.inl ⟨by rfl, ?_⟩) (by assumption) ?_
                    rotate_left
                    focus (intro w hSw; (try dsimp only at hSw); go_simp; try (first | (with_reducible rfl) | (with_reducible exact rfl)))
                    (try simp only [Act.put, List.getElem_toArray, List.getElem_cons_succ, List.getElem_cons_zero, List.setIfInBounds_toArray, List.set_cons_zero, List.set_cons_succ])
                    refine wpAnyH_take (i := 9) (v := ?_) rfl (by kernel_rfl) (by decide +kernel) (by decide +kernel) (fun _ _ _ h => h) (Or.inl ⟨by rfl, ?_⟩) (by assumption) ?_
                    rotate_left
                    focus (intro w hSw; (try dsimp only at hSw); go_simp; try (first | (with_reducible rfl) | (with_reducible exact rfl)))
                    (try simp only [Act.put, List.getElem_toArray, List.getElem_cons_succ, List.getElem_cons_zero, List.setIfInBounds_toArray, List.set_cons_zero, List.set_cons_succ])
                    refine wpAnyH_take (i := 10) (v := ?_) rfl (by kernel_rfl) (by decide +kernel) (by decide +kernel) (fun _ _ _ h => h) (Or.inl ⟨by rfl, ?_⟩) (by assumption) ?_
                    rotate_left
                    focus (intro w hSw; (try dsimp only at hSw); go_simp; try (first | (with_reducible rfl) | (with_reducible exact rfl)))
                    (try simp only [Act.put, List.getElem_toArray, List.getElem_cons_succ, List.getElem_cons_zero, List.setIfInBounds_toArray, List.set_cons_zero, List.set_cons_succ])
                    repeat' (first
                      | (refine wpAnyH_ready (rs := [1, 11]) (by decide +kernel) (by simp) ?_
                         refine AllReadyH.cons rfl (fun K hK => ?_) ?_
                         focus
                           (go_simp; (first | refine alloc_empty (W := wq) (k := 3) (F := K _) (by (repeat (first | exact Ext.refl _ | (with_reducible assumption) | (with_reducible refine Ext.drew ?_) | (with_reducible refine Ext.alloc ?_ _) | (with_reducible refine Ext.drewN ?_ _) | (with_reducible refine Ext.setCell ?_ (by omega) _) | (with_reducible refine Ext.trans ?_ (by with_reducible assumption))))) ?_ | refine alloc_emptyd (W := wq) (k := 3) (F := K _) (by (repeat (first | exact Ext.refl _ | (with_reducible assumption) | (with_reducible refine Ext.drew ?_) | (with_reducible refine Ext.alloc ?_ _) | (with_reducible refine Ext.drewN ?_ _) | (with_reducible refine Ext.setCell ?_ (by omega) _) | (with_reducible refine Ext.trans ?_ (by with_reducible assumption))))) ?_); intro wZ hxZ hsZ' hoZ; have hsZ := Lib.hid hsZ'; clear hsZ')
                           refine hK.out _ _ ?_ (fun hNew => ?_)
                           focus ((try dsimp only); (refine HSX.out _ ?_; (repeat (first | exact Ext.refl _ | (with_reducible assumption) | (with_reducible refine Ext.drew ?_) | (with_reducible refine Ext.alloc ?_ _) | (with_reducible refine Ext.drewN ?_ _) | (with_reducible refine Ext.setCell ?_ (by omega) _) | (with_reducible refine Ext.trans ?_ (by with_reducible assumption))))))
                           clear hK K hHeld
                           have hHeld := hNew
                           clear hNew
                           (try simp only [Act.put, List.getElem_toArray, List.getElem_cons_succ, List.getElem_cons_zero, List.setIfInBounds_toArray, List.set_cons_zero, List.set_cons_succ])
                         rotate_left
                         refine AllReadyH.cons rfl (fun K hK => ?_) ?_
                         focus
                           (go_simp; (first | refine alloc_gen (F := K _) ?_ | refine alloc_gend (F := K _) ?_); intro wA hxA hbA; have hlA := hbA.lt; have y0 := hbA.cells 0 _ rfl; have y1 := hbA.cells 1 _ rfl; have y2 := hbA.cells 2 _ rfl; clear hbA)
                           refine hK.out _ _ ?_ (fun hNew => ?_)
                           focus ((try dsimp only); (refine HSX.out _ ?_; (repeat (first | exact Ext.refl _ | (with_reducible assumption) | (with_reducible refine Ext.drew ?_) | (with_reducible refine Ext.alloc ?_ _) | (with_reducible refine Ext.drewN ?_ _) | (with_reducible refine Ext.setCell ?_ (by omega) _) | (with_reducible refine Ext.trans ?_ (by with_reducible assumption))))))
                           clear hK K hHeld
                           have hHeld := hNew
                           clear hNew
                           (try simp only [Act.put, List.getElem_toArray, List.getElem_cons_succ, List.getElem_cons_zero, List.setIfInBounds_toArray, List.set_cons_zero, List.set_cons_succ])
                         rotate_left
                         exact AllReadyH.nil)
                      | (refine wpAnyH_ready (rs := [6, 11]) (by decide +kernel) (by simp) ?_
                         refine AllReadyH.cons rfl (fun K hK => ?_) ?_
                         focus
                           (refine step_append_none (by rfl) _ _ 124 (by rfl) 128 i3 Tryz.underlying124 hi3 _ _ _ _ _ (Nat.le_refl _) (by rfl) (by rfl) ?_; have hown45 := hoZ)
                           refine hK.out _ _ ?_ (fun hNew => ?_)
                           focus ((try dsimp only); (refine HSX.out _ ?_; (repeat (first | exact Ext.refl _ | (with_reducible assumption) | (with_reducible refine Ext.drew ?_) | (with_reducible refine Ext.alloc ?_ _) | (with_reducible refine Ext.drewN ?_ _) | (with_reducible refine Ext.setCell ?_ (by omega) _) | (with_reducible refine Ext.trans ?_ (by with_reducible assumption))))))
                           clear hK K hHeld
                           have hHeld := hNew
                           clear hNew
                           (try simp only [Act.put, List.getElem_toArray, List.getElem_cons_succ, List.getElem_cons_zero, List.setIfInBounds_toArray, List.set_cons_zero, List.set_cons_succ])
                         rotate_left
                         refine AllReadyH.cons rfl (fun K hK => ?_) ?_
                         focus
                           (go_simp; (first | refine alloc_gen (F := K _) ?_ | refine alloc_gend (F := K _) ?_); intro wA hxA hbA; have hlA := hbA.lt; have y0 := hbA.cells 0 _ rfl; have y1 := hbA.cells 1 _ rfl; have y2 := hbA.cells 2 _ rfl; clear hbA)
                           refine hK.out _ _ ?_ (fun hNew => ?_)
                           focus ((try dsimp only); (refine HSX.out _ ?_; (repeat (first | exact Ext.refl _ | (with_reducible assumption) | (with_reducible refine Ext.drew ?_) | (with_reducible refine Ext.alloc ?_ _) | (with_reducible refine Ext.drewN ?_ _) | (with_reducible refine Ext.setCell ?_ (by omega) _) | (with_reducible refine Ext.trans ?_ (by with_reducible assumption))))))
                           clear hK K hHeld
                           have hHeld := hNew
                           clear hNew
                           (try simp only [Act.put, List.getElem_toArray, List.getElem_cons_succ, List.getElem_cons_zero, List.setIfInBounds_toArray, List.set_cons_zero, List.set_cons_succ])
                         rotate_left
                         exact AllReadyH.nil)
                      | (refine wpAnyH_ready (rs := [1]) (by decide +kernel) (by simp) ?_
                         refine AllReadyH.cons rfl (fun K hK => ?_) ?_
                         focus
                           (go_simp; (first | refine alloc_empty (W := wq) (k := 3) (F := K _) (by (repeat (first | exact Ext.refl _ | (with_reducible assumption) | (with_reducible refine Ext.drew ?_) | (with_reducible refine Ext.alloc ?_ _) | (with_reducible refine Ext.drewN ?_ _) | (with_reducible refine Ext.setCell ?_ (by omega) _) | (with_reducible refine Ext.trans ?_ (by with_reducible assumption))))) ?_ | refine alloc_emptyd (W := wq) (k := 3) (F := K _) (by (repeat (first | exact Ext.refl _ | (with_reducible assumption) | (with_reducible refine Ext.drew ?_) | (with_reducible refine Ext.alloc ?_ _) | (with_reducible refine Ext.drewN ?_ _) | (with_reducible refine Ext.setCell ?_ (by omega) _) | (with_reducible refine Ext.trans ?_ (by with_reducible assumption))))) ?_); intro wZ hxZ hsZ' hoZ; have hsZ := Lib.hid hsZ'; clear hsZ')
                           refine hK.out _ _ ?_ (fun hNew => ?_)
                           focus ((try dsimp only); (refine HSX.out _ ?_; (repeat (first | exact Ext.refl _ | (with_reducible assumption) | (with_reducible refine Ext.drew ?_) | (with_reducible refine Ext.alloc ?_ _) | (with_reducible refine Ext.drewN ?_ _) | (with_reducible refine Ext.setCell ?_ (by omega) _) | (with_reducible refine Ext.trans ?_ (by with_reducible assumption))))))
                           clear hK K hHeld
                           have hHeld := hNew
                           clear hNew
                           (try simp only [Act.put, List.getElem_toArray, List.getElem_cons_succ, List.getElem_cons_zero, List.setIfInBounds_toArray, List.set_cons_zero, List.set_cons_succ])
                         rotate_left
                         exact AllReadyH.nil)
                      | (refine wpAnyH_ready (rs := [6]) (by decide +kernel) (by simp) ?_
                         refine AllReadyH.cons rfl (fun K hK => ?_) ?_
                         focus
                           (refine step_append_none (by rfl) _ _ 124 (by rfl) 128 i3 Tryz.underlying124 hi3 _ _ _ _ _ (Nat.le_refl _) (by rfl) (by rfl) ?_; have hown45 := hoZ)
                           refine hK.out _ _ ?_ (fun hNew => ?_)
                           focus ((try dsimp only); (refine HSX.out _ ?_; (repeat (first | exact Ext.refl _ | (with_reducible assumption) | (with_reducible refine Ext.drew ?_) | (with_reducible refine Ext.alloc ?_ _) | (with_reducible refine Ext.drewN ?_ _) | (with_reducible refine Ext.setCell ?_ (by omega) _) | (with_reducible refine Ext.trans ?_ (by with_reducible assumption))))))
                           clear hK K hHeld
                           have hHeld := hNew
                           clear hNew
                           (try simp only [Act.put, List.getElem_toArray, List.getElem_cons_succ, List.getElem_cons_zero, List.setIfInBounds_toArray, List.set_cons_zero, List.set_cons_succ])
                         rotate_left
                         exact AllReadyH.nil)
                      | (refine wpAnyH_ready (rs := [11]) (by decide +kernel) (by simp) ?_
                         refine AllReadyH.cons rfl (fun K hK => ?_) ?_
                         focus
                           (go_simp; (first | refine alloc_gen (F := K _) ?_ | refine alloc_gend (F := K _) ?_); intro wA hxA hbA; have hlA := hbA.lt; have y0 := hbA.cells 0 _ rfl; have y1 := hbA.cells 1 _ rfl; have y2 := hbA.cells 2 _ rfl; clear hbA)
                           refine hK.out _ _ ?_ (fun hNew => ?_)
                           focus ((try dsimp only); (refine HSX.out _ ?_; (repeat (first | exact Ext.refl _ | (with_reducible assumption) | (with_reducible refine Ext.drew ?_) | (with_reducible refine Ext.alloc ?_ _) | (with_reducible refine Ext.drewN ?_ _) | (with_reducible refine Ext.setCell ?_ (by omega) _) | (with_reducible refine Ext.trans ?_ (by with_reducible assumption))))))
                           clear hK K hHeld
                           have hHeld := hNew
                           clear hNew
                           (try simp only [Act.put, List.getElem_toArray, List.getElem_cons_succ, List.getElem_cons_zero, List.setIfInBounds_toArray, List.set_cons_zero, List.set_cons_succ])
                         rotate_left
                         exact AllReadyH.nil)
                      | (refine wpAnyH_ready (rs := [12]) (by decide +kernel) (by simp) ?_
                         refine AllReadyH.cons rfl (fun K hK => ?_) ?_
                         focus
                           (refine step_append_lies _ (by rfl) _ _ 124 (by rfl) wq.heap.size 128 i3 (.agg #[.int .i64 0, .bool false, .int .i64 0]) 3 24 Tryz.underlying124 hi3 hz30 hz31 hz32 rfl (by decide) _ 0 [] (by rfl) (own_ext hown45 (by (repeat (first | exact Ext.refl _ | (with_reducible assumption) | (with_reducible refine Ext.drew ?_) | (with_reducible refine Ext.alloc ?_ _) | (with_reducible refine Ext.drewN ?_ _) | (with_reducible refine Ext.setCell ?_ (by omega) _) | (with_reducible refine Ext.trans ?_ (by with_reducible assumption)))))) ⟨_, 0, none⟩ 1 1 [.int .i64 op, .bool ob, .int .i64 ol] (by rfl) rfl (news_three (by (repeat (first | exact Ext.refl _ | (with_reducible assumption) | (with_reducible refine Ext.drew ?_) | (with_reducible refine Ext.alloc ?_ _) | (with_reducible refine Ext.drewN ?_ _) | (with_reducible refine Ext.setCell ?_ (by omega) _) | (with_reducible refine Ext.trans ?_ (by with_reducible assumption))))) y0 y1 y2) HONE.out (by decide) HQF1.out HQF2.out (le_ext (Nat.le_refl _) (by (repeat (first | exact Ext.refl _ | (with_reducible assumption) | (with_reducible refine Ext.drew ?_) | (with_reducible refine Ext.alloc ?_ _) | (with_reducible refine Ext.drewN ?_ _) | (with_reducible refine Ext.setCell ?_ (by omega) _) | (with_reducible refine Ext.trans ?_ (by with_reducible assumption)))))) _ rfl ?_; intro g51 cap51 w51 hown51 hgr51 hat51 hlt51; have hx51 : Ext wq w51 := grown_ext (by (repeat (first | exact Ext.refl _ | (with_reducible assumption) | (with_reducible refine Ext.drew ?_) | (with_reducible refine Ext.alloc ?_ _) | (with_reducible refine Ext.drewN ?_ _) | (with_reducible refine Ext.setCell ?_ (by omega) _) | (with_reducible refine Ext.trans ?_ (by with_reducible assumption))))) hgr51 (fun _ hg => (own_lt hown45 hg).1); have hR51 := HNXR.out w51 g51 cap51 hown51; clear hown51 hgr51 hat51)
                           refine hK.out _ _ ?_ (fun hNew => ?_)
                           focus ((try dsimp only); (refine HSX.out _ ?_; (repeat (first | exact Ext.refl _ | (with_reducible assumption) | (with_reducible refine Ext.drew ?_) | (with_reducible refine Ext.alloc ?_ _) | (with_reducible refine Ext.drewN ?_ _) | (with_reducible refine Ext.setCell ?_ (by omega) _) | (with_reducible refine Ext.trans ?_ (by with_reducible assumption))))))
                           clear hK K hHeld
                           have hHeld := hNew
                           clear hNew
                           (try simp only [Act.put, List.getElem_toArray, List.getElem_cons_succ, List.getElem_cons_zero, List.setIfInBounds_toArray, List.set_cons_zero, List.set_cons_succ])
                         rotate_left
                         exact AllReadyH.nil)
                      | (refine wpAnyH_ready (rs := [13]) (by decide +kernel) (by simp) ?_
                         refine AllReadyH.cons rfl (fun K hK => ?_) ?_
                         focus
                           (go_simp; (first | refine alloc_gen (F := K _) ?_ | refine alloc_gend (F := K _) ?_); intro wX hxX hbX; have x0 := hbX.cells 0 _ rfl; clear hbX)
                           refine hK.out _ _ ?_ (fun hNew => ?_)
                           focus ((try dsimp only); (refine HSX.out _ ?_; (repeat (first | exact Ext.refl _ | (with_reducible assumption) | (with_reducible refine Ext.drew ?_) | (with_reducible refine Ext.alloc ?_ _) | (with_reducible refine Ext.drewN ?_ _) | (with_reducible refine Ext.setCell ?_ (by omega) _) | (with_reducible refine Ext.trans ?_ (by with_reducible assumption))))))
                           clear hK K hHeld
                           have hHeld := hNew
                           clear hNew
                           (try simp only [Act.put, List.getElem_toArray, List.getElem_cons_succ, List.getElem_cons_zero, List.setIfInBounds_toArray, List.set_cons_zero, List.set_cons_succ])
                         rotate_left
                         exact AllReadyH.nil)
                      | (refine wpAnyH_ready (rs := [14]) (by decide +kernel) (by simp) ?_
                         refine AllReadyH.cons rfl (fun K hK => ?_) ?_
                         focus
                           (refine step_append_lies _ (by rfl) _ _ 125 (by rfl) w6.heap.size 124 i1 (.slice none 0 0) 1 24 Tryz.underlying125 hi1 hz10 hz11 hz12 rfl (by decide) (.slice a8 n8 q8) n8 us (by rfl) (HOWN8.out _ (by (repeat (first | exact Ext.refl _ | (with_reducible assumption) | (with_reducible refine Ext.drew ?_) | (with_reducible refine Ext.alloc ?_ _) | (with_reducible refine Ext.drewN ?_ _) | (with_reducible refine Ext.setCell ?_ (by omega) _) | (with_reducible refine Ext.trans ?_ (by with_reducible assumption)))))) ⟨_, 0, none⟩ 1 1 [.slice (some ⟨g51, 0, none⟩) (0 + 1) cap51] (by rfl) rfl (news_one (by (repeat (first | exact Ext.refl _ | (with_reducible assumption) | (with_reducible refine Ext.drew ?_) | (with_reducible refine Ext.alloc ?_ _) | (with_reducible refine Ext.drewN ?_ _) | (with_reducible refine Ext.setCell ?_ (by omega) _) | (with_reducible refine Ext.trans ?_ (by with_reducible assumption))))) x0) (by simp [Value.oneCell']) (by decide) HTF1.out HTF2.out (le_ext (Nat.le_refl _) (by (repeat (first | exact Ext.refl _ | (with_reducible assumption) | (with_reducible refine Ext.drew ?_) | (with_reducible refine Ext.alloc ?_ _) | (with_reducible refine Ext.drewN ?_ _) | (with_reducible refine Ext.setCell ?_ (by omega) _) | (with_reducible refine Ext.trans ?_ (by with_reducible assumption)))))) _ rfl ?_; intro g14 cap14 w14 hown14 hgr14 hat14 hlt14; have hx14 : Ext w6 w14 := grown_ext (by (repeat (first | exact Ext.refl _ | (with_reducible assumption) | (with_reducible refine Ext.drew ?_) | (with_reducible refine Ext.alloc ?_ _) | (with_reducible refine Ext.drewN ?_ _) | (with_reducible refine Ext.setCell ?_ (by omega) _) | (with_reducible refine Ext.trans ?_ (by with_reducible assumption))))) hgr14 (fun _ hg => HB8.out _ hg); have hAB := AllB.close HN8.out HUL.out (HS8.out _ (by (repeat (first | exact Ext.refl _ | (with_reducible assumption) | (with_reducible refine Ext.drew ?_) | (with_reducible refine Ext.alloc ?_ _) | (with_reducible refine Ext.drewN ?_ _) | (with_reducible refine Ext.setCell ?_ (by omega) _) | (with_reducible refine Ext.trans ?_ (by with_reducible assumption)))))) (OcRow.ext hR51 (by (repeat (first | exact Ext.refl _ | (with_reducible assumption) | (with_reducible refine Ext.drew ?_) | (with_reducible refine Ext.alloc ?_ _) | (with_reducible refine Ext.drewN ?_ _) | (with_reducible refine Ext.setCell ?_ (by omega) _) | (with_reducible refine Ext.trans ?_ (by with_reducible assumption)))))) ⟨_, _, _, rfl⟩ HLN.out HD8.out hown14 hgr14 (by rcases hat14 with h | h; exact .inl h.symm; exact .inr (by rw [h]; rfl)); clear hown14 hgr14 hat14)
                           refine hK.out _ _ ?_ (fun hNew => ?_)
                           focus ((try dsimp only); (refine HSX.out _ ?_; (repeat (first | exact Ext.refl _ | (with_reducible assumption) | (with_reducible refine Ext.drew ?_) | (with_reducible refine Ext.alloc ?_ _) | (with_reducible refine Ext.drewN ?_ _) | (with_reducible refine Ext.setCell ?_ (by omega) _) | (with_reducible refine Ext.trans ?_ (by with_reducible assumption))))))
                           clear hK K hHeld
                           have hHeld := hNew
                           clear hNew
                           (try simp only [Act.put, List.getElem_toArray, List.getElem_cons_succ, List.getElem_cons_zero, List.setIfInBounds_toArray, List.set_cons_zero, List.set_cons_succ])
                         rotate_left
                         exact AllReadyH.nil)
                      | (refine wpAnyH_ready (rs := [15]) (by decide +kernel) (by simp) ?_
                         refine AllReadyH.cons rfl (fun K hK => ?_) ?_
                         focus
                           go_simp
                           refine hK.out _ _ ?_ (fun hNew => ?_)
                           focus ((try dsimp only); (refine HSX.out _ ?_; (repeat (first | exact Ext.refl _ | (with_reducible assumption) | (with_reducible refine Ext.drew ?_) | (with_reducible refine Ext.alloc ?_ _) | (with_reducible refine Ext.drewN ?_ _) | (with_reducible refine Ext.setCell ?_ (by omega) _) | (with_reducible refine Ext.trans ?_ (by with_reducible assumption))))))
                           clear hK K hHeld
                           have hHeld := hNew
                           clear hNew
                           (try simp only [Act.put, List.getElem_toArray, List.getElem_cons_succ, List.getElem_cons_zero, List.setIfInBounds_toArray, List.set_cons_zero, List.set_cons_succ])
                         rotate_left
                         exact AllReadyH.nil)
                      | (refine wpAnyH_done (by decide +kernel) ?_ _)
                      | fail)
                    all_goals
                      go_wp2_with fail
                      go_meet
                      exact ⟨g14, cap14, rfl, hAB, hx14⟩
                  · have HPP : Hid (0 < p.length) := Lib.hid (by omega)
                    obtain ⟨b2, o2, rfl, HPC⟩ : ∃ b2 o2, a2' = some ⟨b2, o2, none⟩ ∧ Hid (∀ w', Ext w6 w' → ∀ j u, (p.flatMap (fun o => o.c.cs))[j]? = some u → w'.cell? ((⟨b2, o2, none⟩ : Addr).add j) = some u) := by
                      obtain ⟨a, q, e, -, -, hcl⟩ := HV3.out
                      simp only [Value.slice.injEq] at e
                      obtain ⟨rfl, -, rfl⟩ := e
                      obtain ⟨b2, o2, rfl, -⟩ := hcl 0 (by simpa using HPP.out)
                      exact ⟨b2, o2, rfl, Lib.hid (fun w' hx => by rw [oc_flat]; exact flat_cells (hcl.ext hx))⟩
                    generalize p.length = pl at *
                    refine wp_region_held_drew (S := (fun w' => (w'.cell? ⟨b3, off3 + m, none⟩ = some (.slice (some ⟨b2, o2, none⟩) pl q2') ∧ w'.cell? ⟨b6, k * 3, none⟩ = some (.int .i64 op) ∧ w'.cell? ⟨b6, k * 3 + 1, none⟩ = some (.bool ob) ∧ w'.cell? ⟨b6, k * 3 + 2, none⟩ = some (.int .i64 ol)) ∧ Ext w6 w')) (by kernel_rfl) ?_ (fun hHeld => ?_)
                    focus ((try dsimp only); (refine HSX.out _ ?_; (repeat (first | exact Ext.refl _ | (with_reducible assumption) | (with_reducible refine Ext.drew ?_) | (with_reducible refine Ext.alloc ?_ _) | (with_reducible refine Ext.drewN ?_ _) | (with_reducible refine Ext.setCell ?_ (by omega) _) | (with_reducible refine Ext.trans ?_ (by with_reducible assumption))))))
                    refine wpAnyH_take (i := 0) (v := ?_) rfl (by kernel_rfl) (by decide +kernel) (by decide +kernel) (fun _ _ _ h => h) (Or.inl ⟨by rfl, ?_⟩) (by assumption) ?_
                    rotate_left
                    focus (intro w hSw; (try dsimp only at hSw); go_simp; try (first | (with_reducible rfl) | (with_reducible exact rfl)))
                    (try simp only [Act.put, List.getElem_toArray, List.getElem_cons_succ, List.getElem_cons_zero, List.setIfInBounds_toArray, List.set_cons_zero, List.set_cons_succ])
                    refine wpAnyH_take (i := 2) (v := ?_) rfl (by kernel_rfl) (by decide +kernel) (by decide +kernel) (fun _ _ _ h => h) (Or.inl ⟨by rfl, ?_⟩) (by assumption) ?_
                    rotate_left
                    focus (intro w hSw; (try dsimp only at hSw); go_simp; try (first | (with_reducible rfl) | (with_reducible exact rfl)))
                    (try simp only [Act.put, List.getElem_toArray, List.getElem_cons_succ, List.getElem_cons_zero, List.setIfInBounds_toArray, List.set_cons_zero, List.set_cons_succ])
                    refine wpAnyH_take (i := 3) (v := ?_) rfl (by kernel_rfl) (by decide +kernel) (by decide +kernel) (fun _ _ _ h => h) (Or.inl ⟨by rfl, ?_⟩) (by assumption) ?_
                    rotate_left
                    focus (intro w hSw; (try dsimp only at hSw); go_simp; try (first | (with_reducible rfl) | (with_reducible exact rfl)))
                    (try simp only [Act.put, List.getElem_toArray, List.getElem_cons_succ, List.getElem_cons_zero, List.setIfInBounds_toArray, List.set_cons_zero, List.set_cons_succ])
                    refine wpAnyH_take (i := 4) (v := ?_) rfl (by kernel_rfl) (by decide +kernel) (by decide +kernel) (fun _ _ _ h => h) (Or.inl ⟨by rfl, ?_⟩) (by assumption) ?_
                    rotate_left
                    focus (intro w hSw; (try dsimp only at hSw); go_simp; try (first | (with_reducible rfl) | (with_reducible exact rfl)))
                    (try simp only [Act.put, List.getElem_toArray, List.getElem_cons_succ, List.getElem_cons_zero, List.setIfInBounds_toArray, List.set_cons_zero, List.set_cons_succ])
                    refine wpAnyH_take (i := 5) (v := ?_) rfl (by kernel_rfl) (by decide +kernel) (by decide +kernel) (fun _ _ _ h => h) (Or.inl ⟨by rfl, ?_⟩) (by assumption) ?_
                    rotate_left
                    focus (intro w hSw; (try dsimp only at hSw); go_simp; try (first | (with_reducible rfl) | (with_reducible exact rfl)))
                    (try simp only [Act.put, List.getElem_toArray, List.getElem_cons_succ, List.getElem_cons_zero, List.setIfInBounds_toArray, List.set_cons_zero, List.set_cons_succ])
                    refine wpAnyH_take (i := 7) (v := ?_) rfl (by kernel_rfl) (by decide +kernel) (by decide +kernel) (fun _ _ _ h => h) (Or.inl ⟨by rfl, ?_⟩) (by assumption) ?_
                    rotate_left
                    focus (intro w hSw; (try dsimp only at hSw); go_simp; try (first | (with_reducible rfl) | (with_reducible exact rfl)))
                    (try simp only [Act.put, List.getElem_toArray, List.getElem_cons_succ, List.getElem_cons_zero, List.setIfInBounds_toArray, List.set_cons_zero, List.set_cons_succ])
                    refine wpAnyH_take (i := 8) (v := ?_) rfl (by kernel_rfl) (by decide +kernel) (by decide +kernel) (fun _ _ _ h => h) (Or.inl ⟨by rfl, ?_⟩) (by assumption) ?_
                    rotate_left
                    focus (intro w hSw; (try dsimp only at hSw); go_simp; try (first | (with_reducible rfl) | (with_reducible exact rfl)))
                    (try simp only [Act.put, List.getElem_toArray, List.getElem_cons_succ, List.getElem_cons_zero, List.setIfInBounds_toArray, List.set_cons_zero, List.set_cons_succ])
                    refine wpAnyH_take (i := 9) (v := ?_) rfl (by kernel_rfl) (by decide +kernel) (by decide +kernel) (fun _ _ _ h => h) (Or.inl ⟨by rfl, ?_⟩) (by assumption) ?_
                    rotate_left
                    focus (intro w hSw; (try dsimp only at hSw); go_simp; try (first | (with_reducible rfl) | (with_reducible exact rfl)))
                    (try simp only [Act.put, List.getElem_toArray, List.getElem_cons_succ, List.getElem_cons_zero, List.setIfInBounds_toArray, List.set_cons_zero, List.set_cons_succ])
                    refine wpAnyH_take (i := 10) (v := ?_) rfl (by kernel_rfl) (by decide +kernel) (by decide +kernel) (fun _ _ _ h => h) (Or.inl ⟨by rfl, ?_⟩) (by assumption) ?_
                    rotate_left
                    focus (intro w hSw; (try dsimp only at hSw); go_simp; try (first | (with_reducible rfl) | (with_reducible exact rfl)))
                    (try simp only [Act.put, List.getElem_toArray, List.getElem_cons_succ, List.getElem_cons_zero, List.setIfInBounds_toArray, List.set_cons_zero, List.set_cons_succ])
                    repeat' (first
                      | (refine wpAnyH_ready (rs := [1, 11]) (by decide +kernel) (by simp) ?_
                         refine AllReadyH.cons rfl (fun K hK => ?_) ?_
                         focus
                           (go_simp; (first | refine alloc_empty (W := wq) (k := 3) (F := K _) (by (repeat (first | exact Ext.refl _ | (with_reducible assumption) | (with_reducible refine Ext.drew ?_) | (with_reducible refine Ext.alloc ?_ _) | (with_reducible refine Ext.drewN ?_ _) | (with_reducible refine Ext.setCell ?_ (by omega) _) | (with_reducible refine Ext.trans ?_ (by with_reducible assumption))))) ?_ | refine alloc_emptyd (W := wq) (k := 3) (F := K _) (by (repeat (first | exact Ext.refl _ | (with_reducible assumption) | (with_reducible refine Ext.drew ?_) | (with_reducible refine Ext.alloc ?_ _) | (with_reducible refine Ext.drewN ?_ _) | (with_reducible refine Ext.setCell ?_ (by omega) _) | (with_reducible refine Ext.trans ?_ (by with_reducible assumption))))) ?_); intro wZ hxZ hsZ' hoZ; have hsZ := Lib.hid hsZ'; clear hsZ')
                           refine hK.out _ _ ?_ (fun hNew => ?_)
                           focus ((try dsimp only); (refine HSX.out _ ?_; (repeat (first | exact Ext.refl _ | (with_reducible assumption) | (with_reducible refine Ext.drew ?_) | (with_reducible refine Ext.alloc ?_ _) | (with_reducible refine Ext.drewN ?_ _) | (with_reducible refine Ext.setCell ?_ (by omega) _) | (with_reducible refine Ext.trans ?_ (by with_reducible assumption))))))
                           clear hK K hHeld
                           have hHeld := hNew
                           clear hNew
                           (try simp only [Act.put, List.getElem_toArray, List.getElem_cons_succ, List.getElem_cons_zero, List.setIfInBounds_toArray, List.set_cons_zero, List.set_cons_succ])
                         rotate_left
                         refine AllReadyH.cons rfl (fun K hK => ?_) ?_
                         focus
                           (go_simp; (first | refine alloc_gen (F := K _) ?_ | refine alloc_gend (F := K _) ?_); intro wA hxA hbA; have hlA := hbA.lt; have y0 := hbA.cells 0 _ rfl; have y1 := hbA.cells 1 _ rfl; have y2 := hbA.cells 2 _ rfl; clear hbA)
                           refine hK.out _ _ ?_ (fun hNew => ?_)
                           focus ((try dsimp only); (refine HSX.out _ ?_; (repeat (first | exact Ext.refl _ | (with_reducible assumption) | (with_reducible refine Ext.drew ?_) | (with_reducible refine Ext.alloc ?_ _) | (with_reducible refine Ext.drewN ?_ _) | (with_reducible refine Ext.setCell ?_ (by omega) _) | (with_reducible refine Ext.trans ?_ (by with_reducible assumption))))))
                           clear hK K hHeld
                           have hHeld := hNew
                           clear hNew
                           (try simp only [Act.put, List.getElem_toArray, List.getElem_cons_succ, List.getElem_cons_zero, List.setIfInBounds_toArray, List.set_cons_zero, List.set_cons_succ])
                         rotate_left
                         exact AllReadyH.nil)
                      | (refine wpAnyH_ready (rs := [6, 11]) (by decide +kernel) (by simp) ?_
                         refine AllReadyH.cons rfl (fun K hK => ?_) ?_
                         focus
                           (refine step_append_lies _ (by rfl) _ _ 124 (by rfl) wq.heap.size 128 i3 (.agg #[.int .i64 0, .bool false, .int .i64 0]) 3 24 Tryz.underlying124 hi3 hz30 hz31 hz32 rfl (by decide) _ 0 [] (by rfl) (own_ext hoZ (by (repeat (first | exact Ext.refl _ | (with_reducible assumption) | (with_reducible refine Ext.drew ?_) | (with_reducible refine Ext.alloc ?_ _) | (with_reducible refine Ext.drewN ?_ _) | (with_reducible refine Ext.setCell ?_ (by omega) _) | (with_reducible refine Ext.trans ?_ (by with_reducible assumption)))))) ⟨b2, o2, none⟩ pl q2' (p.flatMap (fun o => o.c.cs)) (by rfl) HPL.out (HPC.out _ (by (repeat (first | exact Ext.refl _ | (with_reducible assumption) | (with_reducible refine Ext.drew ?_) | (with_reducible refine Ext.alloc ?_ _) | (with_reducible refine Ext.drewN ?_ _) | (with_reducible refine Ext.setCell ?_ (by omega) _) | (with_reducible refine Ext.trans ?_ (by with_reducible assumption)))))) HP1.out HPP.out HPF1.out HPF2.out (le_ext (Nat.le_refl _) (by (repeat (first | exact Ext.refl _ | (with_reducible assumption) | (with_reducible refine Ext.drew ?_) | (with_reducible refine Ext.alloc ?_ _) | (with_reducible refine Ext.drewN ?_ _) | (with_reducible refine Ext.setCell ?_ (by omega) _) | (with_reducible refine Ext.trans ?_ (by with_reducible assumption)))))) _ rfl ?_; intro g45 cap45 w45 hown45 hgr45 hat45 hlt45; have hx45 : Ext wq w45 := grown_ext (by (repeat (first | exact Ext.refl _ | (with_reducible assumption) | (with_reducible refine Ext.drew ?_) | (with_reducible refine Ext.alloc ?_ _) | (with_reducible refine Ext.drewN ?_ _) | (with_reducible refine Ext.setCell ?_ (by omega) _) | (with_reducible refine Ext.trans ?_ (by with_reducible assumption))))) hgr45 (fun _ hg => (own_lt hoZ hg).1); (try (have y0 := grown_cell hgr45 (by have := hsZ.out; omega) (Ext.keep (by (repeat (first | exact Ext.refl _ | (with_reducible assumption) | (with_reducible refine Ext.drew ?_) | (with_reducible refine Ext.alloc ?_ _) | (with_reducible refine Ext.drewN ?_ _) | (with_reducible refine Ext.setCell ?_ (by omega) _) | (with_reducible refine Ext.trans ?_ (by with_reducible assumption))))) y0); have y1 := grown_cell hgr45 (by have := hsZ.out; omega) (Ext.keep (by (repeat (first | exact Ext.refl _ | (with_reducible assumption) | (with_reducible refine Ext.drew ?_) | (with_reducible refine Ext.alloc ?_ _) | (with_reducible refine Ext.drewN ?_ _) | (with_reducible refine Ext.setCell ?_ (by omega) _) | (with_reducible refine Ext.trans ?_ (by with_reducible assumption))))) y1); have y2 := grown_cell hgr45 (by have := hsZ.out; omega) (Ext.keep (by (repeat (first | exact Ext.refl _ | (with_reducible assumption) | (with_reducible refine Ext.drew ?_) | (with_reducible refine Ext.alloc ?_ _) | (with_reducible refine Ext.drewN ?_ _) | (with_reducible refine Ext.setCell ?_ (by omega) _) | (with_reducible refine Ext.trans ?_ (by with_reducible assumption))))) y2))); simp only [Nat.zero_add, List.nil_append] at hown45 ⊢)
                           refine hK.out _ _ ?_ (fun hNew => ?_)
                           focus ((try dsimp only); (refine HSX.out _ ?_; (repeat (first | exact Ext.refl _ | (with_reducible assumption) | (with_reducible refine Ext.drew ?_) | (with_reducible refine Ext.alloc ?_ _) | (with_reducible refine Ext.drewN ?_ _) | (with_reducible refine Ext.setCell ?_ (by omega) _) | (with_reducible refine Ext.trans ?_ (by with_reducible assumption))))))
                           clear hK K hHeld
                           have hHeld := hNew
                           clear hNew
                           (try simp only [Act.put, List.getElem_toArray, List.getElem_cons_succ, List.getElem_cons_zero, List.setIfInBounds_toArray, List.set_cons_zero, List.set_cons_succ])
                         rotate_left
                         refine AllReadyH.cons rfl (fun K hK => ?_) ?_
                         focus
                           (go_simp; (first | refine alloc_gen (F := K _) ?_ | refine alloc_gend (F := K _) ?_); intro wA hxA hbA; have hlA := hbA.lt; have y0 := hbA.cells 0 _ rfl; have y1 := hbA.cells 1 _ rfl; have y2 := hbA.cells 2 _ rfl; clear hbA)
                           refine hK.out _ _ ?_ (fun hNew => ?_)
                           focus ((try dsimp only); (refine HSX.out _ ?_; (repeat (first | exact Ext.refl _ | (with_reducible assumption) | (with_reducible refine Ext.drew ?_) | (with_reducible refine Ext.alloc ?_ _) | (with_reducible refine Ext.drewN ?_ _) | (with_reducible refine Ext.setCell ?_ (by omega) _) | (with_reducible refine Ext.trans ?_ (by with_reducible assumption))))))
                           clear hK K hHeld
                           have hHeld := hNew
                           clear hNew
                           (try simp only [Act.put, List.getElem_toArray, List.getElem_cons_succ, List.getElem_cons_zero, List.setIfInBounds_toArray, List.set_cons_zero, List.set_cons_succ])
                         rotate_left
                         exact AllReadyH.nil)
                      | (refine wpAnyH_ready (rs := [1]) (by decide +kernel) (by simp) ?_
                         refine AllReadyH.cons rfl (fun K hK => ?_) ?_
                         focus
                           (go_simp; (first | refine alloc_empty (W := wq) (k := 3) (F := K _) (by (repeat (first | exact Ext.refl _ | (with_reducible assumption) | (with_reducible refine Ext.drew ?_) | (with_reducible refine Ext.alloc ?_ _) | (with_reducible refine Ext.drewN ?_ _) | (with_reducible refine Ext.setCell ?_ (by omega) _) | (with_reducible refine Ext.trans ?_ (by with_reducible assumption))))) ?_ | refine alloc_emptyd (W := wq) (k := 3) (F := K _) (by (repeat (first | exact Ext.refl _ | (with_reducible assumption) | (with_reducible refine Ext.drew ?_) | (with_reducible refine Ext.alloc ?_ _) | (with_reducible refine Ext.drewN ?_ _) | (with_reducible refine Ext.setCell ?_ (by omega) _) | (with_reducible refine Ext.trans ?_ (by with_reducible assumption))))) ?_); intro wZ hxZ hsZ' hoZ; have hsZ := Lib.hid hsZ'; clear hsZ')
                           refine hK.out _ _ ?_ (fun hNew => ?_)
                           focus ((try dsimp only); (refine HSX.out _ ?_; (repeat (first | exact Ext.refl _ | (with_reducible assumption) | (with_reducible refine Ext.drew ?_) | (with_reducible refine Ext.alloc ?_ _) | (with_reducible refine Ext.drewN ?_ _) | (with_reducible refine Ext.setCell ?_ (by omega) _) | (with_reducible refine Ext.trans ?_ (by with_reducible assumption))))))
                           clear hK K hHeld
                           have hHeld := hNew
                           clear hNew
                           (try simp only [Act.put, List.getElem_toArray, List.getElem_cons_succ, List.getElem_cons_zero, List.setIfInBounds_toArray, List.set_cons_zero, List.set_cons_succ])
                         rotate_left
                         exact AllReadyH.nil)
                      | (refine wpAnyH_ready (rs := [6]) (by decide +kernel) (by simp) ?_
                         refine AllReadyH.cons rfl (fun K hK => ?_) ?_
                         focus
                           (refine step_append_lies _ (by rfl) _ _ 124 (by rfl) wq.heap.size 128 i3 (.agg #[.int .i64 0, .bool false, .int .i64 0]) 3 24 Tryz.underlying124 hi3 hz30 hz31 hz32 rfl (by decide) _ 0 [] (by rfl) (own_ext hoZ (by (repeat (first | exact Ext.refl _ | (with_reducible assumption) | (with_reducible refine Ext.drew ?_) | (with_reducible refine Ext.alloc ?_ _) | (with_reducible refine Ext.drewN ?_ _) | (with_reducible refine Ext.setCell ?_ (by omega) _) | (with_reducible refine Ext.trans ?_ (by with_reducible assumption)))))) ⟨b2, o2, none⟩ pl q2' (p.flatMap (fun o => o.c.cs)) (by rfl) HPL.out (HPC.out _ (by (repeat (first | exact Ext.refl _ | (with_reducible assumption) | (with_reducible refine Ext.drew ?_) | (with_reducible refine Ext.alloc ?_ _) | (with_reducible refine Ext.drewN ?_ _) | (with_reducible refine Ext.setCell ?_ (by omega) _) | (with_reducible refine Ext.trans ?_ (by with_reducible assumption)))))) HP1.out HPP.out HPF1.out HPF2.out (le_ext (Nat.le_refl _) (by (repeat (first | exact Ext.refl _ | (with_reducible assumption) | (with_reducible refine Ext.drew ?_) | (with_reducible refine Ext.alloc ?_ _) | (with_reducible refine Ext.drewN ?_ _) | (with_reducible refine Ext.setCell ?_ (by omega) _) | (with_reducible refine Ext.trans ?_ (by with_reducible assumption)))))) _ rfl ?_; intro g45 cap45 w45 hown45 hgr45 hat45 hlt45; have hx45 : Ext wq w45 := grown_ext (by (repeat (first | exact Ext.refl _ | (with_reducible assumption) | (with_reducible refine Ext.drew ?_) | (with_reducible refine Ext.alloc ?_ _) | (with_reducible refine Ext.drewN ?_ _) | (with_reducible refine Ext.setCell ?_ (by omega) _) | (with_reducible refine Ext.trans ?_ (by with_reducible assumption))))) hgr45 (fun _ hg => (own_lt hoZ hg).1); (try (have y0 := grown_cell hgr45 (by have := hsZ.out; omega) (Ext.keep (by (repeat (first | exact Ext.refl _ | (with_reducible assumption) | (with_reducible refine Ext.drew ?_) | (with_reducible refine Ext.alloc ?_ _) | (with_reducible refine Ext.drewN ?_ _) | (with_reducible refine Ext.setCell ?_ (by omega) _) | (with_reducible refine Ext.trans ?_ (by with_reducible assumption))))) y0); have y1 := grown_cell hgr45 (by have := hsZ.out; omega) (Ext.keep (by (repeat (first | exact Ext.refl _ | (with_reducible assumption) | (with_reducible refine Ext.drew ?_) | (with_reducible refine Ext.alloc ?_ _) | (with_reducible refine Ext.drewN ?_ _) | (with_reducible refine Ext.setCell ?_ (by omega) _) | (with_reducible refine Ext.trans ?_ (by with_reducible assumption))))) y1); have y2 := grown_cell hgr45 (by have := hsZ.out; omega) (Ext.keep (by (repeat (first | exact Ext.refl _ | (with_reducible assumption) | (with_reducible refine Ext.drew ?_) | (with_reducible refine Ext.alloc ?_ _) | (with_reducible refine Ext.drewN ?_ _) | (with_reducible refine Ext.setCell ?_ (by omega) _) | (with_reducible refine Ext.trans ?_ (by with_reducible assumption))))) y2))); simp only [Nat.zero_add, List.nil_append] at hown45 ⊢)
                           refine hK.out _ _ ?_ (fun hNew => ?_)
                           focus ((try dsimp only); (refine HSX.out _ ?_; (repeat (first | exact Ext.refl _ | (with_reducible assumption) | (with_reducible refine Ext.drew ?_) | (with_reducible refine Ext.alloc ?_ _) | (with_reducible refine Ext.drewN ?_ _) | (with_reducible refine Ext.setCell ?_ (by omega) _) | (with_reducible refine Ext.trans ?_ (by with_reducible assumption))))))
                           clear hK K hHeld
                           have hHeld := hNew
                           clear hNew
                           (try simp only [Act.put, List.getElem_toArray, List.getElem_cons_succ, List.getElem_cons_zero, List.setIfInBounds_toArray, List.set_cons_zero, List.set_cons_succ])
                         rotate_left
                         exact AllReadyH.nil)
                      | (refine wpAnyH_ready (rs := [11]) (by decide +kernel) (by simp) ?_
                         refine AllReadyH.cons rfl (fun K hK => ?_) ?_
                         focus
                           (go_simp; (first | refine alloc_gen (F := K _) ?_ | refine alloc_gend (F := K _) ?_); intro wA hxA hbA; have hlA := hbA.lt; have y0 := hbA.cells 0 _ rfl; have y1 := hbA.cells 1 _ rfl; have y2 := hbA.cells 2 _ rfl; clear hbA)
                           refine hK.out _ _ ?_ (fun hNew => ?_)
                           focus ((try dsimp only); (refine HSX.out _ ?_; (repeat (first | exact Ext.refl _ | (with_reducible assumption) | (with_reducible refine Ext.drew ?_) | (with_reducible refine Ext.alloc ?_ _) | (with_reducible refine Ext.drewN ?_ _) | (with_reducible refine Ext.setCell ?_ (by omega) _) | (with_reducible refine Ext.trans ?_ (by with_reducible assumption))))))
                           clear hK K hHeld
                           have hHeld := hNew
                           clear hNew
                           (try simp only [Act.put, List.getElem_toArray, List.getElem_cons_succ, List.getElem_cons_zero, List.setIfInBounds_toArray, List.set_cons_zero, List.set_cons_succ])
                         rotate_left
                         exact AllReadyH.nil)
                      | (refine wpAnyH_ready (rs := [12]) (by decide +kernel) (by simp) ?_
                         refine AllReadyH.cons rfl (fun K hK => ?_) ?_
                         focus
                           (refine step_append_lies _ (by rfl) _ _ 124 (by rfl) wq.heap.size 128 i3 (.agg #[.int .i64 0, .bool false, .int .i64 0]) 3 24 Tryz.underlying124 hi3 hz30 hz31 hz32 rfl (by decide) _ pl (p.flatMap (fun o => o.c.cs)) (by rfl) (own_ext hown45 (by (repeat (first | exact Ext.refl _ | (with_reducible assumption) | (with_reducible refine Ext.drew ?_) | (with_reducible refine Ext.alloc ?_ _) | (with_reducible refine Ext.drewN ?_ _) | (with_reducible refine Ext.setCell ?_ (by omega) _) | (with_reducible refine Ext.trans ?_ (by with_reducible assumption)))))) ⟨_, 0, none⟩ 1 1 [.int .i64 op, .bool ob, .int .i64 ol] (by rfl) rfl (news_three (by (repeat (first | exact Ext.refl _ | (with_reducible assumption) | (with_reducible refine Ext.drew ?_) | (with_reducible refine Ext.alloc ?_ _) | (with_reducible refine Ext.drewN ?_ _) | (with_reducible refine Ext.setCell ?_ (by omega) _) | (with_reducible refine Ext.trans ?_ (by with_reducible assumption))))) y0 y1 y2) HONE.out (by decide) HQF1.out HQF2.out (le_ext (Nat.le_refl _) (by (repeat (first | exact Ext.refl _ | (with_reducible assumption) | (with_reducible refine Ext.drew ?_) | (with_reducible refine Ext.alloc ?_ _) | (with_reducible refine Ext.drewN ?_ _) | (with_reducible refine Ext.setCell ?_ (by omega) _) | (with_reducible refine Ext.trans ?_ (by with_reducible assumption)))))) _ rfl ?_; intro g51 cap51 w51 hown51 hgr51 hat51 hlt51; have hx51 : Ext wq w51 := grown_ext (by (repeat (first | exact Ext.refl _ | (with_reducible assumption) | (with_reducible refine Ext.drew ?_) | (with_reducible refine Ext.alloc ?_ _) | (with_reducible refine Ext.drewN ?_ _) | (with_reducible refine Ext.setCell ?_ (by omega) _) | (with_reducible refine Ext.trans ?_ (by with_reducible assumption))))) hgr51 (fun _ hg => (own_lt hown45 hg).1); have hR51 := HNXR.out w51 g51 cap51 hown51; clear hown51 hgr51 hat51)
                           refine hK.out _ _ ?_ (fun hNew => ?_)
                           focus ((try dsimp only); (refine HSX.out _ ?_; (repeat (first | exact Ext.refl _ | (with_reducible assumption) | (with_reducible refine Ext.drew ?_) | (with_reducible refine Ext.alloc ?_ _) | (with_reducible refine Ext.drewN ?_ _) | (with_reducible refine Ext.setCell ?_ (by omega) _) | (with_reducible refine Ext.trans ?_ (by with_reducible assumption))))))
                           clear hK K hHeld
                           have hHeld := hNew
                           clear hNew
                           (try simp only [Act.put, List.getElem_toArray, List.getElem_cons_succ, List.getElem_cons_zero, List.setIfInBounds_toArray, List.set_cons_zero, List.set_cons_succ])
                         rotate_left
                         exact AllReadyH.nil)
                      | (refine wpAnyH_ready (rs := [13]) (by decide +kernel) (by simp) ?_
                         refine AllReadyH.cons rfl (fun K hK => ?_) ?_
                         focus
                           (go_simp; (first | refine alloc_gen (F := K _) ?_ | refine alloc_gend (F := K _) ?_); intro wX hxX hbX; have x0 := hbX.cells 0 _ rfl; clear hbX)
                           refine hK.out _ _ ?_ (fun hNew => ?_)
                           focus ((try dsimp only); (refine HSX.out _ ?_; (repeat (first | exact Ext.refl _ | (with_reducible assumption) | (with_reducible refine Ext.drew ?_) | (with_reducible refine Ext.alloc ?_ _) | (with_reducible refine Ext.drewN ?_ _) | (with_reducible refine Ext.setCell ?_ (by omega) _) | (with_reducible refine Ext.trans ?_ (by with_reducible assumption))))))
                           clear hK K hHeld
                           have hHeld := hNew
                           clear hNew
                           (try simp only [Act.put, List.getElem_toArray, List.getElem_cons_succ, List.getElem_cons_zero, List.setIfInBounds_toArray, List.set_cons_zero, List.set_cons_succ])
                         rotate_left
                         exact AllReadyH.nil)
                      | (refine wpAnyH_ready (rs := [14]) (by decide +kernel) (by simp) ?_
                         refine AllReadyH.cons rfl (fun K hK => ?_) ?_
                         focus
                           (refine step_append_lies _ (by rfl) _ _ 125 (by rfl) w6.heap.size 124 i1 (.slice none 0 0) 1 24 Tryz.underlying125 hi1 hz10 hz11 hz12 rfl (by decide) (.slice a8 n8 q8) n8 us (by rfl) (HOWN8.out _ (by (repeat (first | exact Ext.refl _ | (with_reducible assumption) | (with_reducible refine Ext.drew ?_) | (with_reducible refine Ext.alloc ?_ _) | (with_reducible refine Ext.drewN ?_ _) | (with_reducible refine Ext.setCell ?_ (by omega) _) | (with_reducible refine Ext.trans ?_ (by with_reducible assumption)))))) ⟨_, 0, none⟩ 1 1 [.slice (some ⟨g51, 0, none⟩) (pl + 1) cap51] (by rfl) rfl (news_one (by (repeat (first | exact Ext.refl _ | (with_reducible assumption) | (with_reducible refine Ext.drew ?_) | (with_reducible refine Ext.alloc ?_ _) | (with_reducible refine Ext.drewN ?_ _) | (with_reducible refine Ext.setCell ?_ (by omega) _) | (with_reducible refine Ext.trans ?_ (by with_reducible assumption))))) x0) (by simp [Value.oneCell']) (by decide) HTF1.out HTF2.out (le_ext (Nat.le_refl _) (by (repeat (first | exact Ext.refl _ | (with_reducible assumption) | (with_reducible refine Ext.drew ?_) | (with_reducible refine Ext.alloc ?_ _) | (with_reducible refine Ext.drewN ?_ _) | (with_reducible refine Ext.setCell ?_ (by omega) _) | (with_reducible refine Ext.trans ?_ (by with_reducible assumption)))))) _ rfl ?_; intro g14 cap14 w14 hown14 hgr14 hat14 hlt14; have hx14 : Ext w6 w14 := grown_ext (by (repeat (first | exact Ext.refl _ | (with_reducible assumption) | (with_reducible refine Ext.drew ?_) | (with_reducible refine Ext.alloc ?_ _) | (with_reducible refine Ext.drewN ?_ _) | (with_reducible refine Ext.setCell ?_ (by omega) _) | (with_reducible refine Ext.trans ?_ (by with_reducible assumption))))) hgr14 (fun _ hg => HB8.out _ hg); have hAB := AllB.close HN8.out HUL.out (HS8.out _ (by (repeat (first | exact Ext.refl _ | (with_reducible assumption) | (with_reducible refine Ext.drew ?_) | (with_reducible refine Ext.alloc ?_ _) | (with_reducible refine Ext.drewN ?_ _) | (with_reducible refine Ext.setCell ?_ (by omega) _) | (with_reducible refine Ext.trans ?_ (by with_reducible assumption)))))) (OcRow.ext hR51 (by (repeat (first | exact Ext.refl _ | (with_reducible assumption) | (with_reducible refine Ext.drew ?_) | (with_reducible refine Ext.alloc ?_ _) | (with_reducible refine Ext.drewN ?_ _) | (with_reducible refine Ext.setCell ?_ (by omega) _) | (with_reducible refine Ext.trans ?_ (by with_reducible assumption)))))) ⟨_, _, _, rfl⟩ HLN.out HD8.out hown14 hgr14 (by rcases hat14 with h | h; exact .inl h.symm; exact .inr (by rw [h]; rfl)); clear hown14 hgr14 hat14)
                           refine hK.out _ _ ?_ (fun hNew => ?_)
                           focus ((try dsimp only); (refine HSX.out _ ?_; (repeat (first | exact Ext.refl _ | (with_reducible assumption) | (with_reducible refine Ext.drew ?_) | (with_reducible refine Ext.alloc ?_ _) | (with_reducible refine Ext.drewN ?_ _) | (with_reducible refine Ext.setCell ?_ (by omega) _) | (with_reducible refine Ext.trans ?_ (by with_reducible assumption))))))
                           clear hK K hHeld
                           have hHeld := hNew
                           clear hNew
                           (try simp only [Act.put, List.getElem_toArray, List.getElem_cons_succ, List.getElem_cons_zero, List.setIfInBounds_toArray, List.set_cons_zero, List.set_cons_succ])
                         rotate_left
                         exact AllReadyH.nil)
                      | (refine wpAnyH_ready (rs := [15]) (by decide +kernel) (by simp) ?_
                         refine AllReadyH.cons rfl (fun K hK => ?_) ?_
                         focus
                           go_simp
                           refine hK.out _ _ ?_ (fun hNew => ?_)
                           focus ((try dsimp only); (refine HSX.out _ ?_; (repeat (first | exact Ext.refl _ | (with_reducible assumption) | (with_reducible refine Ext.drew ?_) | (with_reducible refine Ext.alloc ?_ _) | (with_reducible refine Ext.drewN ?_ _) | (with_reducible refine Ext.setCell ?_ (by omega) _) | (with_reducible refine Ext.trans ?_ (by with_reducible assumption))))))
                           clear hK K hHeld
                           have hHeld := hNew
                           clear hNew
                           (try simp only [Act.put, List.getElem_toArray, List.getElem_cons_succ, List.getElem_cons_zero, List.setIfInBounds_toArray, List.set_cons_zero, List.set_cons_succ])
                         rotate_left
                         exact AllReadyH.nil)
                      | (refine wpAnyH_done (by decide +kernel) ?_ _)
                      | fail)
                    all_goals
                      go_wp2_with fail
                      go_meet
                      exact ⟨g14, cap14, rfl, hAB, hx14⟩
                case rest =>
                  obtain ⟨g, cap, rfl, hAB, hx13⟩ := hcut
                  have HRN : Hid (n8 + 1 = Pn.length ∧ AllB w6.heap.size 124 wc (.slice (some ⟨g, 0, none⟩) (n8 + 1) cap) Pn) := Lib.hid (by
                    rw [HPN.out]
                    exact ⟨by simp [HN8.out], hAB⟩)
                  go_wp2_with fail
                  go_roundw
                  case rel => exact ⟨k + 1, n8 + 1, _, _, by omega, by go_num, rfl, Lib.hid (by rw [HPn.out]; exact HRN.out), hx13⟩
                  case measure => simp [intOf]; omega
              · obtain rfl : k = l.length := by omega
                have HRQ : Hid (n8 = Q.length ∧ AllB w6.heap.size 124 wq (.slice a8 n8 q8) Q) := Lib.hid (by
                  have h := HR8.out
                  rw [List.take_length, ← HNT.out] at h
                  exact h)
                go_wp2_with fail
                go_roundw
                case rel => exact ⟨m + 1, n8, a8, q8, by omega, by go_num, rfl, Lib.hid (by rw [HQ.out]; exact HRQ.out), hz⟩
                case measure => simp [intOf]; omega
          · obtain rfl : m = n := by omega
            have HRQ : Hid (n5 = (endsF c (c.flds.take (i + 1))).length ∧ AllV w7 (.slice a5 n5 q5) (endsF c (c.flds.take (i + 1)))) := Lib.hid (by
              have h := HR5.out
              rw [List.take_of_length_le (by have := HNA.out; omega), HNX1.out] at h
              exact ⟨h.1, h.2.toV⟩)
            go_wp2_with fail
            go_roundw
            case rel => exact ⟨i + 1, n5, a5, q5, by omega, by go_num, rfl, HRQ, X6.trans hy⟩
            case measure => simp [intOf]; omega
    · obtain rfl : i = c.flds.length := by omega
      have hall := HR.out
      rw [List.take_length] at hall
      obtain ⟨hnA, hall⟩ := hall
      have hnb : n ≤ 1953125 := by
        have h1 := HLE.out c.flds.length
        rw [List.take_length] at h1; omega
      have HNA := Lib.hid hnA
      have HAL := Lib.hid hall
      have HSO : Hid (∀ w', Ext wo w' → (w'.cell? ⟨w.heap.size, 0, none⟩ = some (.slice a1 c.tars.length c1) ∧ w'.cell? ⟨w.heap.size, 1, none⟩ = some (.int .i64 c.day) ∧ w'.cell? ⟨w.heap.size, 2, none⟩ = some (.int .i64 c.fee) ∧ w'.cell? ⟨w.heap.size, 3, none⟩ = some (.slice a2 c.flds.length c2))) := Lib.hid (fun w' h => HS.out _ (hx.trans h))
      have HX := Lib.hid (X.trans hx)
      have hwo : w.heap.size ≤ wo.heap.size := (X.trans hx).size
      clear hall hnA HS HR HA0 HO HOL HLE X hx HCL
      go_wp2_with fail
      go_loopw [9, 10] (fun s9 s10 wr => ∃ (k : Nat) (a9 : Option Addr) (q9 : Nat), k ≤ n ∧ s10 = .int .i64 k ∧ s9 = .slice a9 k q9 ∧ Hid (ResRow c.fee wo.heap.size 62 ((endsF c c.flds).take k) (.slice a9 k q9) wr) ∧ Ext wo wr) (fun _ s _ => n - (intOf s).toNat)
      case atStart => exact ⟨0, none, 0, Nat.zero_le _, rfl, rfl, Lib.hid (ResRow.nil _ _ _ _), Ext.refl _⟩
      case round =>
        obtain ⟨k, a9, q9, hk, rfl, rfl, HR9, hy⟩ := hrel
        obtain ⟨wq, rfl⟩ : ∃ x, x = wr := ⟨_, rfl⟩
        by_cases hlk : k < n
        · have hkA : k < (endsF c c.flds).length := by have := HNA.out; omega
          obtain ⟨b3, off3, a2', q2', e3, hc3, hv3⟩ : ∃ b off a2 q2, a3 = some ⟨b, off, none⟩ ∧ wo.cell? ⟨b, off + k, none⟩ = some (.slice a2 ((endsF c c.flds)[k]).length q2) ∧ OcsV wo (.slice a2 ((endsF c c.flds)[k]).length q2) ((endsF c c.flds)[k]) := by
            obtain ⟨a, q, e, h⟩ := HAL.out
            simp only [Value.slice.injEq] at e
            obtain ⟨rfl, -, -⟩ := e
            exact h k hkA
          subst e3
          have HCE := Lib.hid (fun W (hx : Ext wo W) => HEND.out k hkA W _ (HX.out.trans hx) (OcsV.ext hx hv3))
          have HTN : Hid ((endsF c c.flds).take (k + 1) = (endsF c c.flds).take k ++ [(endsF c c.flds)[k]]) := Lib.hid (List.take_succ_eq_append_getElem hkA)
          have hkl : ((endsF c c.flds).take k).length = k := by rw [List.length_take]; omega
          have HKL := Lib.hid hkl
          have HOWN : Hid (∀ w', Ext wq w' → w'.ownsRow wo.heap.size 62 4 (.slice a9 k q9) k (((endsF c c.flds).take k).flatMap (resC c.fee))) := Lib.hid (fun w' hx => by
            have h := ResRow.ext HR9.out hx
            unfold ResRow at h
            rw [hkl] at h
            exact h)
          have HSX : Hid (∀ w', Ext wo w' → ((w'.cell? ⟨w.heap.size, 0, none⟩ = some (.slice a1 c.tars.length c1) ∧ w'.cell? ⟨w.heap.size, 1, none⟩ = some (.int .i64 c.day) ∧ w'.cell? ⟨w.heap.size, 2, none⟩ = some (.int .i64 c.fee) ∧ w'.cell? ⟨w.heap.size, 3, none⟩ = some (.slice a2 c.flds.length c2)) ∧ w'.cell? ⟨b3, off3 + k, none⟩ = some (.slice a2' ((endsF c c.flds)[k]).length q2')) ∧ Ext wo w') := Lib.hid (fun w' h => ⟨⟨HSO.out _ h, h.keep hc3⟩, h⟩)
          have HOW : Hid (∀ g, (Value.slice a9 k q9).ownBlock = some g → wo.heap.size ≤ g) := Lib.hid (fun g hg => (own_lt (HOWN.out wq (Ext.refl _)) hg).1)
          have HRN : Hid (∀ w' g cap, w'.ownsRow wo.heap.size 62 4 (.slice (some ⟨g, 0, none⟩) (k + 1) cap) (k + 1) (((endsF c c.flds).take k).flatMap (resC c.fee) ++ resC c.fee (endsF c c.flds)[k]) → ResRow c.fee wo.heap.size 62 ((endsF c c.flds).take (k + 1)) (.slice (some ⟨g, 0, none⟩) (k + 1) cap) w') := Lib.hid (fun w' g cap h => by
            rw [HTN.out]
            exact ResRow.next h hkl.symm)
          unfold resC at HRN
          clear hc3 hv3 hkl HTN HR9 HAL HEND
          generalize hml : ((endsF c c.flds)[k]).length = ml at *
          generalize hrs : sumR (endsF c c.flds)[k] = rs at *
          generalize rs.award = ra at *
          generalize rs.far c.fee = rf at *
          generalize rs.soc c.fee = rc at *
          clear hml hrs
          have hk0 : (0 : Int) ≤ (k : Int) := by omega
          have hkn : (k : Int) < (n : Int) := by omega
          have HONE : Hid (∀ u ∈ ([.slice none 0 0, .int .i64 ra, .int .i64 rf, .int .i64 rc] : List Value), u.oneCell' = true) := Lib.hid (by
            intro u hu
            simp only [List.mem_cons, List.not_mem_nil, or_false] at hu
            rcases hu with rfl | rfl | rfl | rfl <;> rfl)
          have HTF1 : Hid (k + 1 ≤ maxLen) := Lib.hid (by simp only [maxLen]; omega)
          have HTF2 : Hid ((k + 1) * 48 ≤ 140737488355328) := Lib.hid (by omega)
          go_upto_block 7 with fail
          go_cut [9] from 61 to 69 (fun s9 wx => ∃ g cap, s9 = .slice (some ⟨g, 0, none⟩) (k + 1) cap ∧ Hid (ResRow c.fee wo.heap.size 62 ((endsF c c.flds).take (k + 1)) (.slice (some ⟨g, 0, none⟩) (k + 1) cap) wx) ∧ Ext wo wx)
          case first =>
            have hwq : Ext wq wq := Ext.refl _
            go_upto_region 19 with fail
            refine wp_region_held_drew (S := (fun w' => ((w'.cell? ⟨w.heap.size, 0, none⟩ = some (.slice a1 c.tars.length c1) ∧ w'.cell? ⟨w.heap.size, 1, none⟩ = some (.int .i64 c.day) ∧ w'.cell? ⟨w.heap.size, 2, none⟩ = some (.int .i64 c.fee) ∧ w'.cell? ⟨w.heap.size, 3, none⟩ = some (.slice a2 c.flds.length c2)) ∧ w'.cell? ⟨b3, off3 + k, none⟩ = some (.slice a2' ml q2')) ∧ Ext wo w')) (by kernel_rfl) ?_ (fun hHeld => ?_)
            focus ((try dsimp only); (refine HSX.out _ ?_; (repeat (first | exact Ext.refl _ | (with_reducible assumption) | (with_reducible refine Ext.drew ?_) | (with_reducible refine Ext.alloc ?_ _) | (with_reducible refine Ext.drewN ?_ _) | (with_reducible refine Ext.setCell ?_ (by omega) _) | (with_reducible refine Ext.trans ?_ (by with_reducible assumption))))))
            refine wpAnyH_take (i := 0) (v := ?_) rfl (by kernel_rfl) (by decide +kernel) (by decide +kernel) (fun _ _ _ h => h) (Or.inl ⟨by rfl, ?_⟩) (by assumption) ?_
            rotate_left
            focus (intro w hSw; (try dsimp only at hSw); go_simp; try (first | (with_reducible rfl) | (with_reducible exact rfl)))
            (try simp only [Act.put, List.getElem_toArray, List.getElem_cons_succ, List.getElem_cons_zero, List.setIfInBounds_toArray, List.set_cons_zero, List.set_cons_succ])
            refine wpAnyH_take (i := 1) (v := ?_) rfl (by kernel_rfl) (by decide +kernel) (by decide +kernel) (fun _ _ _ h => h) (Or.inl ⟨by rfl, ?_⟩) (by assumption) ?_
            rotate_left
            focus (intro w hSw; (try dsimp only at hSw); go_simp; try (first | (with_reducible rfl) | (with_reducible exact rfl)))
            (try simp only [Act.put, List.getElem_toArray, List.getElem_cons_succ, List.getElem_cons_zero, List.setIfInBounds_toArray, List.set_cons_zero, List.set_cons_succ])
            refine wpAnyH_take (i := 2) (v := ?_) rfl (by kernel_rfl) (by decide +kernel) (by decide +kernel) (fun _ _ _ h => h) (Or.inl ⟨by rfl, ?_⟩) (by assumption) ?_
            rotate_left
            focus (intro w hSw; (try dsimp only at hSw); go_simp; try (first | (with_reducible rfl) | (with_reducible exact rfl)))
            (try simp only [Act.put, List.getElem_toArray, List.getElem_cons_succ, List.getElem_cons_zero, List.setIfInBounds_toArray, List.set_cons_zero, List.set_cons_succ])
            refine wpAnyH_take (i := 3) (v := ?_) rfl (by kernel_rfl) (by decide +kernel) (by decide +kernel) (fun _ _ _ h => h) (Or.inl ⟨by rfl, ?_⟩) (by assumption) ?_
            rotate_left
            focus (intro w hSw; (try dsimp only at hSw); go_simp; try (first | (with_reducible rfl) | (with_reducible exact rfl)))
            (try simp only [Act.put, List.getElem_toArray, List.getElem_cons_succ, List.getElem_cons_zero, List.setIfInBounds_toArray, List.set_cons_zero, List.set_cons_succ])
            refine wpAnyH_take (i := 4) (v := ?_) rfl (by kernel_rfl) (by decide +kernel) (by decide +kernel) (fun _ _ _ h => h) (Or.inl ⟨by rfl, ?_⟩) (by assumption) ?_
            rotate_left
            focus (intro w hSw; (try dsimp only at hSw); go_simp; try (first | (with_reducible rfl) | (with_reducible exact rfl)))
            (try simp only [Act.put, List.getElem_toArray, List.getElem_cons_succ, List.getElem_cons_zero, List.setIfInBounds_toArray, List.set_cons_zero, List.set_cons_succ])
            refine wpAnyH_take (i := 5) (v := ?_) rfl (by kernel_rfl) (by decide +kernel) (by decide +kernel) (fun _ _ _ h => h) (Or.inl ⟨by rfl, ?_⟩) (by assumption) ?_
            rotate_left
            focus (intro w hSw; (try dsimp only at hSw); go_simp; try (first | (with_reducible rfl) | (with_reducible exact rfl)))
            (try simp only [Act.put, List.getElem_toArray, List.getElem_cons_succ, List.getElem_cons_zero, List.setIfInBounds_toArray, List.set_cons_zero, List.set_cons_succ])
            repeat' (first
              | (refine wpAnyH_ready (rs := [6]) (by decide +kernel) (by simp) ?_
                 refine AllReadyH.cons rfl (fun K hK => ?_) ?_
                 focus
                   (go_simp; ((refine (HCE.out _ (by (repeat (first | exact Ext.refl _ | (with_reducible assumption) | (with_reducible refine Ext.drew ?_) | (with_reducible refine Ext.alloc ?_ _) | (with_reducible refine Ext.drewN ?_ _) | (with_reducible refine Ext.setCell ?_ (by omega) _) | (with_reducible refine Ext.trans ?_ (by with_reducible assumption)))))).mono ?_); rintro e w8 ⟨rfl, hx8⟩); go_wp2_with fail)
                   refine hK.out _ _ ?_ (fun hNew => ?_)
                   focus ((try dsimp only); (refine HSX.out _ ?_; (repeat (first | exact Ext.refl _ | (with_reducible assumption) | (with_reducible refine Ext.drew ?_) | (with_reducible refine Ext.alloc ?_ _) | (with_reducible refine Ext.drewN ?_ _) | (with_reducible refine Ext.setCell ?_ (by omega) _) | (with_reducible refine Ext.trans ?_ (by with_reducible assumption))))))
                   clear hK K hHeld
                   have hHeld := hNew
                   clear hNew
                   (try simp only [Act.put, List.getElem_toArray, List.getElem_cons_succ, List.getElem_cons_zero, List.setIfInBounds_toArray, List.set_cons_zero, List.set_cons_succ])
                 rotate_left
                 exact AllReadyH.nil)
              | (refine wpAnyH_ready (rs := [7]) (by decide +kernel) (by simp) ?_
                 refine AllReadyH.cons rfl (fun K hK => ?_) ?_
                 focus
                   (go_simp; (first | refine alloc_gen (F := K _) ?_ | refine alloc_gend (F := K _) ?_); intro wA hxA hbA; have y0 := hbA.cells 0 _ rfl; have y1 := hbA.cells 1 _ rfl; have y2 := hbA.cells 2 _ rfl; have y3 := hbA.cells 3 _ rfl; clear hbA)
                   refine hK.out _ _ ?_ (fun hNew => ?_)
                   focus ((try dsimp only); (refine HSX.out _ ?_; (repeat (first | exact Ext.refl _ | (with_reducible assumption) | (with_reducible refine Ext.drew ?_) | (with_reducible refine Ext.alloc ?_ _) | (with_reducible refine Ext.drewN ?_ _) | (with_reducible refine Ext.setCell ?_ (by omega) _) | (with_reducible refine Ext.trans ?_ (by with_reducible assumption))))))
                   clear hK K hHeld
                   have hHeld := hNew
                   clear hNew
                   (try simp only [Act.put, List.getElem_toArray, List.getElem_cons_succ, List.getElem_cons_zero, List.setIfInBounds_toArray, List.set_cons_zero, List.set_cons_succ])
                 rotate_left
                 exact AllReadyH.nil)
              | (refine wpAnyH_ready (rs := [8]) (by decide +kernel) (by simp) ?_
                 refine AllReadyH.cons rfl (fun K hK => ?_) ?_
                 focus
                   (refine step_append_lies _ (by rfl) _ _ 81 (by rfl) wo.heap.size 62 i4 (.agg #[.slice none 0 0, .int .i64 0, .int .i64 0, .int .i64 0]) 4 48 Tryz.underlying81 hi4 hz40 hz41 hz42 rfl (by decide) (.slice a9 k q9) k (((endsF c c.flds).take k).flatMap (resC c.fee)) (by rfl) (HOWN.out _ (by (repeat (first | exact Ext.refl _ | (with_reducible assumption) | (with_reducible refine Ext.drew ?_) | (with_reducible refine Ext.alloc ?_ _) | (with_reducible refine Ext.drewN ?_ _) | (with_reducible refine Ext.setCell ?_ (by omega) _) | (with_reducible refine Ext.trans ?_ (by with_reducible assumption)))))) ⟨_, 0, none⟩ 1 1 [.slice none 0 0, .int .i64 ra, .int .i64 rf, .int .i64 rc] (by rfl) rfl (news_four (by (repeat (first | exact Ext.refl _ | (with_reducible assumption) | (with_reducible refine Ext.drew ?_) | (with_reducible refine Ext.alloc ?_ _) | (with_reducible refine Ext.drewN ?_ _) | (with_reducible refine Ext.setCell ?_ (by omega) _) | (with_reducible refine Ext.trans ?_ (by with_reducible assumption))))) y0 y1 y2 y3) HONE.out (by decide) HTF1.out HTF2.out (le_ext (Nat.le_refl _) (by (repeat (first | exact Ext.refl _ | (with_reducible assumption) | (with_reducible refine Ext.drew ?_) | (with_reducible refine Ext.alloc ?_ _) | (with_reducible refine Ext.drewN ?_ _) | (with_reducible refine Ext.setCell ?_ (by omega) _) | (with_reducible refine Ext.trans ?_ (by with_reducible assumption)))))) _ rfl ?_; intro g14 cap14 w14 hown14 hgr14 hat14 hlt14; have hx14 : Ext wo w14 := grown_ext (by (repeat (first | exact Ext.refl _ | (with_reducible assumption) | (with_reducible refine Ext.drew ?_) | (with_reducible refine Ext.alloc ?_ _) | (with_reducible refine Ext.drewN ?_ _) | (with_reducible refine Ext.setCell ?_ (by omega) _) | (with_reducible refine Ext.trans ?_ (by with_reducible assumption))))) hgr14 (fun _ hg => HOW.out _ hg); have hAB := Lib.hid (HRN.out w14 g14 cap14 hown14); clear hown14 hgr14 hat14)
                   refine hK.out _ _ ?_ (fun hNew => ?_)
                   focus ((try dsimp only); (refine HSX.out _ ?_; (repeat (first | exact Ext.refl _ | (with_reducible assumption) | (with_reducible refine Ext.drew ?_) | (with_reducible refine Ext.alloc ?_ _) | (with_reducible refine Ext.drewN ?_ _) | (with_reducible refine Ext.setCell ?_ (by omega) _) | (with_reducible refine Ext.trans ?_ (by with_reducible assumption))))))
                   clear hK K hHeld
                   have hHeld := hNew
                   clear hNew
                   (try simp only [Act.put, List.getElem_toArray, List.getElem_cons_succ, List.getElem_cons_zero, List.setIfInBounds_toArray, List.set_cons_zero, List.set_cons_succ])
                 rotate_left
                 exact AllReadyH.nil)
              | (refine wpAnyH_ready (rs := [9]) (by decide +kernel) (by simp) ?_
                 refine AllReadyH.cons rfl (fun K hK => ?_) ?_
                 focus
                   go_simp
                   refine hK.out _ _ ?_ (fun hNew => ?_)
                   focus ((try dsimp only); (refine HSX.out _ ?_; (repeat (first | exact Ext.refl _ | (with_reducible assumption) | (with_reducible refine Ext.drew ?_) | (with_reducible refine Ext.alloc ?_ _) | (with_reducible refine Ext.drewN ?_ _) | (with_reducible refine Ext.setCell ?_ (by omega) _) | (with_reducible refine Ext.trans ?_ (by with_reducible assumption))))))
                   clear hK K hHeld
                   have hHeld := hNew
                   clear hNew
                   (try simp only [Act.put, List.getElem_toArray, List.getElem_cons_succ, List.getElem_cons_zero, List.setIfInBounds_toArray, List.set_cons_zero, List.set_cons_succ])
                 rotate_left
                 exact AllReadyH.nil)
              | (refine wpAnyH_done (by decide +kernel) ?_ _)
              | fail)
            all_goals
              go_wp2_with fail
              go_meet
              exact ⟨g14, cap14, rfl, hAB, hx14⟩
          case rest =>
            obtain ⟨g, cap, rfl, hAB, hx13⟩ := hcut
            go_wp2_with fail
            go_roundw
            case rel => exact ⟨k + 1, _, _, by omega, by go_num, rfl, hAB, hx13⟩
            case measure => simp [intOf]; omega
        · obtain rfl : k = n := by omega
          have HRE : Hid (ResRow c.fee w.heap.size 62 (endsF c c.flds) (.slice a9 (endsF c c.flds).length q9) wq) := Lib.hid (by
            have h := HR9.out
            rw [List.take_of_length_le (by have := HNA.out; omega)] at h
            rw [← HNA.out]
            exact h.base hwo)
          have XE := HX.out.trans hy
          have HNA' := HNA.out
          subst HNA'
          go_wp2_with fail
          go_ret
          exact ⟨_, _, rfl, HRE.out, XE⟩
end Go.Proofs.YtedblocbcjoolaaGreat
