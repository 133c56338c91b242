/- Contracts of the reference of layer 7: for which fields the umpire matters. -/
import Derived.Test.YtedblocbcjoolaaGreatKRF
import Derived.Test.YtedblocbcjoolaaGreatKXF
import Derived.Test.YtedblocbcjoolaaGreatKB7
set_option linter.unusedSimpArgs false
set_option linter.unusedVariables false
namespace Go.Hs
open Go.RowKit Go.Proofs.YtedblocbcjoolaaGreat
/-- Whether two truths with the same two counts have other payments. -/
def hitB (c : Cas) (f : Fld) (x y : Thr) : Bool := (x.a == y.a) && ((x.b == y.b) && (payC c f (settledS f x) != payC c f (settledS f y)))
theorem hit_yes {c : Cas} {f : Fld} {i k : Nat} (hi : i < truthsN f) (hk : k < truthsN f) (h : hitB c f (truthAt f i) (truthAt f k) = true) : matterB c f = true := by
  rw [← matterR_eq]
  unfold matterR
  rw [List.any_eq_true]
  refine ⟨_, List.mem_map.2 ⟨i, List.mem_range.2 hi, rfl⟩, ?_⟩
  rw [List.any_eq_true]
  refine ⟨_, List.mem_map.2 ⟨k, List.mem_range.2 hk, rfl⟩, ?_⟩
  simpa [hitB, ocS] using h
theorem hit_no {c : Cas} {f : Fld} (h : ∀ i, i < truthsN f → ∀ k, k < truthsN f → hitB c f (truthAt f i) (truthAt f k) = false) : matterB c f = false := by
  rw [← matterR_eq]
  unfold matterR
  rw [List.any_eq_false]
  intro x hx
  obtain ⟨i, hi, rfl⟩ := List.mem_map.1 hx
  rw [Bool.not_eq_true, List.any_eq_false]
  intro y hy
  obtain ⟨k, hk, rfl⟩ := List.mem_map.1 hy
  have := h i (List.mem_range.1 hi) k (List.mem_range.1 hk)
  rw [Bool.not_eq_true]
  simpa [hitB, ocS] using this
end Go.Hs
namespace Go.Proofs.YtedblocbcjoolaaGreat
open Go.RowKit Go.Hs
attribute [local irreducible] World.setCell World.alloc
theorem field_pay (p l : Int) (b : Bool) (w : World) : (Instr.field 128 (.agg #[.int .i64 p, .bool b, .int .i64 l]) 0).run Tryz.prog w = .ok (.int .i64 p) w := by kernel_rfl

set_option maxRecDepth 100000 in
set_option maxHeartbeats 8000000 in
theorem IsMatter_any (c : Cas) (v : Value) (f : Fld) (w : World) (hv : CasV w v c) (hc : CasOK c) (h0 : checkS c.tars = 0) (hf : FldOK c.tars f) :
    Calls Tryz.prog 37 #[v, f.c.val] w fun e w' => e = .returned (.bool (matterB c f)) ∧ Ext w w' := by
  have HV := Lib.hid hv
  obtain ⟨a1, c1, a2, c2, rfl, -, -, -, -, -⟩ := hv.open
  have hN := truthsN_le hf
  have HEV := Lib.hid (REvery_any c.tars f hf)
  have HO : Hid (∀ i, i < truthsN f → ∀ W, Ext w W → Calls Tryz.prog 62 #[casV a1 c.tars.length c1 c.day c.fee a2 c.flds.length c2, f.c.val, (truthAt f i).c.val] W fun e w' => e = .returned (.agg #[.int .i64 (payC c f (settledS f (truthAt f i))), .bool (calledB f (truthAt f i)), .int .i64 (lostS f (truthAt f i))]) ∧ Ext W w') := Lib.hid (fun i hi W hx => ROf_any c _ f _ W (HV.out.ext hx) hc h0 hf (truthAt_ok hi))
  have HYES := Lib.hid (fun i k => hit_yes (c := c) (f := f) (i := i) (k := k))
  have HNO := Lib.hid (hit_no (c := c) (f := f))
  have HDEF : Hid (∀ x y, hitB c f x y = ((x.a == y.a) && ((x.b == y.b) && (payC c f (settledS f x) != payC c f (settledS f y))))) := Lib.hid (fun _ _ => rfl)
  clear hv HV hc h0 hf
  generalize matterB c f = res at *
  unfold casV at *
  obtain ⟨fv, hfv⟩ : ∃ fv, fv = f := ⟨_, rfl⟩
  have HFC : Hid (f.c.val = .agg #[.int .i64 fv.crop, .int .i64 fv.value, .int .i64 fv.near, .int .i64 fv.alo, .int .i64 fv.ahi, .int .i64 fv.blo, .int .i64 fv.bhi, .int .i64 fv.ulo, .int .i64 fv.uhi]) := Lib.hid (by rw [hfv]; rfl)
  clear hfv
  rw [HFC.out] at HEV HO ⊢
  obtain ⟨cr, va, ne, al, ah, bl, bh, ul, uh⟩ := fv
  simp only at *
  clear HFC
  generalize truthsN f = N at *
  go_enter Tryz.func37, Tryz.ntmps37
  go_wp2_with fail
  have X : Ext w ((w.alloc (.cells #[.slice a1 c.tars.length c1, .int .i64 c.day, .int .i64 c.fee, .slice a2 c.flds.length c2] 25)).alloc (.cells #[.int .i64 cr, .int .i64 va, .int .i64 ne, .int .i64 al, .int .i64 ah, .int .i64 bl, .int .i64 bh, .int .i64 ul, .int .i64 uh] 76)) := by (repeat (first | exact Ext.refl _ | (with_reducible assumption) | (with_reducible refine Ext.drew ?_) | (with_reducible refine Ext.alloc ?_ _) | (with_reducible refine Ext.drewN ?_ _) | (with_reducible refine Ext.setCell ?_ (by omega) _) | (with_reducible refine Ext.trans ?_ (by with_reducible assumption))))
  have HS : Hid (∀ w', Ext ((w.alloc (.cells #[.slice a1 c.tars.length c1, .int .i64 c.day, .int .i64 c.fee, .slice a2 c.flds.length c2] 25)).alloc (.cells #[.int .i64 cr, .int .i64 va, .int .i64 ne, .int .i64 al, .int .i64 ah, .int .i64 bl, .int .i64 bh, .int .i64 ul, .int .i64 uh] 76)) w' → (w'.cell? ⟨w.heap.size, 0, none⟩ = some (.slice a1 c.tars.length c1) ∧ w'.cell? ⟨w.heap.size, 1, none⟩ = some (.int .i64 c.day) ∧ w'.cell? ⟨w.heap.size, 2, none⟩ = some (.int .i64 c.fee) ∧ w'.cell? ⟨w.heap.size, 3, none⟩ = some (.slice a2 c.flds.length c2) ∧ w'.cell? ⟨w.heap.size + 1, 0, none⟩ = some (.int .i64 cr) ∧ w'.cell? ⟨w.heap.size + 1, 1, none⟩ = some (.int .i64 va) ∧ w'.cell? ⟨w.heap.size + 1, 2, none⟩ = some (.int .i64 ne) ∧ w'.cell? ⟨w.heap.size + 1, 3, none⟩ = some (.int .i64 al) ∧ w'.cell? ⟨w.heap.size + 1, 4, none⟩ = some (.int .i64 ah) ∧ w'.cell? ⟨w.heap.size + 1, 5, none⟩ = some (.int .i64 bl) ∧ w'.cell? ⟨w.heap.size + 1, 6, none⟩ = some (.int .i64 bh) ∧ w'.cell? ⟨w.heap.size + 1, 7, none⟩ = some (.int .i64 ul) ∧ w'.cell? ⟨w.heap.size + 1, 8, none⟩ = some (.int .i64 uh)) ∧ Ext ((w.alloc (.cells #[.slice a1 c.tars.length c1, .int .i64 c.day, .int .i64 c.fee, .slice a2 c.flds.length c2] 25)).alloc (.cells #[.int .i64 cr, .int .i64 va, .int .i64 ne, .int .i64 al, .int .i64 ah, .int .i64 bl, .int .i64 bh, .int .i64 ul, .int .i64 uh] 76)) w') := Lib.hid (fun w' hx => ⟨⟨hx.keep (by simp [go_sem]), hx.keep (by simp [go_sem]), hx.keep (by simp [go_sem]), hx.keep (by simp [go_sem]), hx.keep (by simp [go_sem]), hx.keep (by simp [go_sem]), hx.keep (by simp [go_sem]), hx.keep (by simp [go_sem]), hx.keep (by simp [go_sem]), hx.keep (by simp [go_sem]), hx.keep (by simp [go_sem]), hx.keep (by simp [go_sem]), hx.keep (by simp [go_sem])⟩, hx⟩)
  have HSf : Hid (∀ w', Ext ((w.alloc (.cells #[.slice a1 c.tars.length c1, .int .i64 c.day, .int .i64 c.fee, .slice a2 c.flds.length c2] 25)).alloc (.cells #[.int .i64 cr, .int .i64 va, .int .i64 ne, .int .i64 al, .int .i64 ah, .int .i64 bl, .int .i64 bh, .int .i64 ul, .int .i64 uh] 76)) w' → ∀ o, w'.frozen? ⟨w.heap.size + 1, o, none⟩ = false) := Lib.hid (fun w' hx o => (hx.frozen (by simp)).trans (by simp [go_sem]))
  have HSz : w.heap.size + 1 + 1 ≤ ((w.alloc (.cells #[.slice a1 c.tars.length c1, .int .i64 c.day, .int .i64 c.fee, .slice a2 c.flds.length c2] 25)).alloc (.cells #[.int .i64 cr, .int .i64 va, .int .i64 ne, .int .i64 al, .int .i64 ah, .int .i64 bl, .int .i64 bh, .int .i64 ul, .int .i64 uh] 76)).heap.size := by simp
  generalize ((w.alloc (.cells #[.slice a1 c.tars.length c1, .int .i64 c.day, .int .i64 c.fee, .slice a2 c.flds.length c2] 25)).alloc (.cells #[.int .i64 cr, .int .i64 va, .int .i64 ne, .int .i64 al, .int .i64 ah, .int .i64 bl, .int .i64 bh, .int .i64 ul, .int .i64 uh] 76)) = W at *
  (with_reducible refine (HEV.out _).mono ?_)
  rintro e w1 ⟨ea, eq, rfl, hrow, hx1⟩
  have HRW := Lib.hid hrow
  have X1 := X.trans hx1
  have HK : Hid (∀ w', Ext w1 w' → ((w'.cell? ⟨w.heap.size, 0, none⟩ = some (.slice a1 c.tars.length c1) ∧ w'.cell? ⟨w.heap.size, 1, none⟩ = some (.int .i64 c.day) ∧ w'.cell? ⟨w.heap.size, 2, none⟩ = some (.int .i64 c.fee) ∧ w'.cell? ⟨w.heap.size, 3, none⟩ = some (.slice a2 c.flds.length c2)) ∧ (w'.cell? ⟨w.heap.size + 1, 0, none⟩ = some (.int .i64 cr) ∧ w'.cell? ⟨w.heap.size + 1, 1, none⟩ = some (.int .i64 va) ∧ w'.cell? ⟨w.heap.size + 1, 2, none⟩ = some (.int .i64 ne) ∧ w'.cell? ⟨w.heap.size + 1, 3, none⟩ = some (.int .i64 al) ∧ w'.cell? ⟨w.heap.size + 1, 4, none⟩ = some (.int .i64 ah) ∧ w'.cell? ⟨w.heap.size + 1, 5, none⟩ = some (.int .i64 bl) ∧ w'.cell? ⟨w.heap.size + 1, 6, none⟩ = some (.int .i64 bh) ∧ w'.cell? ⟨w.heap.size + 1, 7, none⟩ = some (.int .i64 ul) ∧ w'.cell? ⟨w.heap.size + 1, 8, none⟩ = some (.int .i64 uh)))) := Lib.hid (fun w' hx => by
    obtain ⟨⟨q0, q1, q2, q3, m0, m1, m2, m3, m4, m5, m6, m7, m8⟩, -⟩ := HS.out w' (hx1.trans hx)
    exact ⟨⟨q0, q1, q2, q3⟩, m0, m1, m2, m3, m4, m5, m6, m7, m8⟩)
  have HFP := Lib.hid field_pay
  clear hrow hx1 HS HSf HSz HEV X
  go_wp2_with fail
  go_loopw [6, 7] (fun s6 _ wr => ∃ i : Nat, i ≤ N ∧ s6 = .int .i64 i ∧ Hid (∀ i', i' < i → ∀ k, k < N → hitB c f (truthAt f i') (truthAt f k) = false) ∧ Ext w1 wr) (fun s _ _ => N - (intOf s).toNat)
  case atStart => exact ⟨0, Nat.zero_le _, rfl, Lib.hid (fun i' h => absurd h (Nat.not_lt_zero _)), Ext.refl _⟩
  case round =>
    obtain ⟨i, hi, rfl, HI, hx⟩ := hrel
    obtain ⟨wo, rfl⟩ : ∃ x, x = wr := ⟨_, rfl⟩
    by_cases hlt : i < N
    · go_wp2_with fail
      go_loopw [7] (fun s7 wr => ∃ k : Nat, k ≤ N ∧ s7 = .int .i64 k ∧ Hid (∀ k', k' < k → hitB c f (truthAt f i) (truthAt f k') = false) ∧ Ext w1 wr) (fun s _ => N - (intOf s).toNat)
      case atStart => exact ⟨0, Nat.zero_le _, rfl, Lib.hid (fun i' h => absurd h (Nat.not_lt_zero _)), hx⟩
      case round =>
        clear hx
        obtain ⟨k, hk, rfl, HKI, hx⟩ := hrel
        obtain ⟨wp, rfl⟩ : ∃ x, x = wr := ⟨_, rfl⟩
        by_cases hlk : k < N
        · obtain ⟨be, oe, rfl, -, hc1⟩ := HRW.out.at hlt
          obtain ⟨be', oe', hbe, -, hc2⟩ := HRW.out.at hlk
          injection hbe with hbe
          injection hbe with hbe1 hbe2
          subst hbe1 hbe2
          have HO1 := Lib.hid (HO.out i hlt)
          have HO2 := Lib.hid (HO.out k hlk)
          have HD := Lib.hid (HDEF.out (truthAt f i) (truthAt f k))
          have HY := Lib.hid (HYES.out i k hlt hlk)
          have HKN : Hid (hitB c f (truthAt f i) (truthAt f k) = false → ∀ k', k' < k + 1 → hitB c f (truthAt f i) (truthAt f k') = false) := Lib.hid (fun h k' hk' => by
            rcases Nat.lt_or_ge k' k with h1 | h1
            · exact HKI.out k' h1
            · obtain rfl : k' = k := by omega
              exact h)
          have HC1 := Lib.hid (fun W' (h : Ext w1 W') => hc1.ext h be _)
          have HC2 := Lib.hid (fun W' (h : Ext w1 W') => hc2.ext h be _)
          clear HI HKI HO HYES HNO HDEF HRW hc1 hc2
          generalize hitB c f (truthAt f i) (truthAt f k) = hb at *
          generalize payC c f (settledS f (truthAt f i)) = p1 at *
          generalize payC c f (settledS f (truthAt f k)) = p2 at *
          generalize calledB f (truthAt f i) = cb1 at *
          generalize calledB f (truthAt f k) = cb2 at *
          generalize lostS f (truthAt f i) = ls1 at *
          generalize lostS f (truthAt f k) = ls2 at *
          have hfld := field_pay
          have hk0 : (0 : Int) ≤ (k : Int) := by omega
          have hki : (k : Int) < (N : Int) := by omega
          have hj0 : (0 : Int) ≤ (i : Int) := by omega
          have hji : (i : Int) < (N : Int) := by omega
          generalize truthAt f i = x at *
          generalize truthAt f k = y at *
          obtain ⟨A1, B1, U1⟩ := x
          obtain ⟨A2, B2, U2⟩ := y
          simp only [Thr.c, Cell3] at *
          clear HFP
          go_upto_region 8 with fail
          cases ea : (A1 == A2) with
          | false =>
            have HRN := Lib.hid (HKN.out (by rw [HD.out, ea]; rfl))
            clear HKN HY HD
            refine wp_region_quiet (C := Ext wp) (by kernel_rfl) (by kernel_rfl) (Ext.drew (by (repeat (first | exact Ext.refl _ | (with_reducible assumption) | (with_reducible refine Ext.drew ?_) | (with_reducible refine Ext.alloc ?_ _) | (with_reducible refine Ext.drewN ?_ _) | (with_reducible refine Ext.setCell ?_ (by omega) _) | (with_reducible refine Ext.trans ?_ (by with_reducible assumption)))))) ?_
            rw [show ∀ (l : List Oper), l.toArray.toList = l from fun l => rfl]
            repeat (first
              | go_big_quiet_skip
              | (go_big_quiet_want
                 first
                  | (go_big_quiet_op; go_big_quiet_on)
                  | (apply Exists.intro
                     refine ⟨fun w' hxw => ?_, ?_⟩
                     focus (obtain ⟨⟨q0, q1, q2, q3⟩, m0, m1, m2, m3, m4, m5, m6, m7, m8⟩ := HK.out w' (Ext.trans hx hxw); obtain ⟨d0, d1, d2⟩ := HC1.out w' (Ext.trans hx hxw); obtain ⟨g0, g1, g2⟩ := HC2.out w' (Ext.trans hx hxw); go_simp; first | exact rfl | (first | (with_reducible refine (HO1.out w' (Ext.trans (Ext.trans X1 hx) hxw)).mono ?_; exact fun e w'' h => ⟨h.1, hxw.trans h.2⟩) | (with_reducible refine (HO2.out w' (Ext.trans (Ext.trans X1 hx) hxw)).mono ?_; exact fun e w'' h => ⟨h.1, hxw.trans h.2⟩)))
                     simp only [Act.put, List.setIfInBounds_toArray, List.set_cons_zero, List.set_cons_succ]
                     go_big_quiet_on)))
            refine wpQuiet_nil ?_
            intro w2 hx2
            go_wp2_with fail
            go_roundw
            case rel => exact ⟨k + 1, by omega, by go_num, HRN, hx.trans hx2⟩
            case measure => simp [intOf]; omega
          | true =>
            cases eb : (B1 == B2) with
            | false =>
              have HRN := Lib.hid (HKN.out (by rw [HD.out, ea, eb]; rfl))
              clear HKN HY HD
              refine wp_region_quiet (C := Ext wp) (by kernel_rfl) (by kernel_rfl) (Ext.drew (by (repeat (first | exact Ext.refl _ | (with_reducible assumption) | (with_reducible refine Ext.drew ?_) | (with_reducible refine Ext.alloc ?_ _) | (with_reducible refine Ext.drewN ?_ _) | (with_reducible refine Ext.setCell ?_ (by omega) _) | (with_reducible refine Ext.trans ?_ (by with_reducible assumption)))))) ?_
              rw [show ∀ (l : List Oper), l.toArray.toList = l from fun l => rfl]
              repeat (first
                | go_big_quiet_skip
                | (go_big_quiet_want
                   first
                    | (go_big_quiet_op; go_big_quiet_on)
                    | (apply Exists.intro
                       refine ⟨fun w' hxw => ?_, ?_⟩
                       focus (obtain ⟨⟨q0, q1, q2, q3⟩, m0, m1, m2, m3, m4, m5, m6, m7, m8⟩ := HK.out w' (Ext.trans hx hxw); obtain ⟨d0, d1, d2⟩ := HC1.out w' (Ext.trans hx hxw); obtain ⟨g0, g1, g2⟩ := HC2.out w' (Ext.trans hx hxw); go_simp; first | exact rfl | (first | (with_reducible refine (HO1.out w' (Ext.trans (Ext.trans X1 hx) hxw)).mono ?_; exact fun e w'' h => ⟨h.1, hxw.trans h.2⟩) | (with_reducible refine (HO2.out w' (Ext.trans (Ext.trans X1 hx) hxw)).mono ?_; exact fun e w'' h => ⟨h.1, hxw.trans h.2⟩)))
                       simp only [Act.put, List.setIfInBounds_toArray, List.set_cons_zero, List.set_cons_succ]
                       go_big_quiet_on)))
              refine wpQuiet_nil ?_
              intro w2 hx2
              go_wp2_with fail
              go_roundw
              case rel => exact ⟨k + 1, by omega, by go_num, HRN, hx.trans hx2⟩
              case measure => simp [intOf]; omega
            | true =>
              cases ep : (p1 != p2) with
              | false =>
                have HRN := Lib.hid (HKN.out (by rw [HD.out, ea, eb, ep]; rfl))
                clear HKN HY HD
                refine wp_region_quiet (C := Ext wp) (by kernel_rfl) (by kernel_rfl) (Ext.drew (by (repeat (first | exact Ext.refl _ | (with_reducible assumption) | (with_reducible refine Ext.drew ?_) | (with_reducible refine Ext.alloc ?_ _) | (with_reducible refine Ext.drewN ?_ _) | (with_reducible refine Ext.setCell ?_ (by omega) _) | (with_reducible refine Ext.trans ?_ (by with_reducible assumption)))))) ?_
                rw [show ∀ (l : List Oper), l.toArray.toList = l from fun l => rfl]
                repeat (first
                  | go_big_quiet_skip
                  | (go_big_quiet_want
                     first
                      | (go_big_quiet_op; go_big_quiet_on)
                      | (apply Exists.intro
                         refine ⟨fun w' hxw => ?_, ?_⟩
                         focus (obtain ⟨⟨q0, q1, q2, q3⟩, m0, m1, m2, m3, m4, m5, m6, m7, m8⟩ := HK.out w' (Ext.trans hx hxw); obtain ⟨d0, d1, d2⟩ := HC1.out w' (Ext.trans hx hxw); obtain ⟨g0, g1, g2⟩ := HC2.out w' (Ext.trans hx hxw); go_simp; first | exact rfl | (first | (with_reducible refine (HO1.out w' (Ext.trans (Ext.trans X1 hx) hxw)).mono ?_; exact fun e w'' h => ⟨h.1, hxw.trans h.2⟩) | (with_reducible refine (HO2.out w' (Ext.trans (Ext.trans X1 hx) hxw)).mono ?_; exact fun e w'' h => ⟨h.1, hxw.trans h.2⟩)))
                         simp only [Act.put, List.setIfInBounds_toArray, List.set_cons_zero, List.set_cons_succ]
                         go_big_quiet_on)))
                refine wpQuiet_nil ?_
                intro w2 hx2
                go_wp2_with fail
                go_roundw
                case rel => exact ⟨k + 1, by omega, by go_num, HRN, hx.trans hx2⟩
                case measure => simp [intOf]; omega
              | true =>
                have HR := Lib.hid (HY.out (by rw [HD.out, ea, eb, ep]; rfl))
                clear HKN HY HD
                refine wp_region_quiet (C := Ext wp) (by kernel_rfl) (by kernel_rfl) (Ext.drew (by (repeat (first | exact Ext.refl _ | (with_reducible assumption) | (with_reducible refine Ext.drew ?_) | (with_reducible refine Ext.alloc ?_ _) | (with_reducible refine Ext.drewN ?_ _) | (with_reducible refine Ext.setCell ?_ (by omega) _) | (with_reducible refine Ext.trans ?_ (by with_reducible assumption)))))) ?_
                rw [show ∀ (l : List Oper), l.toArray.toList = l from fun l => rfl]
                repeat (first
                  | go_big_quiet_skip
                  | (go_big_quiet_want
                     first
                      | (go_big_quiet_op; go_big_quiet_on)
                      | (apply Exists.intro
                         refine ⟨fun w' hxw => ?_, ?_⟩
                         focus (obtain ⟨⟨q0, q1, q2, q3⟩, m0, m1, m2, m3, m4, m5, m6, m7, m8⟩ := HK.out w' (Ext.trans hx hxw); obtain ⟨d0, d1, d2⟩ := HC1.out w' (Ext.trans hx hxw); obtain ⟨g0, g1, g2⟩ := HC2.out w' (Ext.trans hx hxw); go_simp; first | exact rfl | (first | (with_reducible refine (HO1.out w' (Ext.trans (Ext.trans X1 hx) hxw)).mono ?_; exact fun e w'' h => ⟨h.1, hxw.trans h.2⟩) | (with_reducible refine (HO2.out w' (Ext.trans (Ext.trans X1 hx) hxw)).mono ?_; exact fun e w'' h => ⟨h.1, hxw.trans h.2⟩)))
                         simp only [Act.put, List.setIfInBounds_toArray, List.set_cons_zero, List.set_cons_succ]
                         go_big_quiet_on)))
                refine wpQuiet_nil ?_
                intro w2 hx2
                go_wp2_with fail
                go_ret
                exact ⟨ret_bool HR.out.symm, (X1.trans hx).trans hx2⟩
        · obtain rfl : k = N := by omega
          have HIN : Hid (∀ i', i' < i + 1 → ∀ k', k' < k → hitB c f (truthAt f i') (truthAt f k') = false) := Lib.hid (fun i' h => by
            rcases Nat.lt_or_ge i' i with h1 | h1
            · exact HI.out i' h1
            · obtain rfl : i' = i := by omega
              exact HKI.out)
          clear HI HKI HO HYES HNO HDEF HRW HK
          go_wp2_with fail
          go_roundw
          case rel => exact ⟨i + 1, by omega, by go_num, HIN, hx⟩
          case measure => simp [intOf]; omega
    · obtain rfl : i = N := by omega
      have HR := Lib.hid (HNO.out HI.out)
      clear HI HO HYES HNO HDEF HRW HK
      go_wp2_with fail
      go_ret
      exact ⟨ret_bool HR.out.symm, X1.trans hx⟩
end Go.Proofs.YtedblocbcjoolaaGreat
