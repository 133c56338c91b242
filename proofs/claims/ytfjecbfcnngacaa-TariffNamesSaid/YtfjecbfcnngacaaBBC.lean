/- Contracts: whether a claim is valid. -/
import Derived.Test.YtfjecbfcnngacaaBB
namespace Go.Proofs.Ytfjecbfcnngacaa
open Go.RowKit Go.Hs
attribute [local irreducible] World.setCell World.alloc

set_option maxRecDepth 100000 in
set_option maxHeartbeats 4000000 in
theorem IsClaim_any (v : Value) (l : List Tar) (c : Cla) (w : World) (hv : TarsV w v l) (hp : 0 < l.length) :
    Calls Try.prog 71 #[v, c.u.val] w fun e w' => e = .returned (.bool (claimB l c)) ∧ Ext w w' := by
  have HCR : Hid (∀ W, Ext w W → Calls Try.prog 25 #[v] W fun e w' => e = .returned (.int .i64 (cropsN l)) ∧ Ext W w') := fun W hx => (Crops_any v l W (hv.ext hx) hp).mono fun e w' h => ⟨h.1, h.2 ▸ Ext.refl _⟩
  have hcn : (cropsN l : Int) ≤ 140737488351232 := by
    obtain ⟨a, c, -, -, -, hr⟩ := hv
    obtain ⟨b, o, -, ht⟩ := hr 0 hp
    obtain ⟨a3, k3, a4, k4, a5, k5, -, -, -, -, -, -, mc⟩ := ht.open
    have := mc.rates.len_le.2
    have e : l[0] = l.getD 0 default := by simp [hp]
    rw [e] at this
    unfold cropsN; omega
  have HB : Hid (claimB l c = (inR c.crop 0 ((cropsN l : Int) - 1) && inR c.value 0 100000 && ofB c.dlo c.dhi 120 && decide (c.dhi - c.dlo ≤ 10) && ofB c.clo c.chi 100)) := rfl
  have HOF : Hid (∀ lo hi most, ofB lo hi most = (decide (0 ≤ lo) && decide (lo ≤ hi) && decide (hi ≤ most))) := Lib.hid (fun lo hi most => by simp [ofB, Bool.and_assoc])
  obtain ⟨cr, va, dl, dh, cl, ch⟩ := c
  simp only at HB
  rw [HOF.out, HOF.out] at HB
  generalize claimB l ⟨cr, va, dl, dh, cl, ch⟩ = res at *
  obtain ⟨a, k, rfl, -⟩ := hv
  generalize cropsN l = cn at *
  have hsub : IntKind.i64.wrap ((cn : Int) - 1) = (cn : Int) - 1 := IntWalk.i64_in _ (by omega)
  have HI1 : Hid (∀ W, Calls Try.prog 24 #[.int .i64 cr, .int .i64 0, .int .i64 ((cn : Int) - 1)] W fun e w' => e = .returned (.bool (inR cr 0 ((cn : Int) - 1))) ∧ Ext W w') := fun W => (In_any _ _ _ W).mono fun e w' h => ⟨h.1, h.2 ▸ Ext.refl _⟩
  have HI2 : Hid (∀ W, Calls Try.prog 24 #[.int .i64 va, .int .i64 0, .int .i64 100000] W fun e w' => e = .returned (.bool (inR va 0 100000)) ∧ Ext W w') := fun W => (In_any _ _ _ W).mono fun e w' h => ⟨h.1, h.2 ▸ Ext.refl _⟩
  have X : Ext w (w.alloc (.cells #[.int .i64 cr, .int .i64 va, .int .i64 dl, .int .i64 dh, .int .i64 cl, .int .i64 ch] 39)) := by (repeat (first | exact Ext.refl _ | (with_reducible assumption) | (with_reducible refine Ext.drew ?_) | (with_reducible refine Ext.alloc ?_ _) | (with_reducible refine Ext.drewN ?_ _) | (with_reducible refine Ext.setCell ?_ (by omega) _) | (with_reducible refine Ext.trans ?_ (by with_reducible assumption))))
  have F0 : Hid (∀ W', Ext (w.alloc (.cells #[.int .i64 cr, .int .i64 va, .int .i64 dl, .int .i64 dh, .int .i64 cl, .int .i64 ch] 39)) W' → Cell6 W' (w.heap.size) 0 ⟨.int .i64 cr, .int .i64 va, .int .i64 dl, .int .i64 dh, .int .i64 cl, .int .i64 ch⟩) :=
    fun W' hx => Cell6.ext hx _ _ _ (by simp [Cell6])
  cases h0 : inR cr 0 ((cn : Int) - 1) with
  | false =>
    have HE : Hid (res = false) := Lib.hid (by rw [HB.out]; simp [h0])
    rw [h0] at HI1
    clear h0 HB HOF
    go_enter Try.func71, Try.ntmps71
    go_wp2_with fail
    generalize (w.alloc (.cells #[.int .i64 cr, .int .i64 va, .int .i64 dl, .int .i64 dh, .int .i64 cl, .int .i64 ch] 39)) = W at *
    refine wp_region_quiet (C := Ext W) (by kernel_rfl) (by kernel_rfl) (Ext.drew (by (repeat (first | exact Ext.refl _ | (with_reducible assumption) | (with_reducible refine Ext.drew ?_) | (with_reducible refine Ext.alloc ?_ _) | (with_reducible refine Ext.drewN ?_ _) | (with_reducible refine Ext.setCell ?_ (by omega) _) | (with_reducible refine Ext.trans ?_ (by with_reducible assumption)))))) ?_
    rw [show ∀ (l : List Oper), l.toArray.toList = l from fun l => rfl]
    repeat (first
      | go_big_quiet_skip
      | (go_big_quiet_want
         first
          | (go_big_quiet_op; go_big_quiet_on)
          | (apply Exists.intro
             refine ⟨fun w' hxw => ?_, ?_⟩
             focus (obtain ⟨q0, q1, q2, q3, q4, q5⟩ := F0.out w' hxw; simp only [Nat.zero_add] at q0 q1 q2 q3 q4 q5; go_simp; first | exact rfl | (first | (go_at_call 25; exact (HCR.out w' (X.trans hxw)).mono (fun e w'' h => ⟨h.1, hxw.trans h.2⟩)) | (with_reducible refine (HI1.out w').mono ?_; exact (fun e w'' h => ⟨h.1, hxw.trans h.2⟩)) | (with_reducible refine (HI2.out w').mono ?_; exact (fun e w'' h => ⟨h.1, hxw.trans h.2⟩))))
             simp only [Act.put, List.setIfInBounds_toArray, List.set_cons_zero, List.set_cons_succ]
             go_big_quiet_on)))
    refine wpQuiet_nil ?_
    intro w2 hx2
    go_wp2_with fail
    go_ret
    exact ⟨ret_bool HE.out.symm, X.trans hx2⟩
  | true =>
    rw [h0] at HI1
    cases h1 : inR va 0 100000 with
    | false =>
      have HE : Hid (res = false) := Lib.hid (by rw [HB.out]; simp [h0, h1])
      rw [h1] at HI2
      clear h0 h1 HB HOF
      go_enter Try.func71, Try.ntmps71
      go_wp2_with fail
      generalize (w.alloc (.cells #[.int .i64 cr, .int .i64 va, .int .i64 dl, .int .i64 dh, .int .i64 cl, .int .i64 ch] 39)) = W at *
      refine wp_region_quiet (C := Ext W) (by kernel_rfl) (by kernel_rfl) (Ext.drew (by (repeat (first | exact Ext.refl _ | (with_reducible assumption) | (with_reducible refine Ext.drew ?_) | (with_reducible refine Ext.alloc ?_ _) | (with_reducible refine Ext.drewN ?_ _) | (with_reducible refine Ext.setCell ?_ (by omega) _) | (with_reducible refine Ext.trans ?_ (by with_reducible assumption)))))) ?_
      rw [show ∀ (l : List Oper), l.toArray.toList = l from fun l => rfl]
      repeat (first
        | go_big_quiet_skip
        | (go_big_quiet_want
           first
            | (go_big_quiet_op; go_big_quiet_on)
            | (apply Exists.intro
               refine ⟨fun w' hxw => ?_, ?_⟩
               focus (obtain ⟨q0, q1, q2, q3, q4, q5⟩ := F0.out w' hxw; simp only [Nat.zero_add] at q0 q1 q2 q3 q4 q5; go_simp; first | exact rfl | (first | (go_at_call 25; exact (HCR.out w' (X.trans hxw)).mono (fun e w'' h => ⟨h.1, hxw.trans h.2⟩)) | (with_reducible refine (HI1.out w').mono ?_; exact (fun e w'' h => ⟨h.1, hxw.trans h.2⟩)) | (with_reducible refine (HI2.out w').mono ?_; exact (fun e w'' h => ⟨h.1, hxw.trans h.2⟩))))
               simp only [Act.put, List.setIfInBounds_toArray, List.set_cons_zero, List.set_cons_succ]
               go_big_quiet_on)))
      refine wpQuiet_nil ?_
      intro w2 hx2
      go_wp2_with fail
      go_ret
      exact ⟨ret_bool HE.out.symm, X.trans hx2⟩
    | true =>
      rw [h1] at HI2
      by_cases h2 : 0 ≤ dl
      · skip
        by_cases h3 : dl ≤ dh
        · skip
          by_cases h4 : dh ≤ 120
          · skip
            by_cases h5 : dh - dl ≤ 10
            · skip
              by_cases h6 : 0 ≤ cl
              · skip
                by_cases h7 : cl ≤ ch
                · skip
                  by_cases h8 : ch ≤ 100
                  · skip
                    have HE : Hid (res = true) := Lib.hid (by rw [HB.out]; simp [h0, h1, h2, h3, h4, h5, h6, h7, h8])
                    have hw5 : IntKind.i64.wrap (dh - dl) = dh - dl := IntWalk.i64_in _ (by omega)
                    clear h0 h1 HB HOF
                    go_enter Try.func71, Try.ntmps71
                    go_wp2_with fail
                    generalize (w.alloc (.cells #[.int .i64 cr, .int .i64 va, .int .i64 dl, .int .i64 dh, .int .i64 cl, .int .i64 ch] 39)) = W at *
                    refine wp_region_quiet (C := Ext W) (by kernel_rfl) (by kernel_rfl) (Ext.drew (by (repeat (first | exact Ext.refl _ | (with_reducible assumption) | (with_reducible refine Ext.drew ?_) | (with_reducible refine Ext.alloc ?_ _) | (with_reducible refine Ext.drewN ?_ _) | (with_reducible refine Ext.setCell ?_ (by omega) _) | (with_reducible refine Ext.trans ?_ (by with_reducible assumption)))))) ?_
                    rw [show ∀ (l : List Oper), l.toArray.toList = l from fun l => rfl]
                    repeat (first
                      | go_big_quiet_skip
                      | (go_big_quiet_want
                         first
                          | (go_big_quiet_op; go_big_quiet_on)
                          | (apply Exists.intro
                             refine ⟨fun w' hxw => ?_, ?_⟩
                             focus (obtain ⟨q0, q1, q2, q3, q4, q5⟩ := F0.out w' hxw; simp only [Nat.zero_add] at q0 q1 q2 q3 q4 q5; go_simp; first | exact rfl | (first | (go_at_call 25; exact (HCR.out w' (X.trans hxw)).mono (fun e w'' h => ⟨h.1, hxw.trans h.2⟩)) | (with_reducible refine (HI1.out w').mono ?_; exact (fun e w'' h => ⟨h.1, hxw.trans h.2⟩)) | (with_reducible refine (HI2.out w').mono ?_; exact (fun e w'' h => ⟨h.1, hxw.trans h.2⟩))))
                             simp only [Act.put, List.setIfInBounds_toArray, List.set_cons_zero, List.set_cons_succ]
                             go_big_quiet_on)))
                    refine wpQuiet_nil ?_
                    intro w2 hx2
                    go_wp2_with fail
                    go_ret
                    exact ⟨ret_bool HE.out.symm, X.trans hx2⟩
                  · have HE : Hid (res = false) := Lib.hid (by rw [HB.out]; simp [h0, h1, h2, h3, h4, h5, h6, h7, h8])
                    have d8 : decide (ch ≤ 100) = false := decide_eq_false h8
                    have hw5 : IntKind.i64.wrap (dh - dl) = dh - dl := IntWalk.i64_in _ (by omega)
                    clear h0 h1 HB HOF
                    go_enter Try.func71, Try.ntmps71
                    go_wp2_with fail
                    generalize (w.alloc (.cells #[.int .i64 cr, .int .i64 va, .int .i64 dl, .int .i64 dh, .int .i64 cl, .int .i64 ch] 39)) = W at *
                    refine wp_region_quiet (C := Ext W) (by kernel_rfl) (by kernel_rfl) (Ext.drew (by (repeat (first | exact Ext.refl _ | (with_reducible assumption) | (with_reducible refine Ext.drew ?_) | (with_reducible refine Ext.alloc ?_ _) | (with_reducible refine Ext.drewN ?_ _) | (with_reducible refine Ext.setCell ?_ (by omega) _) | (with_reducible refine Ext.trans ?_ (by with_reducible assumption)))))) ?_
                    rw [show ∀ (l : List Oper), l.toArray.toList = l from fun l => rfl]
                    repeat (first
                      | go_big_quiet_skip
                      | (go_big_quiet_want
                         first
                          | (go_big_quiet_op; go_big_quiet_on)
                          | (apply Exists.intro
                             refine ⟨fun w' hxw => ?_, ?_⟩
                             focus (obtain ⟨q0, q1, q2, q3, q4, q5⟩ := F0.out w' hxw; simp only [Nat.zero_add] at q0 q1 q2 q3 q4 q5; go_simp; first | exact rfl | (first | (go_at_call 25; exact (HCR.out w' (X.trans hxw)).mono (fun e w'' h => ⟨h.1, hxw.trans h.2⟩)) | (with_reducible refine (HI1.out w').mono ?_; exact (fun e w'' h => ⟨h.1, hxw.trans h.2⟩)) | (with_reducible refine (HI2.out w').mono ?_; exact (fun e w'' h => ⟨h.1, hxw.trans h.2⟩))))
                             simp only [Act.put, List.setIfInBounds_toArray, List.set_cons_zero, List.set_cons_succ]
                             go_big_quiet_on)))
                    refine wpQuiet_nil ?_
                    intro w2 hx2
                    go_wp2_with fail
                    go_ret
                    exact ⟨ret_bool HE.out.symm, X.trans hx2⟩
                · have HE : Hid (res = false) := Lib.hid (by rw [HB.out]; simp [h0, h1, h2, h3, h4, h5, h6, h7])
                  have d7 : decide (cl ≤ ch) = false := decide_eq_false h7
                  have hw5 : IntKind.i64.wrap (dh - dl) = dh - dl := IntWalk.i64_in _ (by omega)
                  clear h0 h1 HB HOF
                  go_enter Try.func71, Try.ntmps71
                  go_wp2_with fail
                  generalize (w.alloc (.cells #[.int .i64 cr, .int .i64 va, .int .i64 dl, .int .i64 dh, .int .i64 cl, .int .i64 ch] 39)) = W at *
                  refine wp_region_quiet (C := Ext W) (by kernel_rfl) (by kernel_rfl) (Ext.drew (by (repeat (first | exact Ext.refl _ | (with_reducible assumption) | (with_reducible refine Ext.drew ?_) | (with_reducible refine Ext.alloc ?_ _) | (with_reducible refine Ext.drewN ?_ _) | (with_reducible refine Ext.setCell ?_ (by omega) _) | (with_reducible refine Ext.trans ?_ (by with_reducible assumption)))))) ?_
                  rw [show ∀ (l : List Oper), l.toArray.toList = l from fun l => rfl]
                  repeat (first
                    | go_big_quiet_skip
                    | (go_big_quiet_want
                       first
                        | (go_big_quiet_op; go_big_quiet_on)
                        | (apply Exists.intro
                           refine ⟨fun w' hxw => ?_, ?_⟩
                           focus (obtain ⟨q0, q1, q2, q3, q4, q5⟩ := F0.out w' hxw; simp only [Nat.zero_add] at q0 q1 q2 q3 q4 q5; go_simp; first | exact rfl | (first | (go_at_call 25; exact (HCR.out w' (X.trans hxw)).mono (fun e w'' h => ⟨h.1, hxw.trans h.2⟩)) | (with_reducible refine (HI1.out w').mono ?_; exact (fun e w'' h => ⟨h.1, hxw.trans h.2⟩)) | (with_reducible refine (HI2.out w').mono ?_; exact (fun e w'' h => ⟨h.1, hxw.trans h.2⟩))))
                           simp only [Act.put, List.setIfInBounds_toArray, List.set_cons_zero, List.set_cons_succ]
                           go_big_quiet_on)))
                  refine wpQuiet_nil ?_
                  intro w2 hx2
                  go_wp2_with fail
                  go_ret
                  exact ⟨ret_bool HE.out.symm, X.trans hx2⟩
              · have HE : Hid (res = false) := Lib.hid (by rw [HB.out]; simp [h0, h1, h2, h3, h4, h5, h6])
                have d6 : decide (0 ≤ cl) = false := decide_eq_false h6
                have hw5 : IntKind.i64.wrap (dh - dl) = dh - dl := IntWalk.i64_in _ (by omega)
                clear h0 h1 HB HOF
                go_enter Try.func71, Try.ntmps71
                go_wp2_with fail
                generalize (w.alloc (.cells #[.int .i64 cr, .int .i64 va, .int .i64 dl, .int .i64 dh, .int .i64 cl, .int .i64 ch] 39)) = W at *
                refine wp_region_quiet (C := Ext W) (by kernel_rfl) (by kernel_rfl) (Ext.drew (by (repeat (first | exact Ext.refl _ | (with_reducible assumption) | (with_reducible refine Ext.drew ?_) | (with_reducible refine Ext.alloc ?_ _) | (with_reducible refine Ext.drewN ?_ _) | (with_reducible refine Ext.setCell ?_ (by omega) _) | (with_reducible refine Ext.trans ?_ (by with_reducible assumption)))))) ?_
                rw [show ∀ (l : List Oper), l.toArray.toList = l from fun l => rfl]
                repeat (first
                  | go_big_quiet_skip
                  | (go_big_quiet_want
                     first
                      | (go_big_quiet_op; go_big_quiet_on)
                      | (apply Exists.intro
                         refine ⟨fun w' hxw => ?_, ?_⟩
                         focus (obtain ⟨q0, q1, q2, q3, q4, q5⟩ := F0.out w' hxw; simp only [Nat.zero_add] at q0 q1 q2 q3 q4 q5; go_simp; first | exact rfl | (first | (go_at_call 25; exact (HCR.out w' (X.trans hxw)).mono (fun e w'' h => ⟨h.1, hxw.trans h.2⟩)) | (with_reducible refine (HI1.out w').mono ?_; exact (fun e w'' h => ⟨h.1, hxw.trans h.2⟩)) | (with_reducible refine (HI2.out w').mono ?_; exact (fun e w'' h => ⟨h.1, hxw.trans h.2⟩))))
                         simp only [Act.put, List.setIfInBounds_toArray, List.set_cons_zero, List.set_cons_succ]
                         go_big_quiet_on)))
                refine wpQuiet_nil ?_
                intro w2 hx2
                go_wp2_with fail
                go_ret
                exact ⟨ret_bool HE.out.symm, X.trans hx2⟩
            · have HE : Hid (res = false) := Lib.hid (by rw [HB.out]; simp [h0, h1, h2, h3, h4, h5])
              have d5 : decide (dh - dl ≤ 10) = false := decide_eq_false h5
              have hw5 : IntKind.i64.wrap (dh - dl) = dh - dl := IntWalk.i64_in _ (by omega)
              clear h0 h1 HB HOF
              go_enter Try.func71, Try.ntmps71
              go_wp2_with fail
              generalize (w.alloc (.cells #[.int .i64 cr, .int .i64 va, .int .i64 dl, .int .i64 dh, .int .i64 cl, .int .i64 ch] 39)) = W at *
              refine wp_region_quiet (C := Ext W) (by kernel_rfl) (by kernel_rfl) (Ext.drew (by (repeat (first | exact Ext.refl _ | (with_reducible assumption) | (with_reducible refine Ext.drew ?_) | (with_reducible refine Ext.alloc ?_ _) | (with_reducible refine Ext.drewN ?_ _) | (with_reducible refine Ext.setCell ?_ (by omega) _) | (with_reducible refine Ext.trans ?_ (by with_reducible assumption)))))) ?_
              rw [show ∀ (l : List Oper), l.toArray.toList = l from fun l => rfl]
              repeat (first
                | go_big_quiet_skip
                | (go_big_quiet_want
                   first
                    | (go_big_quiet_op; go_big_quiet_on)
                    | (apply Exists.intro
                       refine ⟨fun w' hxw => ?_, ?_⟩
                       focus (obtain ⟨q0, q1, q2, q3, q4, q5⟩ := F0.out w' hxw; simp only [Nat.zero_add] at q0 q1 q2 q3 q4 q5; go_simp; first | exact rfl | (first | (go_at_call 25; exact (HCR.out w' (X.trans hxw)).mono (fun e w'' h => ⟨h.1, hxw.trans h.2⟩)) | (with_reducible refine (HI1.out w').mono ?_; exact (fun e w'' h => ⟨h.1, hxw.trans h.2⟩)) | (with_reducible refine (HI2.out w').mono ?_; exact (fun e w'' h => ⟨h.1, hxw.trans h.2⟩))))
                       simp only [Act.put, List.setIfInBounds_toArray, List.set_cons_zero, List.set_cons_succ]
                       go_big_quiet_on)))
              refine wpQuiet_nil ?_
              intro w2 hx2
              go_wp2_with fail
              go_ret
              exact ⟨ret_bool HE.out.symm, X.trans hx2⟩
          · have HE : Hid (res = false) := Lib.hid (by rw [HB.out]; simp [h0, h1, h2, h3, h4])
            have d4 : decide (dh ≤ 120) = false := decide_eq_false h4
            clear h0 h1 HB HOF
            go_enter Try.func71, Try.ntmps71
            go_wp2_with fail
            generalize (w.alloc (.cells #[.int .i64 cr, .int .i64 va, .int .i64 dl, .int .i64 dh, .int .i64 cl, .int .i64 ch] 39)) = W at *
            refine wp_region_quiet (C := Ext W) (by kernel_rfl) (by kernel_rfl) (Ext.drew (by (repeat (first | exact Ext.refl _ | (with_reducible assumption) | (with_reducible refine Ext.drew ?_) | (with_reducible refine Ext.alloc ?_ _) | (with_reducible refine Ext.drewN ?_ _) | (with_reducible refine Ext.setCell ?_ (by omega) _) | (with_reducible refine Ext.trans ?_ (by with_reducible assumption)))))) ?_
            rw [show ∀ (l : List Oper), l.toArray.toList = l from fun l => rfl]
            repeat (first
              | go_big_quiet_skip
              | (go_big_quiet_want
                 first
                  | (go_big_quiet_op; go_big_quiet_on)
                  | (apply Exists.intro
                     refine ⟨fun w' hxw => ?_, ?_⟩
                     focus (obtain ⟨q0, q1, q2, q3, q4, q5⟩ := F0.out w' hxw; simp only [Nat.zero_add] at q0 q1 q2 q3 q4 q5; go_simp; first | exact rfl | (first | (go_at_call 25; exact (HCR.out w' (X.trans hxw)).mono (fun e w'' h => ⟨h.1, hxw.trans h.2⟩)) | (with_reducible refine (HI1.out w').mono ?_; exact (fun e w'' h => ⟨h.1, hxw.trans h.2⟩)) | (with_reducible refine (HI2.out w').mono ?_; exact (fun e w'' h => ⟨h.1, hxw.trans h.2⟩))))
                     simp only [Act.put, List.setIfInBounds_toArray, List.set_cons_zero, List.set_cons_succ]
                     go_big_quiet_on)))
            refine wpQuiet_nil ?_
            intro w2 hx2
            go_wp2_with fail
            go_ret
            exact ⟨ret_bool HE.out.symm, X.trans hx2⟩
        · have HE : Hid (res = false) := Lib.hid (by rw [HB.out]; simp [h0, h1, h2, h3])
          have d3 : decide (dl ≤ dh) = false := decide_eq_false h3
          clear h0 h1 HB HOF
          go_enter Try.func71, Try.ntmps71
          go_wp2_with fail
          generalize (w.alloc (.cells #[.int .i64 cr, .int .i64 va, .int .i64 dl, .int .i64 dh, .int .i64 cl, .int .i64 ch] 39)) = W at *
          refine wp_region_quiet (C := Ext W) (by kernel_rfl) (by kernel_rfl) (Ext.drew (by (repeat (first | exact Ext.refl _ | (with_reducible assumption) | (with_reducible refine Ext.drew ?_) | (with_reducible refine Ext.alloc ?_ _) | (with_reducible refine Ext.drewN ?_ _) | (with_reducible refine Ext.setCell ?_ (by omega) _) | (with_reducible refine Ext.trans ?_ (by with_reducible assumption)))))) ?_
          rw [show ∀ (l : List Oper), l.toArray.toList = l from fun l => rfl]
          repeat (first
            | go_big_quiet_skip
            | (go_big_quiet_want
               first
                | (go_big_quiet_op; go_big_quiet_on)
                | (apply Exists.intro
                   refine ⟨fun w' hxw => ?_, ?_⟩
                   focus (obtain ⟨q0, q1, q2, q3, q4, q5⟩ := F0.out w' hxw; simp only [Nat.zero_add] at q0 q1 q2 q3 q4 q5; go_simp; first | exact rfl | (first | (go_at_call 25; exact (HCR.out w' (X.trans hxw)).mono (fun e w'' h => ⟨h.1, hxw.trans h.2⟩)) | (with_reducible refine (HI1.out w').mono ?_; exact (fun e w'' h => ⟨h.1, hxw.trans h.2⟩)) | (with_reducible refine (HI2.out w').mono ?_; exact (fun e w'' h => ⟨h.1, hxw.trans h.2⟩))))
                   simp only [Act.put, List.setIfInBounds_toArray, List.set_cons_zero, List.set_cons_succ]
                   go_big_quiet_on)))
          refine wpQuiet_nil ?_
          intro w2 hx2
          go_wp2_with fail
          go_ret
          exact ⟨ret_bool HE.out.symm, X.trans hx2⟩
      · have HE : Hid (res = false) := Lib.hid (by rw [HB.out]; simp [h0, h1, h2])
        have d2 : decide (0 ≤ dl) = false := decide_eq_false h2
        clear h0 h1 HB HOF
        go_enter Try.func71, Try.ntmps71
        go_wp2_with fail
        generalize (w.alloc (.cells #[.int .i64 cr, .int .i64 va, .int .i64 dl, .int .i64 dh, .int .i64 cl, .int .i64 ch] 39)) = W at *
        refine wp_region_quiet (C := Ext W) (by kernel_rfl) (by kernel_rfl) (Ext.drew (by (repeat (first | exact Ext.refl _ | (with_reducible assumption) | (with_reducible refine Ext.drew ?_) | (with_reducible refine Ext.alloc ?_ _) | (with_reducible refine Ext.drewN ?_ _) | (with_reducible refine Ext.setCell ?_ (by omega) _) | (with_reducible refine Ext.trans ?_ (by with_reducible assumption)))))) ?_
        rw [show ∀ (l : List Oper), l.toArray.toList = l from fun l => rfl]
        repeat (first
          | go_big_quiet_skip
          | (go_big_quiet_want
             first
              | (go_big_quiet_op; go_big_quiet_on)
              | (apply Exists.intro
                 refine ⟨fun w' hxw => ?_, ?_⟩
                 focus (obtain ⟨q0, q1, q2, q3, q4, q5⟩ := F0.out w' hxw; simp only [Nat.zero_add] at q0 q1 q2 q3 q4 q5; go_simp; first | exact rfl | (first | (go_at_call 25; exact (HCR.out w' (X.trans hxw)).mono (fun e w'' h => ⟨h.1, hxw.trans h.2⟩)) | (with_reducible refine (HI1.out w').mono ?_; exact (fun e w'' h => ⟨h.1, hxw.trans h.2⟩)) | (with_reducible refine (HI2.out w').mono ?_; exact (fun e w'' h => ⟨h.1, hxw.trans h.2⟩))))
                 simp only [Act.put, List.setIfInBounds_toArray, List.set_cons_zero, List.set_cons_succ]
                 go_big_quiet_on)))
        refine wpQuiet_nil ?_
        intro w2 hx2
        go_wp2_with fail
        go_ret
        exact ⟨ret_bool HE.out.symm, X.trans hx2⟩

set_option maxRecDepth 100000 in
theorem claimed_any (v : Value) (l : List Tar) (c : Cla) (w : World) (hv : TarsV w v l) :
    Calls Try.prog 31 #[v, c.u.val] w fun e w' => e = .returned (.int .i64 (askS1 l c)) ∧ Ext w w' := by
  have HFA : Hid (∀ W, Ext w W → Calls Try.prog 22 #[v] W fun e w' => e = .returned (.int .i64 (checkS l)) ∧ Ext W w') := fun W hx => fault_any v l W (hv.ext hx)
  have HIC : Hid (checkS l = 0 → ∀ W, Ext w W → Calls Try.prog 71 #[v, c.u.val] W fun e w' => e = .returned (.bool (claimB l c)) ∧ Ext W w') := fun h W hx => IsClaim_any v l c W (hv.ext hx) (validL_of h).pos
  have HB : Hid (askS1 l c = if checkS l ≠ 0 then checkS l else if claimB l c then 0 else 2) := rfl
  obtain ⟨a, k, rfl, -⟩ := hv
  generalize askS1 l c = res at *
  generalize checkS l = r at *
  generalize claimB l c = cb at *
  obtain ⟨cr, va, dl, dh, cl, ch⟩ := c
  have X : Ext w (w.alloc (.cells #[.int .i64 cr, .int .i64 va, .int .i64 dl, .int .i64 dh, .int .i64 cl, .int .i64 ch] 39)) := by (repeat (first | exact Ext.refl _ | (with_reducible assumption) | (with_reducible refine Ext.drew ?_) | (with_reducible refine Ext.alloc ?_ _) | (with_reducible refine Ext.drewN ?_ _) | (with_reducible refine Ext.setCell ?_ (by omega) _) | (with_reducible refine Ext.trans ?_ (by with_reducible assumption))))
  by_cases h0 : r = 0
  · subst h0
    have HIC' := Lib.hid (HIC.out rfl)
    have HB' : Hid (res = if cb then 0 else 2) := by rw [HB.out]; exact Lib.hid rfl
    clear HIC HB
    cases cb
    all_goals
      go_enter Try.func31, Try.ntmps31
      go_wp2_with fail
      (with_reducible refine (HFA.out _ X).mono ?_)
      rintro e w1 ⟨rfl, hx1⟩
      have q0 := hx1.keep (k := w.heap.size) (o := 0) (v := .int .i64 cr) (by simp)
      have q1 := hx1.keep (k := w.heap.size) (o := 1) (v := .int .i64 va) (by simp)
      have q2 := hx1.keep (k := w.heap.size) (o := 2) (v := .int .i64 dl) (by simp)
      have q3 := hx1.keep (k := w.heap.size) (o := 3) (v := .int .i64 dh) (by simp)
      have q4 := hx1.keep (k := w.heap.size) (o := 4) (v := .int .i64 cl) (by simp)
      have q5 := hx1.keep (k := w.heap.size) (o := 5) (v := .int .i64 ch) (by simp)
      go_wp2_with fail
      (with_reducible refine (HIC'.out _ (X.trans hx1)).mono ?_)
      rintro e w2 ⟨rfl, hx2⟩
      go_wp2_with fail
      go_ret
      exact ⟨ret_int HB'.out.symm, X.trans (hx1.trans hx2)⟩
  · have hd : (r != 0) = true := by rw [bne_iff_ne]; exact h0
    have HB' : Hid (res = r) := by rw [HB.out, if_pos h0]; exact Lib.hid rfl
    clear h0 HB HIC
    go_enter Try.func31, Try.ntmps31
    go_wp2_with fail
    (with_reducible refine (HFA.out _ X).mono ?_)
    rintro e w1 ⟨rfl, hx1⟩
    go_wp2_with fail
    go_ret
    exact ⟨ret_int HB'.out.symm, X.trans hx1⟩
end Go.Proofs.Ytfjecbfcnngacaa
