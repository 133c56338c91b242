/- The walk of TariffPays. -/
import Derived.Test.YtfjecbfcnngacaaBC
import Derived.Test.YtfjecbfcnngacaaBE
import Derived.Test.YtfjecbfcnngacaaAG
import Derived.Test.YtfjecbfcnngacaaOC
namespace Go.Proofs.Ytfjecbfcnngacaa
open Go.RowKit Go.Hs
attribute [local irreducible] World.setCell World.alloc

set_option maxRecDepth 100000 in
set_option maxHeartbeats 4000000 in
theorem walk_TariffPays (v : Value) (l : List Tar) (c : Cla) (t : Int × Int) (pence : Int) (w : World) (hv : TarsW w v l) (_ : ClaOK c) (_ : i64ok t.1 ∧ i64ok t.2) (_ : (Lit.int .i64 pence).wf = true) :
    Calls Try.prog 11 #[v, c.u.val, .agg #[.int .i64 t.1, .int .i64 t.2], .int .i64 pence] w fun e w' => e = .returned (.bool true) ∧ Ext w w' := by
  obtain ⟨d, n⟩ := t
  simp only
  have HAW : Hid (∀ W, Calls Try.prog 19 #[] W fun e w' => e = .returned (.bool true) ∧ Ext W w') := awake_any
  have X : Ext w ((w.alloc (.cells #[.int .i64 c.crop, .int .i64 c.value, .int .i64 c.dlo, .int .i64 c.dhi, .int .i64 c.clo, .int .i64 c.chi] 39)).alloc (.cells #[.int .i64 d, .int .i64 n] 52)) := by (repeat (first | exact Ext.refl _ | (with_reducible assumption) | (with_reducible refine Ext.drew ?_) | (with_reducible refine Ext.alloc ?_ _) | (with_reducible refine Ext.drewN ?_ _) | (with_reducible refine Ext.setCell ?_ (by omega) _) | (with_reducible refine Ext.trans ?_ (by with_reducible assumption))))
  have hth := Thin_any v l _ (hv.ext X)
  cases ht : thinB l with
  | false =>
    rw [ht] at hth
    obtain ⟨a, k, rfl, -⟩ := hv
    obtain ⟨cr, va, dl, dh, cl, ch⟩ := c
    clear ht
    go_enter Try.func11, Try.ntmps11
    go_wp2_with fail
    (with_reducible refine hth.mono ?_)
    rintro e w1 ⟨rfl, rfl⟩
    go_wp2_with fail
    (with_reducible refine (HAW.out _).mono ?_)
    rintro e w2 ⟨rfl, hx2⟩
    go_wp2_with fail
    go_ret
    exact ⟨rfl, X.trans hx2⟩
  | true =>
    rw [ht] at hth
    have hvv := hv.toV ht
    have HTA : Hid (∀ W, Ext w W → Calls Try.prog 21 #[v] W fun e w' => ∃ v', e = .returned v' ∧ TarsV w' v' l ∧ Ext W w') := fun W hx => Tariffs_any v l W (hvv.ext hx) ht
    have HCL : Hid (∀ W, Calls Try.prog 28 #[c.u.val] W fun e w' => e = .returned c.u.val ∧ Ext W w') := fun W => Claim_any c W
    have HTR : Hid (∀ W, Calls Try.prog 34 #[.agg #[.int .i64 d, .int .i64 n]] W fun e w' => e = .returned (.agg #[.int .i64 d, .int .i64 n]) ∧ Ext W w') := fun W => Truth_any d n W
    have HPY : Hid (∀ v' W, TarsV W v' l → Calls Try.prog 43 #[v', c.u.val, .agg #[.int .i64 d, .int .i64 n]] W fun e w' => e = .returned (.tuple #[.int .i64 (payN l c d n), .int .i64 (payE l c d n)]) ∧ Ext W w') := fun v' W h => Pay_any v' l c d n W h
    have HPP : Hid (∀ v' W, TarsV W v' l → Calls Try.prog 45 #[v', c.u.val, .agg #[.int .i64 d, .int .i64 n], .int .i64 pence] W fun e w' => e = .returned (.bool (payE l c d n == 0 && payN l c d n == pence)) ∧ Ext W w') := fun v' W h => ProvePay_any v' l c d n pence W h
    have HCD : Hid (∀ W, Ext w W → Calls Try.prog 31 #[v, c.u.val] W fun e w' => e = .returned (.int .i64 (askS1 l c)) ∧ Ext W w') := fun W hx => claimed_any v l c W (hvv.ext hx)
    have HIT : Hid (∀ W, Calls Try.prog 46 #[c.u.val, .agg #[.int .i64 d, .int .i64 n]] W fun e w' => e = .returned (.bool (truthB c d n)) ∧ Ext W w') := fun W => IsTruth_any c d n W
    have HRP : Hid (askS1 l c = 0 → truthB c d n = true → ∀ W, Ext w W → Calls Try.prog 47 #[v, c.u.val, .agg #[.int .i64 d, .int .i64 n]] W fun e w' => e = .returned (.int .i64 (payS l c d n)) ∧ Ext W w') := fun h ht W hx => by
      obtain ⟨h1, h2⟩ := askS1_zero h
      have hc := claimB_iff.1 h2
      simp only [truthB, Bool.and_eq_true, inR_iff] at ht
      have := hc.day
      have := hc.count
      exact RefPay_any v l c d n W (hvv.ext hx) (validL_of h1) hc (by omega) (by omega) (by omega)
    have HN : Hid (payN l c d n = if askS1 l c = 0 then (if truthB c d n then payS l c d n else 0) else 0) := rfl
    have HE : Hid (payE l c d n = if askS1 l c = 0 then (if truthB c d n then 0 else 2) else askS1 l c) := rfl
    have HB : Hid ((payE l c d n == 0 && payN l c d n == pence) = (payE l c d n == 0 && payN l c d n == pence)) := rfl
    clear hvv ht
    obtain ⟨a, k, rfl, -⟩ := hv
    generalize hbb : (payE l c d n == 0 && payN l c d n == pence) = bb at *
    generalize payN l c d n = pn at *
    generalize payE l c d n = pe at *
    generalize payS l c d n = ps at *
    generalize truthB c d n = tb at *
    generalize askS1 l c = r at *
    have HBB := Lib.hid hbb
    clear hbb HB
    obtain ⟨cr, va, dl, dh, cl, ch⟩ := c
    go_enter Try.func11, Try.ntmps11
    go_wp2_with fail
    (with_reducible refine hth.mono ?_)
    rintro e w1 ⟨rfl, rfl⟩
    clear hth
    have hc0 : Cell6 ((w.alloc (.cells #[.int .i64 cr, .int .i64 va, .int .i64 dl, .int .i64 dh, .int .i64 cl, .int .i64 ch] 39)).alloc (.cells #[.int .i64 d, .int .i64 n] 52)) w.heap.size 0 ⟨.int .i64 cr, .int .i64 va, .int .i64 dl, .int .i64 dh, .int .i64 cl, .int .i64 ch⟩ := by simp [Cell6]
    have ht0 : ((w.alloc (.cells #[.int .i64 cr, .int .i64 va, .int .i64 dl, .int .i64 dh, .int .i64 cl, .int .i64 ch] 39)).alloc (.cells #[.int .i64 d, .int .i64 n] 52)).cell? ⟨w.heap.size + 1, 0, none⟩ = some (.int .i64 d) := by simp
    have ht1 : ((w.alloc (.cells #[.int .i64 cr, .int .i64 va, .int .i64 dl, .int .i64 dh, .int .i64 cl, .int .i64 ch] 39)).alloc (.cells #[.int .i64 d, .int .i64 n] 52)).cell? ⟨w.heap.size + 1, 1, none⟩ = some (.int .i64 n) := by simp
    go_wp2_with fail
    generalize ((w.alloc (.cells #[.int .i64 cr, .int .i64 va, .int .i64 dl, .int .i64 dh, .int .i64 cl, .int .i64 ch] 39)).alloc (.cells #[.int .i64 d, .int .i64 n] 52)) = W at *
    have HS : Hid (∀ w', Ext W w' → (w'.cell? ⟨w.heap.size, 0, none⟩ = some (.int .i64 cr) ∧ w'.cell? ⟨w.heap.size, 1, none⟩ = some (.int .i64 va) ∧ w'.cell? ⟨w.heap.size, 2, none⟩ = some (.int .i64 dl) ∧ w'.cell? ⟨w.heap.size, 3, none⟩ = some (.int .i64 dh) ∧ w'.cell? ⟨w.heap.size, 4, none⟩ = some (.int .i64 cl) ∧ w'.cell? ⟨w.heap.size, 5, none⟩ = some (.int .i64 ch) ∧ w'.cell? ⟨w.heap.size + 1, 0, none⟩ = some (.int .i64 d) ∧ w'.cell? ⟨w.heap.size + 1, 1, none⟩ = some (.int .i64 n)) ∧ Ext W w') :=
      fun w' hx => by
        obtain ⟨q0, q1, q2, q3, q4, q5⟩ := hc0
        simp only [Nat.zero_add] at q0 q1 q2 q3 q4 q5
        exact ⟨⟨hx.keep q0, hx.keep q1, hx.keep q2, hx.keep q3, hx.keep q4, hx.keep q5, hx.keep ht0, hx.keep ht1⟩, hx⟩
    clear hc0 ht0 ht1
    go_region_held3 (fun w' => (w'.cell? ⟨w.heap.size, 0, none⟩ = some (.int .i64 cr) ∧ w'.cell? ⟨w.heap.size, 1, none⟩ = some (.int .i64 va) ∧ w'.cell? ⟨w.heap.size, 2, none⟩ = some (.int .i64 dl) ∧ w'.cell? ⟨w.heap.size, 3, none⟩ = some (.int .i64 dh) ∧ w'.cell? ⟨w.heap.size, 4, none⟩ = some (.int .i64 cl) ∧ w'.cell? ⟨w.heap.size, 5, none⟩ = some (.int .i64 ch) ∧ w'.cell? ⟨w.heap.size + 1, 0, none⟩ = some (.int .i64 d) ∧ w'.cell? ⟨w.heap.size + 1, 1, none⟩ = some (.int .i64 n)) ∧ Ext W w')
      ((refine HS.out _ ?_; (repeat (first | exact Ext.refl _ | (with_reducible assumption) | (with_reducible refine Ext.drew ?_) | (with_reducible refine Ext.alloc ?_ _) | (with_reducible refine Ext.drewN ?_ _) | (with_reducible refine Ext.setCell ?_ (by omega) _) | (with_reducible refine Ext.trans ?_ (by with_reducible assumption))))))
      (first
        | (go_at_call 21; (refine (HTA.out _ (by (repeat (first | exact Ext.refl _ | (with_reducible assumption) | (with_reducible refine Ext.drew ?_) | (with_reducible refine Ext.alloc ?_ _) | (with_reducible refine Ext.drewN ?_ _) | (with_reducible refine Ext.setCell ?_ (by omega) _) | (with_reducible refine Ext.trans ?_ (by with_reducible assumption)))))).mono ?_); rintro e w3 ⟨v3, rfl, hv3, hx3⟩)
        | (go_at_call 28; (refine (HCL.out _).mono ?_); rintro e w4 ⟨rfl, hx4⟩)
        | (go_at_call 34; (refine (HTR.out _).mono ?_); rintro e w5 ⟨rfl, hx5⟩)
        | (go_at_call 43; (refine (HPY.out _ _ (hv3.ext (by (repeat (first | exact Ext.refl _ | (with_reducible assumption) | (with_reducible refine Ext.drew ?_) | (with_reducible refine Ext.alloc ?_ _) | (with_reducible refine Ext.drewN ?_ _) | (with_reducible refine Ext.setCell ?_ (by omega) _) | (with_reducible refine Ext.trans ?_ (by with_reducible assumption))))))).mono ?_); rintro e w6 ⟨rfl, hx6⟩))
    have X6 : Ext W w6 := by (repeat (first | exact Ext.refl _ | (with_reducible assumption) | (with_reducible refine Ext.drew ?_) | (with_reducible refine Ext.alloc ?_ _) | (with_reducible refine Ext.drewN ?_ _) | (with_reducible refine Ext.setCell ?_ (by omega) _) | (with_reducible refine Ext.trans ?_ (by with_reducible assumption))))
    clear hv3 hx3 hx4 hx5 hx6
    go_wp2_with fail
    go_region_held3 (fun w' => (w'.cell? ⟨w.heap.size, 0, none⟩ = some (.int .i64 cr) ∧ w'.cell? ⟨w.heap.size, 1, none⟩ = some (.int .i64 va) ∧ w'.cell? ⟨w.heap.size, 2, none⟩ = some (.int .i64 dl) ∧ w'.cell? ⟨w.heap.size, 3, none⟩ = some (.int .i64 dh) ∧ w'.cell? ⟨w.heap.size, 4, none⟩ = some (.int .i64 cl) ∧ w'.cell? ⟨w.heap.size, 5, none⟩ = some (.int .i64 ch) ∧ w'.cell? ⟨w.heap.size + 1, 0, none⟩ = some (.int .i64 d) ∧ w'.cell? ⟨w.heap.size + 1, 1, none⟩ = some (.int .i64 n)) ∧ Ext W w')
      ((refine HS.out _ ?_; (repeat (first | exact Ext.refl _ | (with_reducible assumption) | (with_reducible refine Ext.drew ?_) | (with_reducible refine Ext.alloc ?_ _) | (with_reducible refine Ext.drewN ?_ _) | (with_reducible refine Ext.setCell ?_ (by omega) _) | (with_reducible refine Ext.trans ?_ (by with_reducible assumption))))))
      (first
        | (go_at_call 21; (refine (HTA.out _ (by (repeat (first | exact Ext.refl _ | (with_reducible assumption) | (with_reducible refine Ext.drew ?_) | (with_reducible refine Ext.alloc ?_ _) | (with_reducible refine Ext.drewN ?_ _) | (with_reducible refine Ext.setCell ?_ (by omega) _) | (with_reducible refine Ext.trans ?_ (by with_reducible assumption)))))).mono ?_); rintro e w3 ⟨v3, rfl, hv3, hx3⟩)
        | (go_at_call 28; (refine (HCL.out _).mono ?_); rintro e w4 ⟨rfl, hx4⟩)
        | (go_at_call 34; (refine (HTR.out _).mono ?_); rintro e w5 ⟨rfl, hx5⟩)
        | (go_at_call 45; (refine (HPP.out _ _ (hv3.ext (by (repeat (first | exact Ext.refl _ | (with_reducible assumption) | (with_reducible refine Ext.drew ?_) | (with_reducible refine Ext.alloc ?_ _) | (with_reducible refine Ext.drewN ?_ _) | (with_reducible refine Ext.setCell ?_ (by omega) _) | (with_reducible refine Ext.trans ?_ (by with_reducible assumption))))))).mono ?_); rintro e w7 ⟨rfl, hx7⟩))
    have X7 : Ext W w7 := by (repeat (first | exact Ext.refl _ | (with_reducible assumption) | (with_reducible refine Ext.drew ?_) | (with_reducible refine Ext.alloc ?_ _) | (with_reducible refine Ext.drewN ?_ _) | (with_reducible refine Ext.setCell ?_ (by omega) _) | (with_reducible refine Ext.trans ?_ (by with_reducible assumption))))
    clear hv3 hx3 hx4 hx5 hx7 X6
    obtain ⟨⟨q0, q1, q2, q3, q4, q5, q6, q7⟩, -⟩ := HS.out w7 X7
    go_wp2_with fail
    (with_reducible refine (HCD.out _ (X.trans X7)).mono ?_)
    rintro e w8 ⟨rfl, hx8⟩
    have X8 := X7.trans hx8
    clear X7 hx8 q0 q1 q2 q3 q4 q5 q6 q7
    obtain ⟨⟨q0, q1, q2, q3, q4, q5, q6, q7⟩, -⟩ := HS.out w8 X8
    by_cases h0 : r = 0
    · subst h0
      have HN' : Hid (pn = if tb then ps else 0) := by rw [HN.out]; exact Lib.hid rfl
      have HE' : Hid (pe = if tb then 0 else 2) := by rw [HE.out]; exact Lib.hid rfl
      have HRP' := Lib.hid (HRP.out rfl)
      clear HN HE HRP
      go_wp2_with fail
      (with_reducible refine (HIT.out _).mono ?_)
      rintro e w9 ⟨rfl, hx9⟩
      have X9 := X8.trans hx9
      clear q0 q1 q2 q3 q4 q5 q6 q7
      obtain ⟨⟨q0, q1, q2, q3, q4, q5, q6, q7⟩, -⟩ := HS.out w9 X9
      cases tb with
      | false =>
        obtain rfl : pn = 0 := HN'.out
        obtain rfl : pe = 2 := HE'.out
        obtain rfl : bb = false := HBB.out.symm
        clear HN' HE' HRP'
        go_wp2_with fail
        (with_reducible refine (HAW.out _).mono ?_)
        rintro e w10 ⟨rfl, hx10⟩
        go_wp2_with fail
        go_ret
        exact ⟨rfl, X.trans (X9.trans hx10)⟩
      | true =>
        obtain rfl : pn = ps := HN'.out
        obtain rfl : pe = 0 := HE'.out
        have hbp : bb = (pn == pence) := by rw [← HBB.out]; simp
        subst hbp
        have hrp := HRP'.out rfl w9 (X.trans X9)
        clear HN' HE' HRP'
        go_wp2_with fail
        (with_reducible refine hrp.mono ?_)
        rintro e w10 ⟨rfl, hx10⟩
        clear hrp
        go_wp2_with fail
        (with_reducible refine (HAW.out _).mono ?_)
        rintro e w11 ⟨rfl, hx11⟩
        go_wp2_with fail
        go_ret
        exact ⟨rfl, X.trans (X9.trans (hx10.trans hx11))⟩
    · obtain rfl : pn = 0 := by rw [HN.out, if_neg h0]
      obtain rfl : pe = r := by rw [HE.out, if_neg h0]
      obtain rfl : bb = false := by rw [← HBB.out]; simp [h0]
      have hb1 : (pe == 0) = false := by rw [beq_eq_false_iff_ne]; exact h0
      have hb2 : (pe != 0) = true := by rw [bne_iff_ne]; exact h0
      clear HN HE HRP h0
      go_wp2_with fail
      (with_reducible refine (HAW.out _).mono ?_)
      rintro e w9 ⟨rfl, hx9⟩
      go_wp2_with fail
      go_ret
      exact ⟨rfl, X.trans (X8.trans hx9)⟩
end Go.Proofs.Ytfjecbfcnngacaa
