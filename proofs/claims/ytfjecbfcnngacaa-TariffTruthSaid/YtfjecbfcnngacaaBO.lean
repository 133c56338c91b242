/- The walk of TariffTruth. -/
import Derived.Test.YtfjecbfcnngacaaBN
import Derived.Test.YtfjecbfcnngacaaBG
namespace Go.Proofs.Ytfjecbfcnngacaa
open Go.RowKit Go.Hs
attribute [local irreducible] World.setCell World.alloc

theorem fine_ask {l : List Tar} {c : Cla} (h : fineB l c = true) : askS1 l c = 0 := by
  simp only [fineB, Bool.and_eq_true, beq_iff_eq] at h
  exact h.2
set_option maxRecDepth 100000 in
set_option maxHeartbeats 8000000 in
theorem walk_TariffTruth (v : Value) (l : List Tar) (c : Cla) (day count : Int) (w : World) (hv : TarsW w v l) (_ : ClaOK c) (g1 : (Lit.int .u8 day).wf = true) (g2 : (Lit.int .u8 count).wf = true) :
    Calls Try.prog 12 #[v, c.u.val, .int .u8 day, .int .u8 count] w fun e w' => e = .returned (.bool true) ∧ Ext w w' := by
  have HAW : Hid (∀ W, Calls Try.prog 19 #[] W fun e w' => e = .returned (.bool true) ∧ Ext W w') := awake_any
  obtain ⟨b3, b4⟩ := u8_bounds' g1
  obtain ⟨b5, b6⟩ := u8_bounds' g2
  clear g1 g2
  have X : Ext w (w.alloc (.cells #[.int .i64 c.crop, .int .i64 c.value, .int .i64 c.dlo, .int .i64 c.dhi, .int .i64 c.clo, .int .i64 c.chi] 39)) := by (repeat (first | exact Ext.refl _ | (with_reducible assumption) | (with_reducible refine Ext.drew ?_) | (with_reducible refine Ext.alloc ?_ _) | (with_reducible refine Ext.drewN ?_ _) | (with_reducible refine Ext.setCell ?_ (by omega) _) | (with_reducible refine Ext.trans ?_ (by with_reducible assumption))))
  have hfi := fine_any v l c _ (hv.ext X)
  cases ht : fineB l c with
  | false =>
    rw [ht] at hfi
    obtain ⟨a, k, rfl, -⟩ := hv
    obtain ⟨cr, va, dl, dh, cl, ch⟩ := c
    clear ht
    go_enter Try.func12, Try.ntmps12
    go_wp2_with fail
    (with_reducible refine hfi.mono ?_)
    rintro e w1 ⟨rfl, hx1⟩
    go_wp2_with fail
    (with_reducible refine (HAW.out _).mono ?_)
    rintro e w2 ⟨rfl, hx2⟩
    go_wp2_with fail
    go_ret
    exact ⟨rfl, X.trans (hx1.trans hx2)⟩
  | true =>
    rw [ht] at hfi
    obtain ⟨hth, hl, hc⟩ := fine_of ht
    have h0 := fine_ask ht
    have hvv := hv.toV hth
    have hsp := ends_spec (l := l) hc
    have hso := ends_order hl hc
    have hday := hc.day
    have hcnt := hc.count
    have pd := pick_bd hday.2.1 b3
    have pn := pick_bd hcnt.2.1 b5
    have htr : truthB c (pickX c.dlo c.dhi day) (pickX c.clo c.chi count) = true := truthB_iff.2 ⟨pd, pn⟩
    have hall := hsp.all _ _ htr
    have HPK : Hid (∀ W, Calls Try.prog 42 #[c.u.val, .int .u8 day, .int .u8 count] W fun e w' => e = .returned (.agg #[.int .i64 (pickX c.dlo c.dhi day), .int .i64 (pickX c.clo c.chi count)]) ∧ Ext W w') := fun W => picked_any l c day count W hc b3 b4 b5 b6
    have HTA : Hid (∀ W, Ext w W → Calls Try.prog 21 #[v] W fun e w' => ∃ v', e = .returned v' ∧ TarsV w' v' l ∧ Ext W w') := fun W hx => Tariffs_any v l W (hvv.ext hx) hth
    have HCL : Hid (∀ W, Calls Try.prog 28 #[c.u.val] W fun e w' => e = .returned c.u.val ∧ Ext W w') := fun W => Claim_any c W
    have HTR : Hid (∀ a b W, Calls Try.prog 34 #[.agg #[.int .i64 a, .int .i64 b]] W fun e w' => e = .returned (.agg #[.int .i64 a, .int .i64 b]) ∧ Ext W w') := Truth_any
    have HPY : Hid (∀ v' W, TarsV W v' l → Calls Try.prog 43 #[v', c.u.val, .agg #[.int .i64 (pickX c.dlo c.dhi day), .int .i64 (pickX c.clo c.chi count)]] W fun e w' => e = .returned (.tuple #[.int .i64 (payS l c (pickX c.dlo c.dhi day) (pickX c.clo c.chi count)), .int .i64 0]) ∧ Ext W w') := fun v' W h => by
      have := Pay_any v' l c (pickX c.dlo c.dhi day) (pickX c.clo c.chi count) W h
      unfold payN payE at this
      rw [if_pos h0, if_pos h0, if_pos htr, if_pos htr] at this
      exact this
    have HPP : Hid (∀ d n p, truthB c d n = true → payS l c d n = p → ∀ v' W, TarsV W v' l → Calls Try.prog 45 #[v', c.u.val, .agg #[.int .i64 d, .int .i64 n], .int .i64 p] W fun e w' => e = .returned (.bool true) ∧ Ext W w') := fun d n p ht hp v' W h => by
      have := ProvePay_any v' l c d n p W h
      unfold payN payE at this
      rw [if_pos h0, if_pos h0, if_pos ht, if_pos ht, hp] at this
      simpa using this
    have HP0 := Lib.hid (HPP.out _ _ _ hsp.low.1 hsp.low.2)
    have HP1 := Lib.hid (HPP.out _ _ _ hsp.high.1 hsp.high.2)
    have HBO : Hid (∀ v' W, TarsV W v' l → Calls Try.prog 27 #[v', c.u.val] W fun e w' => e = .returned (.tuple #[.agg #[.int .i64 (endsS l c).lo, .int .i64 (endsS l c).hi], .int .i64 0]) ∧ Ext W w') := fun v' W h => by
      have := BoundsQ_any v' l c W h
      unfold bLo bHi at this
      rw [if_pos h0, if_pos h0, h0] at this
      exact this
    have HS0 : Hid (∀ v' W, TarsV W v' l → Calls Try.prog 29 #[v', c.u.val, .bool false] W fun e w' => e = .returned (.tuple #[.agg #[.int .i64 (endsS l c).ld, .int .i64 (endsS l c).ln], .int .i64 0]) ∧ Ext W w') := fun v' W h => by
      have := ShowQ_any v' l c false W h
      unfold sD sN at this
      rw [if_pos h0, if_pos h0, h0] at this
      exact this
    have HS1 : Hid (∀ v' W, TarsV W v' l → Calls Try.prog 29 #[v', c.u.val, .bool true] W fun e w' => e = .returned (.tuple #[.agg #[.int .i64 (endsS l c).hd, .int .i64 (endsS l c).hn], .int .i64 0]) ∧ Ext W w') := fun v' W h => by
      have := ShowQ_any v' l c true W h
      unfold sD sN at this
      rw [if_pos h0, if_pos h0, h0] at this
      exact this
    have HPD : Hid (∀ v' W, TarsV W v' l → Calls Try.prog 30 #[v', c.u.val] W fun e w' => e = .returned (.tuple #[.int .i64 (verdictS (endsS l c).lo (endsS l c).hi), .int .i64 0]) ∧ Ext W w') := fun v' W h => by
      have := PaidQ_any v' l c W h
      unfold vD at this
      rw [if_pos h0, h0] at this
      exact this
    have HVE : Hid ((verdictS (endsS l c).lo (endsS l c).hi = 1 ∧ 0 < (endsS l c).lo) ∨ (verdictS (endsS l c).lo (endsS l c).hi = 2 ∧ (endsS l c).hi ≤ 0) ∨ verdictS (endsS l c).lo (endsS l c).hi = 3) := Lib.hid (by
      unfold verdictS
      by_cases a1 : 0 < (endsS l c).lo
      · rw [if_pos a1]; exact .inl ⟨rfl, a1⟩
      · rw [if_neg a1]
        by_cases a2 : 0 < (endsS l c).hi
        · rw [if_pos a2]; exact .inr (.inr rfl)
        · rw [if_neg a2]; exact .inr (.inl ⟨rfl, by omega⟩))
    have HIN : Hid (∀ n W, inR n 1 3 = true → Calls Try.prog 24 #[.int .i64 n, .int .i64 1, .int .i64 3] W fun e w' => e = .returned (.bool true) ∧ W = w') := fun n W h => by
      have := In_any n 1 3 W
      rw [h] at this
      exact this
    clear hvv ht hth hl hc h0 hsp htr pd pn HPP hday hcnt b3 b4 b5 b6
    obtain ⟨a, k, rfl, -⟩ := hv
    generalize verdictS (endsS l c).lo (endsS l c).hi = ve at *
    generalize payS l c (pickX c.dlo c.dhi day) (pickX c.clo c.chi count) = py at *
    generalize pickX c.dlo c.dhi day = d0 at *
    generalize pickX c.clo c.chi count = n0 at *
    generalize (endsS l c).lo = elo at *
    generalize (endsS l c).hi = ehi at *
    generalize (endsS l c).ld = eld at *
    generalize (endsS l c).ln = eln at *
    generalize (endsS l c).hd = ehd at *
    generalize (endsS l c).hn = ehn at *
    obtain ⟨cr, va, dl, dh, cl, ch⟩ := c
    have hc0 : Cell6 (w.alloc (.cells #[.int .i64 cr, .int .i64 va, .int .i64 dl, .int .i64 dh, .int .i64 cl, .int .i64 ch] 39)) w.heap.size 0 ⟨.int .i64 cr, .int .i64 va, .int .i64 dl, .int .i64 dh, .int .i64 cl, .int .i64 ch⟩ := by simp [Cell6]
    go_enter Try.func12, Try.ntmps12
    go_wp2_with fail
    (with_reducible refine hfi.mono ?_)
    rintro e w1 ⟨rfl, hx1⟩
    clear hfi
    have X1 : Ext w w1 := X.trans hx1
    have hc1 := Cell6.ext hx1 _ _ _ hc0
    simp only [Cell6, Nat.zero_add] at hc1
    obtain ⟨q0, q1, q2, q3, q4, q5⟩ := hc1
    clear hc0
    go_wp2_with fail
    (with_reducible refine (HPK.out _).mono ?_)
    rintro e w2 ⟨rfl, hx2⟩
    go_wp2_with fail
    go_upto_region 4 with fail
    generalize hWA : w2.alloc (.cells #[.int .i64 d0, .int .i64 n0] 52) = WA at *
    generalize hT0 : w2.heap.size = T0 at *
    have hx2' : Ext w1 WA := by rw [← hWA]; (repeat (first | exact Ext.refl _ | (with_reducible assumption) | (with_reducible refine Ext.drew ?_) | (with_reducible refine Ext.alloc ?_ _) | (with_reducible refine Ext.drewN ?_ _) | (with_reducible refine Ext.setCell ?_ (by omega) _) | (with_reducible refine Ext.trans ?_ (by with_reducible assumption))))
    have t0 : WA.cell? ⟨T0, 0, none⟩ = some (.int .i64 d0) := by rw [← hWA, ← hT0]; simp
    have t1 : WA.cell? ⟨T0, 1, none⟩ = some (.int .i64 n0) := by rw [← hWA, ← hT0]; simp
    have XWA : Ext w WA := X1.trans hx2'
    have cWA := And.intro (hx2'.keep q0) (And.intro (hx2'.keep q1) (And.intro (hx2'.keep q2) (And.intro (hx2'.keep q3) (And.intro (hx2'.keep q4) (And.intro (hx2'.keep q5) (And.intro t0 t1))))))
    have HSSWA : Hid (∀ w', Ext WA w' → (w'.cell? ⟨w.heap.size, 0, none⟩ = some (.int .i64 cr) ∧ w'.cell? ⟨w.heap.size, 1, none⟩ = some (.int .i64 va) ∧ w'.cell? ⟨w.heap.size, 2, none⟩ = some (.int .i64 dl) ∧ w'.cell? ⟨w.heap.size, 3, none⟩ = some (.int .i64 dh) ∧ w'.cell? ⟨w.heap.size, 4, none⟩ = some (.int .i64 cl) ∧ w'.cell? ⟨w.heap.size, 5, none⟩ = some (.int .i64 ch) ∧ w'.cell? ⟨T0, 0, none⟩ = some (.int .i64 d0) ∧ w'.cell? ⟨T0, 1, none⟩ = some (.int .i64 n0)) ∧ Ext WA w') := fun w' hx => ⟨⟨hx.keep cWA.1, hx.keep cWA.2.1, hx.keep cWA.2.2.1, hx.keep cWA.2.2.2.1, hx.keep cWA.2.2.2.2.1, hx.keep cWA.2.2.2.2.2.1, hx.keep cWA.2.2.2.2.2.2.1, hx.keep cWA.2.2.2.2.2.2.2⟩, hx⟩
    clear cWA hWA hT0 hx2 hx2' t0 t1 q0 q1 q2 q3 q4 q5 hx1 X1
    go_region_held3 (fun w' => (w'.cell? ⟨w.heap.size, 0, none⟩ = some (.int .i64 cr) ∧ w'.cell? ⟨w.heap.size, 1, none⟩ = some (.int .i64 va) ∧ w'.cell? ⟨w.heap.size, 2, none⟩ = some (.int .i64 dl) ∧ w'.cell? ⟨w.heap.size, 3, none⟩ = some (.int .i64 dh) ∧ w'.cell? ⟨w.heap.size, 4, none⟩ = some (.int .i64 cl) ∧ w'.cell? ⟨w.heap.size, 5, none⟩ = some (.int .i64 ch) ∧ w'.cell? ⟨T0, 0, none⟩ = some (.int .i64 d0) ∧ w'.cell? ⟨T0, 1, none⟩ = some (.int .i64 n0)) ∧ Ext WA w')
      ((refine HSSWA.out _ ?_; (repeat (first | exact Ext.refl _ | (with_reducible assumption) | (with_reducible refine Ext.drew ?_) | (with_reducible refine Ext.alloc ?_ _) | (with_reducible refine Ext.drewN ?_ _) | (with_reducible refine Ext.setCell ?_ (by omega) _) | (with_reducible refine Ext.trans ?_ (by with_reducible assumption))))))
      (first
        | (go_at_call 21; (refine (HTA.out _ (by (repeat (first | exact Ext.refl _ | (with_reducible assumption) | (with_reducible refine Ext.drew ?_) | (with_reducible refine Ext.alloc ?_ _) | (with_reducible refine Ext.drewN ?_ _) | (with_reducible refine Ext.setCell ?_ (by omega) _) | (with_reducible refine Ext.trans ?_ (by with_reducible assumption)))))).mono ?_); rintro e w3 ⟨v3, rfl, hv3, hx3⟩)
        | (go_at_call 28; (refine (HCL.out _).mono ?_); rintro e w4 ⟨rfl, hx4⟩)
        | (go_at_call 34; (refine (HTR.out _ _ _).mono ?_); rintro e w6 ⟨rfl, hx6⟩)
        | (go_at_call 43; (refine (HPY.out _ _ (hv3.ext (by (repeat (first | exact Ext.refl _ | (with_reducible assumption) | (with_reducible refine Ext.drew ?_) | (with_reducible refine Ext.alloc ?_ _) | (with_reducible refine Ext.drewN ?_ _) | (with_reducible refine Ext.setCell ?_ (by omega) _) | (with_reducible refine Ext.trans ?_ (by with_reducible assumption))))))).mono ?_); rintro e WB ⟨rfl, hx5⟩))
    have QWB : Ext WA WB := by (repeat (first | exact Ext.refl _ | (with_reducible assumption) | (with_reducible refine Ext.drew ?_) | (with_reducible refine Ext.alloc ?_ _) | (with_reducible refine Ext.drewN ?_ _) | (with_reducible refine Ext.setCell ?_ (by omega) _) | (with_reducible refine Ext.trans ?_ (by with_reducible assumption))))
    have cWB := (HSSWA.out WB QWB).1
    have HSSWB : Hid (∀ w', Ext WB w' → (w'.cell? ⟨w.heap.size, 0, none⟩ = some (.int .i64 cr) ∧ w'.cell? ⟨w.heap.size, 1, none⟩ = some (.int .i64 va) ∧ w'.cell? ⟨w.heap.size, 2, none⟩ = some (.int .i64 dl) ∧ w'.cell? ⟨w.heap.size, 3, none⟩ = some (.int .i64 dh) ∧ w'.cell? ⟨w.heap.size, 4, none⟩ = some (.int .i64 cl) ∧ w'.cell? ⟨w.heap.size, 5, none⟩ = some (.int .i64 ch) ∧ w'.cell? ⟨T0, 0, none⟩ = some (.int .i64 d0) ∧ w'.cell? ⟨T0, 1, none⟩ = some (.int .i64 n0)) ∧ Ext WB w') := fun w' hx => ⟨⟨hx.keep cWB.1, hx.keep cWB.2.1, hx.keep cWB.2.2.1, hx.keep cWB.2.2.2.1, hx.keep cWB.2.2.2.2.1, hx.keep cWB.2.2.2.2.2.1, hx.keep cWB.2.2.2.2.2.2.1, hx.keep cWB.2.2.2.2.2.2.2⟩, hx⟩
    clear cWB hv3 hx3 hx4 hx5 hx6
    have XWB : Ext w WB := XWA.trans QWB
    go_wp2_with fail
    go_upto_region 5 with fail
    go_cut [12, 13] from 39 to 46 (fun sA sB wx => ∃ T, sA = .pointer (some ⟨T, 0, none⟩) ∧ sB = .int .i64 0 ∧ BoxI WB T elo ehi wx)
    case first =>
      go_region_held3 (fun w' => (w'.cell? ⟨w.heap.size, 0, none⟩ = some (.int .i64 cr) ∧ w'.cell? ⟨w.heap.size, 1, none⟩ = some (.int .i64 va) ∧ w'.cell? ⟨w.heap.size, 2, none⟩ = some (.int .i64 dl) ∧ w'.cell? ⟨w.heap.size, 3, none⟩ = some (.int .i64 dh) ∧ w'.cell? ⟨w.heap.size, 4, none⟩ = some (.int .i64 cl) ∧ w'.cell? ⟨w.heap.size, 5, none⟩ = some (.int .i64 ch) ∧ w'.cell? ⟨T0, 0, none⟩ = some (.int .i64 d0) ∧ w'.cell? ⟨T0, 1, none⟩ = some (.int .i64 n0)) ∧ Ext WB w')
        ((refine HSSWB.out _ ?_; (repeat (first | exact Ext.refl _ | (with_reducible assumption) | (with_reducible refine Ext.drew ?_) | (with_reducible refine Ext.alloc ?_ _) | (with_reducible refine Ext.drewN ?_ _) | (with_reducible refine Ext.setCell ?_ (by omega) _) | (with_reducible refine Ext.trans ?_ (by with_reducible assumption))))))
        (first
          | (go_at_call 21; (refine (HTA.out _ (by (repeat (first | exact Ext.refl _ | (with_reducible assumption) | (with_reducible refine Ext.drew ?_) | (with_reducible refine Ext.alloc ?_ _) | (with_reducible refine Ext.drewN ?_ _) | (with_reducible refine Ext.setCell ?_ (by omega) _) | (with_reducible refine Ext.trans ?_ (by with_reducible assumption)))))).mono ?_); rintro e w3 ⟨v3, rfl, hv3, hx3⟩; have s3 := hx3.size; (try simp at s3); (first | have Z := ZB.new hx3 | have Z := ZB.newd hx3 | skip))
          | (go_at_call 28; (refine (HCL.out _).mono ?_); rintro e w4 ⟨rfl, hx4⟩; have s4 := hx4.size; (try simp at s4); (first | have Z := ZB.new hx4 | have Z := Z.keep hx4 | skip))
          | (go_at_call 27; (refine (HBO.out _ _ (hv3.ext (by (repeat (first | exact Ext.refl _ | (with_reducible assumption) | (with_reducible refine Ext.drew ?_) | (with_reducible refine Ext.alloc ?_ _) | (with_reducible refine Ext.drewN ?_ _) | (with_reducible refine Ext.setCell ?_ (by omega) _) | (with_reducible refine Ext.trans ?_ (by with_reducible assumption))))))).mono ?_); rintro e w5 ⟨rfl, hx5⟩; have s5 := hx5.size; (try simp at s5); (first | have Z := ZB.new hx5 | have Z := Z.keep hx5 | skip); (first | (have z0 := Z.z0; have z1 := Z.z1; have f0 := Z.f0; have f1 := Z.f1) | skip)))
      all_goals
        go_wp2_with fail
        go_meet
        first
          | exact ⟨_, rfl, rfl, BoxI.stored Z (by (repeat (first | exact Ext.refl _ | (with_reducible assumption) | (with_reducible refine Ext.drew ?_) | (with_reducible refine Ext.alloc ?_ _) | (with_reducible refine Ext.drewN ?_ _) | (with_reducible refine Ext.setCell ?_ (by omega) _) | (with_reducible refine Ext.trans ?_ (by with_reducible assumption))))) (by omega)⟩
          | exact ⟨_, rfl, rfl, BoxI.made (by (repeat (first | exact Ext.refl _ | (with_reducible assumption) | (with_reducible refine Ext.drew ?_) | (with_reducible refine Ext.alloc ?_ _) | (with_reducible refine Ext.drewN ?_ _) | (with_reducible refine Ext.setCell ?_ (by omega) _) | (with_reducible refine Ext.trans ?_ (by with_reducible assumption))))) _ _ _⟩
    case rest =>
      obtain ⟨T1, rfl, rfl, hbT1⟩ := hcut
      have HBT1 := Lib.hid hbT1
      obtain ⟨WC, rfl⟩ : ∃ x, x = wc := ⟨_, rfl⟩
      have cT1 := (HSSWB.out WC hbT1.ext).1
      have HSSWC : Hid (∀ w', Ext WC w' → (w'.cell? ⟨w.heap.size, 0, none⟩ = some (.int .i64 cr) ∧ w'.cell? ⟨w.heap.size, 1, none⟩ = some (.int .i64 va) ∧ w'.cell? ⟨w.heap.size, 2, none⟩ = some (.int .i64 dl) ∧ w'.cell? ⟨w.heap.size, 3, none⟩ = some (.int .i64 dh) ∧ w'.cell? ⟨w.heap.size, 4, none⟩ = some (.int .i64 cl) ∧ w'.cell? ⟨w.heap.size, 5, none⟩ = some (.int .i64 ch) ∧ w'.cell? ⟨T0, 0, none⟩ = some (.int .i64 d0) ∧ w'.cell? ⟨T0, 1, none⟩ = some (.int .i64 n0)) ∧ Ext WC w') := fun w' hx => ⟨⟨hx.keep cT1.1, hx.keep cT1.2.1, hx.keep cT1.2.2.1, hx.keep cT1.2.2.2.1, hx.keep cT1.2.2.2.2.1, hx.keep cT1.2.2.2.2.2.1, hx.keep cT1.2.2.2.2.2.2.1, hx.keep cT1.2.2.2.2.2.2.2⟩, hx⟩
      clear cT1 hbT1
      have XWC : Ext w WC := XWB.trans HBT1.out.ext
      go_wp2_with fail
      go_region_held3 (fun w' => (w'.cell? ⟨w.heap.size, 0, none⟩ = some (.int .i64 cr) ∧ w'.cell? ⟨w.heap.size, 1, none⟩ = some (.int .i64 va) ∧ w'.cell? ⟨w.heap.size, 2, none⟩ = some (.int .i64 dl) ∧ w'.cell? ⟨w.heap.size, 3, none⟩ = some (.int .i64 dh) ∧ w'.cell? ⟨w.heap.size, 4, none⟩ = some (.int .i64 cl) ∧ w'.cell? ⟨w.heap.size, 5, none⟩ = some (.int .i64 ch) ∧ w'.cell? ⟨T0, 0, none⟩ = some (.int .i64 d0) ∧ w'.cell? ⟨T0, 1, none⟩ = some (.int .i64 n0)) ∧ Ext WC w')
        ((refine HSSWC.out _ ?_; (repeat (first | exact Ext.refl _ | (with_reducible assumption) | (with_reducible refine Ext.drew ?_) | (with_reducible refine Ext.alloc ?_ _) | (with_reducible refine Ext.drewN ?_ _) | (with_reducible refine Ext.setCell ?_ (by omega) _) | (with_reducible refine Ext.trans ?_ (by with_reducible assumption))))))
        (first
          | (go_at_call 21; (refine (HTA.out _ (by (repeat (first | exact Ext.refl _ | (with_reducible assumption) | (with_reducible refine Ext.drew ?_) | (with_reducible refine Ext.alloc ?_ _) | (with_reducible refine Ext.drewN ?_ _) | (with_reducible refine Ext.setCell ?_ (by omega) _) | (with_reducible refine Ext.trans ?_ (by with_reducible assumption)))))).mono ?_); rintro e w3 ⟨v3, rfl, hv3, hx3⟩)
          | (go_at_call 28; (refine (HCL.out _).mono ?_); rintro e w4 ⟨rfl, hx4⟩)
          | (go_at_call 30; (refine (HPD.out _ _ (hv3.ext (by (repeat (first | exact Ext.refl _ | (with_reducible assumption) | (with_reducible refine Ext.drew ?_) | (with_reducible refine Ext.alloc ?_ _) | (with_reducible refine Ext.drewN ?_ _) | (with_reducible refine Ext.setCell ?_ (by omega) _) | (with_reducible refine Ext.trans ?_ (by with_reducible assumption))))))).mono ?_); rintro e WD ⟨rfl, hx5⟩))
      have QWD : Ext WC WD := by (repeat (first | exact Ext.refl _ | (with_reducible assumption) | (with_reducible refine Ext.drew ?_) | (with_reducible refine Ext.alloc ?_ _) | (with_reducible refine Ext.drewN ?_ _) | (with_reducible refine Ext.setCell ?_ (by omega) _) | (with_reducible refine Ext.trans ?_ (by with_reducible assumption))))
      have cWD := (HSSWC.out WD QWD).1
      have HSSWD : Hid (∀ w', Ext WD w' → (w'.cell? ⟨w.heap.size, 0, none⟩ = some (.int .i64 cr) ∧ w'.cell? ⟨w.heap.size, 1, none⟩ = some (.int .i64 va) ∧ w'.cell? ⟨w.heap.size, 2, none⟩ = some (.int .i64 dl) ∧ w'.cell? ⟨w.heap.size, 3, none⟩ = some (.int .i64 dh) ∧ w'.cell? ⟨w.heap.size, 4, none⟩ = some (.int .i64 cl) ∧ w'.cell? ⟨w.heap.size, 5, none⟩ = some (.int .i64 ch) ∧ w'.cell? ⟨T0, 0, none⟩ = some (.int .i64 d0) ∧ w'.cell? ⟨T0, 1, none⟩ = some (.int .i64 n0)) ∧ Ext WD w') := fun w' hx => ⟨⟨hx.keep cWD.1, hx.keep cWD.2.1, hx.keep cWD.2.2.1, hx.keep cWD.2.2.2.1, hx.keep cWD.2.2.2.2.1, hx.keep cWD.2.2.2.2.2.1, hx.keep cWD.2.2.2.2.2.2.1, hx.keep cWD.2.2.2.2.2.2.2⟩, hx⟩
      clear cWD hv3 hx3 hx4 hx5
      have XWD : Ext w WD := XWC.trans QWD
      go_wp2_with fail
      go_upto_region 7 with fail
      go_cut [16, 17] from 55 to 62 (fun sA sB wx => ∃ T, sA = .pointer (some ⟨T, 0, none⟩) ∧ sB = .int .i64 0 ∧ BoxI WD T eld eln wx)
      case first =>
        go_region_held3 (fun w' => (w'.cell? ⟨w.heap.size, 0, none⟩ = some (.int .i64 cr) ∧ w'.cell? ⟨w.heap.size, 1, none⟩ = some (.int .i64 va) ∧ w'.cell? ⟨w.heap.size, 2, none⟩ = some (.int .i64 dl) ∧ w'.cell? ⟨w.heap.size, 3, none⟩ = some (.int .i64 dh) ∧ w'.cell? ⟨w.heap.size, 4, none⟩ = some (.int .i64 cl) ∧ w'.cell? ⟨w.heap.size, 5, none⟩ = some (.int .i64 ch) ∧ w'.cell? ⟨T0, 0, none⟩ = some (.int .i64 d0) ∧ w'.cell? ⟨T0, 1, none⟩ = some (.int .i64 n0)) ∧ Ext WD w')
          ((refine HSSWD.out _ ?_; (repeat (first | exact Ext.refl _ | (with_reducible assumption) | (with_reducible refine Ext.drew ?_) | (with_reducible refine Ext.alloc ?_ _) | (with_reducible refine Ext.drewN ?_ _) | (with_reducible refine Ext.setCell ?_ (by omega) _) | (with_reducible refine Ext.trans ?_ (by with_reducible assumption))))))
          (first
            | (go_at_call 21; (refine (HTA.out _ (by (repeat (first | exact Ext.refl _ | (with_reducible assumption) | (with_reducible refine Ext.drew ?_) | (with_reducible refine Ext.alloc ?_ _) | (with_reducible refine Ext.drewN ?_ _) | (with_reducible refine Ext.setCell ?_ (by omega) _) | (with_reducible refine Ext.trans ?_ (by with_reducible assumption)))))).mono ?_); rintro e w3 ⟨v3, rfl, hv3, hx3⟩; have s3 := hx3.size; (try simp at s3); (first | have Z := ZB.new hx3 | have Z := ZB.newd hx3 | skip))
            | (go_at_call 28; (refine (HCL.out _).mono ?_); rintro e w4 ⟨rfl, hx4⟩; have s4 := hx4.size; (try simp at s4); (first | have Z := ZB.new hx4 | have Z := Z.keep hx4 | skip))
            | (go_at_call 29; (refine (HS0.out _ _ (hv3.ext (by (repeat (first | exact Ext.refl _ | (with_reducible assumption) | (with_reducible refine Ext.drew ?_) | (with_reducible refine Ext.alloc ?_ _) | (with_reducible refine Ext.drewN ?_ _) | (with_reducible refine Ext.setCell ?_ (by omega) _) | (with_reducible refine Ext.trans ?_ (by with_reducible assumption))))))).mono ?_); rintro e w5 ⟨rfl, hx5⟩; have s5 := hx5.size; (try simp at s5); (first | have Z := ZB.new hx5 | have Z := Z.keep hx5 | skip); (first | (have z0 := Z.z0; have z1 := Z.z1; have f0 := Z.f0; have f1 := Z.f1) | skip)))
        all_goals
          go_wp2_with fail
          go_meet
          first
            | exact ⟨_, rfl, rfl, BoxI.stored Z (by (repeat (first | exact Ext.refl _ | (with_reducible assumption) | (with_reducible refine Ext.drew ?_) | (with_reducible refine Ext.alloc ?_ _) | (with_reducible refine Ext.drewN ?_ _) | (with_reducible refine Ext.setCell ?_ (by omega) _) | (with_reducible refine Ext.trans ?_ (by with_reducible assumption))))) (by omega)⟩
            | exact ⟨_, rfl, rfl, BoxI.made (by (repeat (first | exact Ext.refl _ | (with_reducible assumption) | (with_reducible refine Ext.drew ?_) | (with_reducible refine Ext.alloc ?_ _) | (with_reducible refine Ext.drewN ?_ _) | (with_reducible refine Ext.setCell ?_ (by omega) _) | (with_reducible refine Ext.trans ?_ (by with_reducible assumption))))) _ _ _⟩
      case rest =>
        obtain ⟨T2, rfl, rfl, hbT2⟩ := hcut
        have HBT2 := Lib.hid hbT2
        obtain ⟨WE, rfl⟩ : ∃ x, x = wc := ⟨_, rfl⟩
        have cT2 := (HSSWD.out WE hbT2.ext).1
        have HSSWE : Hid (∀ w', Ext WE w' → (w'.cell? ⟨w.heap.size, 0, none⟩ = some (.int .i64 cr) ∧ w'.cell? ⟨w.heap.size, 1, none⟩ = some (.int .i64 va) ∧ w'.cell? ⟨w.heap.size, 2, none⟩ = some (.int .i64 dl) ∧ w'.cell? ⟨w.heap.size, 3, none⟩ = some (.int .i64 dh) ∧ w'.cell? ⟨w.heap.size, 4, none⟩ = some (.int .i64 cl) ∧ w'.cell? ⟨w.heap.size, 5, none⟩ = some (.int .i64 ch) ∧ w'.cell? ⟨T0, 0, none⟩ = some (.int .i64 d0) ∧ w'.cell? ⟨T0, 1, none⟩ = some (.int .i64 n0)) ∧ Ext WE w') := fun w' hx => ⟨⟨hx.keep cT2.1, hx.keep cT2.2.1, hx.keep cT2.2.2.1, hx.keep cT2.2.2.2.1, hx.keep cT2.2.2.2.2.1, hx.keep cT2.2.2.2.2.2.1, hx.keep cT2.2.2.2.2.2.2.1, hx.keep cT2.2.2.2.2.2.2.2⟩, hx⟩
        clear cT2 hbT2
        have XWE : Ext w WE := XWD.trans HBT2.out.ext
        go_wp2_with fail
        go_upto_region 8 with fail
        go_cut [18, 19] from 63 to 70 (fun sA sB wx => ∃ T, sA = .pointer (some ⟨T, 0, none⟩) ∧ sB = .int .i64 0 ∧ BoxI WE T ehd ehn wx)
        case first =>
          go_region_held3 (fun w' => (w'.cell? ⟨w.heap.size, 0, none⟩ = some (.int .i64 cr) ∧ w'.cell? ⟨w.heap.size, 1, none⟩ = some (.int .i64 va) ∧ w'.cell? ⟨w.heap.size, 2, none⟩ = some (.int .i64 dl) ∧ w'.cell? ⟨w.heap.size, 3, none⟩ = some (.int .i64 dh) ∧ w'.cell? ⟨w.heap.size, 4, none⟩ = some (.int .i64 cl) ∧ w'.cell? ⟨w.heap.size, 5, none⟩ = some (.int .i64 ch) ∧ w'.cell? ⟨T0, 0, none⟩ = some (.int .i64 d0) ∧ w'.cell? ⟨T0, 1, none⟩ = some (.int .i64 n0)) ∧ Ext WE w')
            ((refine HSSWE.out _ ?_; (repeat (first | exact Ext.refl _ | (with_reducible assumption) | (with_reducible refine Ext.drew ?_) | (with_reducible refine Ext.alloc ?_ _) | (with_reducible refine Ext.drewN ?_ _) | (with_reducible refine Ext.setCell ?_ (by omega) _) | (with_reducible refine Ext.trans ?_ (by with_reducible assumption))))))
            (first
              | (go_at_call 21; (refine (HTA.out _ (by (repeat (first | exact Ext.refl _ | (with_reducible assumption) | (with_reducible refine Ext.drew ?_) | (with_reducible refine Ext.alloc ?_ _) | (with_reducible refine Ext.drewN ?_ _) | (with_reducible refine Ext.setCell ?_ (by omega) _) | (with_reducible refine Ext.trans ?_ (by with_reducible assumption)))))).mono ?_); rintro e w3 ⟨v3, rfl, hv3, hx3⟩; have s3 := hx3.size; (try simp at s3); (first | have Z := ZB.new hx3 | have Z := ZB.newd hx3 | skip))
              | (go_at_call 28; (refine (HCL.out _).mono ?_); rintro e w4 ⟨rfl, hx4⟩; have s4 := hx4.size; (try simp at s4); (first | have Z := ZB.new hx4 | have Z := Z.keep hx4 | skip))
              | (go_at_call 29; (refine (HS1.out _ _ (hv3.ext (by (repeat (first | exact Ext.refl _ | (with_reducible assumption) | (with_reducible refine Ext.drew ?_) | (with_reducible refine Ext.alloc ?_ _) | (with_reducible refine Ext.drewN ?_ _) | (with_reducible refine Ext.setCell ?_ (by omega) _) | (with_reducible refine Ext.trans ?_ (by with_reducible assumption))))))).mono ?_); rintro e w5 ⟨rfl, hx5⟩; have s5 := hx5.size; (try simp at s5); (first | have Z := ZB.new hx5 | have Z := Z.keep hx5 | skip); (first | (have z0 := Z.z0; have z1 := Z.z1; have f0 := Z.f0; have f1 := Z.f1) | skip)))
          all_goals
            go_wp2_with fail
            go_meet
            first
              | exact ⟨_, rfl, rfl, BoxI.stored Z (by (repeat (first | exact Ext.refl _ | (with_reducible assumption) | (with_reducible refine Ext.drew ?_) | (with_reducible refine Ext.alloc ?_ _) | (with_reducible refine Ext.drewN ?_ _) | (with_reducible refine Ext.setCell ?_ (by omega) _) | (with_reducible refine Ext.trans ?_ (by with_reducible assumption))))) (by omega)⟩
              | exact ⟨_, rfl, rfl, BoxI.made (by (repeat (first | exact Ext.refl _ | (with_reducible assumption) | (with_reducible refine Ext.drew ?_) | (with_reducible refine Ext.alloc ?_ _) | (with_reducible refine Ext.drewN ?_ _) | (with_reducible refine Ext.setCell ?_ (by omega) _) | (with_reducible refine Ext.trans ?_ (by with_reducible assumption))))) _ _ _⟩
        case rest =>
          obtain ⟨T3, rfl, rfl, hbT3⟩ := hcut
          have HBT3 := Lib.hid hbT3
          obtain ⟨WF, rfl⟩ : ∃ x, x = wc := ⟨_, rfl⟩
          have cT3 := (HSSWE.out WF hbT3.ext).1
          have HSSWF : Hid (∀ w', Ext WF w' → (w'.cell? ⟨w.heap.size, 0, none⟩ = some (.int .i64 cr) ∧ w'.cell? ⟨w.heap.size, 1, none⟩ = some (.int .i64 va) ∧ w'.cell? ⟨w.heap.size, 2, none⟩ = some (.int .i64 dl) ∧ w'.cell? ⟨w.heap.size, 3, none⟩ = some (.int .i64 dh) ∧ w'.cell? ⟨w.heap.size, 4, none⟩ = some (.int .i64 cl) ∧ w'.cell? ⟨w.heap.size, 5, none⟩ = some (.int .i64 ch) ∧ w'.cell? ⟨T0, 0, none⟩ = some (.int .i64 d0) ∧ w'.cell? ⟨T0, 1, none⟩ = some (.int .i64 n0)) ∧ Ext WF w') := fun w' hx => ⟨⟨hx.keep cT3.1, hx.keep cT3.2.1, hx.keep cT3.2.2.1, hx.keep cT3.2.2.2.1, hx.keep cT3.2.2.2.2.1, hx.keep cT3.2.2.2.2.2.1, hx.keep cT3.2.2.2.2.2.2.1, hx.keep cT3.2.2.2.2.2.2.2⟩, hx⟩
          clear cT3 hbT3
          have XWF : Ext w WF := XWE.trans HBT3.out.ext
          have Y1 : Ext WC WF := by
            have y1 := HBT2.out.ext
            have y2 := HBT3.out.ext
            (repeat (first | exact Ext.refl _ | (with_reducible assumption) | (with_reducible refine Ext.drew ?_) | (with_reducible refine Ext.alloc ?_ _) | (with_reducible refine Ext.drewN ?_ _) | (with_reducible refine Ext.setCell ?_ (by omega) _) | (with_reducible refine Ext.trans ?_ (by with_reducible assumption))))
          have Y2 : Ext WE WF := HBT3.out.ext
          have u1 := Y1.keep HBT1.out.b0
          have u2 := Y1.keep HBT1.out.b1
          have u3 := Y2.keep HBT2.out.b0
          have u4 := Y2.keep HBT2.out.b1
          have u5 := HBT3.out.b0
          have u6 := HBT3.out.b1
          obtain ⟨⟨q0, q1, q2, q3, q4, q5, -, -⟩, -⟩ := HSSWF.out WF (Ext.refl _)
          have HSZ : Hid (∀ w', Ext WF w' → (w'.cell? ⟨w.heap.size, 0, none⟩ = some (.int .i64 cr) ∧ w'.cell? ⟨w.heap.size, 1, none⟩ = some (.int .i64 va) ∧ w'.cell? ⟨w.heap.size, 2, none⟩ = some (.int .i64 dl) ∧ w'.cell? ⟨w.heap.size, 3, none⟩ = some (.int .i64 dh) ∧ w'.cell? ⟨w.heap.size, 4, none⟩ = some (.int .i64 cl) ∧ w'.cell? ⟨w.heap.size, 5, none⟩ = some (.int .i64 ch) ∧ w'.cell? ⟨T1, 0, none⟩ = some (.int .i64 elo) ∧ w'.cell? ⟨T1, 1, none⟩ = some (.int .i64 ehi) ∧ w'.cell? ⟨T2, 0, none⟩ = some (.int .i64 eld) ∧ w'.cell? ⟨T2, 1, none⟩ = some (.int .i64 eln) ∧ w'.cell? ⟨T3, 0, none⟩ = some (.int .i64 ehd) ∧ w'.cell? ⟨T3, 1, none⟩ = some (.int .i64 ehn)) ∧ Ext WF w') := fun w' hx => ⟨⟨hx.keep q0, hx.keep q1, hx.keep q2, hx.keep q3, hx.keep q4, hx.keep q5, hx.keep u1, hx.keep u2, hx.keep u3, hx.keep u4, hx.keep u5, hx.keep u6⟩, hx⟩
          clear u3 u4 u5 u6 q0 q1 q2 q3 q4 q5 HSSWA HSSWB HSSWC HSSWD HSSWE HSSWF
          have hfin : inR ve 1 3 = true ∧ ((ve = 1 ∧ (py == 0) = false) ∨ (ve = 2 ∧ decide (0 < py) = false) ∨ ve = 3) := by
            rcases HVE.out with ⟨g, h⟩ | ⟨g, h⟩ | g
            · exact ⟨by rw [g]; decide, .inl ⟨g, by rw [beq_eq_false_iff_ne]; omega⟩⟩
            · exact ⟨by rw [g]; decide, .inr (.inl ⟨g, decide_eq_false (by omega)⟩)⟩
            · exact ⟨by rw [g]; decide, .inr (.inr g)⟩
          obtain ⟨hin, hfin⟩ := hfin
          have hI := HIN.out ve WF hin
          clear HVE hin
          have hlt1 : decide (py < elo) = false := decide_eq_false (by omega)
          have hlt2 : decide (ehi < py) = false := decide_eq_false (by omega)
          rcases hfin with ⟨rfl, hz⟩ | ⟨rfl, hz⟩ | rfl
          all_goals
            go_wp2_with fail
            (with_reducible refine hI.mono ?_)
            rintro e w7 ⟨rfl, rfl⟩
            go_wp2_with fail
            go_region_held3 (fun w' => (w'.cell? ⟨w.heap.size, 0, none⟩ = some (.int .i64 cr) ∧ w'.cell? ⟨w.heap.size, 1, none⟩ = some (.int .i64 va) ∧ w'.cell? ⟨w.heap.size, 2, none⟩ = some (.int .i64 dl) ∧ w'.cell? ⟨w.heap.size, 3, none⟩ = some (.int .i64 dh) ∧ w'.cell? ⟨w.heap.size, 4, none⟩ = some (.int .i64 cl) ∧ w'.cell? ⟨w.heap.size, 5, none⟩ = some (.int .i64 ch) ∧ w'.cell? ⟨T1, 0, none⟩ = some (.int .i64 elo) ∧ w'.cell? ⟨T1, 1, none⟩ = some (.int .i64 ehi) ∧ w'.cell? ⟨T2, 0, none⟩ = some (.int .i64 eld) ∧ w'.cell? ⟨T2, 1, none⟩ = some (.int .i64 eln) ∧ w'.cell? ⟨T3, 0, none⟩ = some (.int .i64 ehd) ∧ w'.cell? ⟨T3, 1, none⟩ = some (.int .i64 ehn)) ∧ Ext WF w')
              ((refine HSZ.out _ ?_; (repeat (first | exact Ext.refl _ | (with_reducible assumption) | (with_reducible refine Ext.drew ?_) | (with_reducible refine Ext.alloc ?_ _) | (with_reducible refine Ext.drewN ?_ _) | (with_reducible refine Ext.setCell ?_ (by omega) _) | (with_reducible refine Ext.trans ?_ (by with_reducible assumption))))))
              (first
                | (go_at_call 21; (refine (HTA.out _ (by (repeat (first | exact Ext.refl _ | (with_reducible assumption) | (with_reducible refine Ext.drew ?_) | (with_reducible refine Ext.alloc ?_ _) | (with_reducible refine Ext.drewN ?_ _) | (with_reducible refine Ext.setCell ?_ (by omega) _) | (with_reducible refine Ext.trans ?_ (by with_reducible assumption)))))).mono ?_); rintro e w3 ⟨v3, rfl, hv3, hx3⟩)
                | (go_at_call 28; (refine (HCL.out _).mono ?_); rintro e w4 ⟨rfl, hx4⟩)
                | (go_at_call 45; (with_reducible refine (HP0.out _ _ (hv3.ext (by (repeat (first | exact Ext.refl _ | (with_reducible assumption) | (with_reducible refine Ext.drew ?_) | (with_reducible refine Ext.alloc ?_ _) | (with_reducible refine Ext.drewN ?_ _) | (with_reducible refine Ext.setCell ?_ (by omega) _) | (with_reducible refine Ext.trans ?_ (by with_reducible assumption))))))).mono ?_); rintro e w5 ⟨rfl, hx5⟩)
                | (go_at_call 45; (with_reducible refine (HP1.out _ _ (hv3.ext (by (repeat (first | exact Ext.refl _ | (with_reducible assumption) | (with_reducible refine Ext.drew ?_) | (with_reducible refine Ext.alloc ?_ _) | (with_reducible refine Ext.drewN ?_ _) | (with_reducible refine Ext.setCell ?_ (by omega) _) | (with_reducible refine Ext.trans ?_ (by with_reducible assumption))))))).mono ?_); rintro e w5 ⟨rfl, hx5⟩)
                | (go_at_call 19; (refine (HAW.out _).mono ?_); rintro e w6 ⟨rfl, hx6⟩))
            have Y5 : Ext WF w6 := by (repeat (first | exact Ext.refl _ | (with_reducible assumption) | (with_reducible refine Ext.drew ?_) | (with_reducible refine Ext.alloc ?_ _) | (with_reducible refine Ext.drewN ?_ _) | (with_reducible refine Ext.setCell ?_ (by omega) _) | (with_reducible refine Ext.trans ?_ (by with_reducible assumption))))
            go_wp2_with fail
            go_ret
            exact ⟨rfl, XWF.trans Y5⟩
end Go.Proofs.Ytfjecbfcnngacaa
