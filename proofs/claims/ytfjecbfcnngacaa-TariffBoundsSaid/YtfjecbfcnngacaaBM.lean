/- The walk of TariffBounds. -/
import Derived.Test.YtfjecbfcnngacaaBL
namespace Go.Proofs.Ytfjecbfcnngacaa
open Go.RowKit Go.Hs
attribute [local irreducible] World.setCell World.alloc

set_option maxRecDepth 100000 in
set_option maxHeartbeats 8000000 in
theorem walk_TariffBounds (v : Value) (l : List Tar) (c : Cla) (w : World) (hv : TarsW w v l) (_ : ClaOK c) :
    Calls Try.prog 4 #[v, c.u.val] w fun e w' => e = .returned (.bool true) ∧ Ext w w' := by
  have HAW : Hid (∀ W, Calls Try.prog 19 #[] W fun e w' => e = .returned (.bool true) ∧ Ext W w') := awake_any
  have X : Ext w (w.alloc (.cells #[.int .i64 c.crop, .int .i64 c.value, .int .i64 c.dlo, .int .i64 c.dhi, .int .i64 c.clo, .int .i64 c.chi] 39)) := by (repeat (first | exact Ext.refl _ | (with_reducible assumption) | (with_reducible refine Ext.drew ?_) | (with_reducible refine Ext.alloc ?_ _) | (with_reducible refine Ext.drewN ?_ _) | (with_reducible refine Ext.setCell ?_ (by omega) _) | (with_reducible refine Ext.trans ?_ (by with_reducible assumption))))
  have hth := Thin_any v l _ (hv.ext X)
  cases ht : thinB l with
  | false =>
    rw [ht] at hth
    obtain ⟨a, k, rfl, -⟩ := hv
    obtain ⟨cr, va, dl, dh, cl, ch⟩ := c
    clear ht
    go_enter Try.func4, Try.ntmps4
    go_wp2_with fail
    (with_reducible refine hth.mono ?_)
    rintro e w1 ⟨rfl, rfl⟩
    go_wp2_with fail
    (with_reducible refine (HAW.out _).mono ?_)
    rintro e w2 ⟨rfl, hx2⟩
    go_wp2_with fail
    go_ret
    exact ⟨rfl, X.trans hx2⟩
  | true =>
    rw [ht] at hth
    have hvv := hv.toV ht
    have HTA : Hid (∀ W, Ext w W → Calls Try.prog 21 #[v] W fun e w' => ∃ v', e = .returned v' ∧ TarsV w' v' l ∧ Ext W w') := fun W hx => Tariffs_any v l W (hvv.ext hx) ht
    have HCL : Hid (∀ W, Calls Try.prog 28 #[c.u.val] W fun e w' => e = .returned c.u.val ∧ Ext W w') := fun W => Claim_any c W
    have HBO : Hid (∀ v' W, TarsV W v' l → Calls Try.prog 27 #[v', c.u.val] W fun e w' => e = .returned (.tuple #[.agg #[.int .i64 (bLo l c), .int .i64 (bHi l c)], .int .i64 (askS1 l c)]) ∧ Ext W w') := fun v' W h => BoundsQ_any v' l c W h
    have HS0 : Hid (∀ v' W, TarsV W v' l → Calls Try.prog 29 #[v', c.u.val, .bool false] W fun e w' => e = .returned (.tuple #[.agg #[.int .i64 (sD l c false), .int .i64 (sN l c false)], .int .i64 (askS1 l c)]) ∧ Ext W w') := fun v' W h => ShowQ_any v' l c false W h
    have HS1 : Hid (∀ v' W, TarsV W v' l → Calls Try.prog 29 #[v', c.u.val, .bool true] W fun e w' => e = .returned (.tuple #[.agg #[.int .i64 (sD l c true), .int .i64 (sN l c true)], .int .i64 (askS1 l c)]) ∧ Ext W w') := fun v' W h => ShowQ_any v' l c true W h
    have HPD : Hid (∀ v' W, TarsV W v' l → Calls Try.prog 30 #[v', c.u.val] W fun e w' => e = .returned (.tuple #[.int .i64 (vD l c), .int .i64 (askS1 l c)]) ∧ Ext W w') := fun v' W h => PaidQ_any v' l c W h
    have HCD : Hid (∀ W, Ext w W → Calls Try.prog 31 #[v, c.u.val] W fun e w' => e = .returned (.int .i64 (askS1 l c)) ∧ Ext W w') := fun W hx => claimed_any v l c W (hvv.ext hx)
    have HTO : Hid (∀ a b W, Calls Try.prog 33 #[.agg #[.int .i64 a, .int .i64 b]] W fun e w' => e = .returned (.agg #[.int .i64 a, .int .i64 b]) ∧ Ext W w') := to_any
    have HTR : Hid (∀ a b W, Calls Try.prog 34 #[.agg #[.int .i64 a, .int .i64 b]] W fun e w' => e = .returned (.agg #[.int .i64 a, .int .i64 b]) ∧ Ext W w') := Truth_any
    have HRB : Hid (askS1 l c = 0 → ∀ W, Ext w W → Calls Try.prog 32 #[v, c.u.val] W fun e w' => e = .returned (.tuple #[.agg #[.int .i64 (endsS l c).lo, .int .i64 (endsS l c).hi], .agg #[.int .i64 (endsS l c).ld, .int .i64 (endsS l c).ln], .agg #[.int .i64 (endsS l c).hd, .int .i64 (endsS l c).hn]]) ∧ Ext W w') := fun h W hx =>
      RefBounds_any v l c W (hvv.ext hx) (validL_of (askS1_zero h).1) (claimB_iff.1 (askS1_zero h).2)
    have HVE : Hid (askS1 l c = 0 → ∀ W, Calls Try.prog 35 #[.agg #[.int .i64 (endsS l c).lo, .int .i64 (endsS l c).hi]] W fun e w' => e = .returned (.int .i64 (verdictS (endsS l c).lo (endsS l c).hi)) ∧ Ext W w') := fun h W => by
      obtain ⟨g1, g2⟩ := ends_order (validL_of (askS1_zero h).1) (claimB_iff.1 (askS1_zero h).2)
      exact Verdict_any _ _ W g2 g1
    have HX1 : Hid (bLo l c = if askS1 l c = 0 then (endsS l c).lo else 0) := rfl
    have HX2 : Hid (bHi l c = if askS1 l c = 0 then (endsS l c).hi else 0) := rfl
    have HX3 : Hid (sD l c false = if askS1 l c = 0 then (endsS l c).ld else 0) := rfl
    have HX4 : Hid (sN l c false = if askS1 l c = 0 then (endsS l c).ln else 0) := rfl
    have HX5 : Hid (sD l c true = if askS1 l c = 0 then (endsS l c).hd else 0) := rfl
    have HX6 : Hid (sN l c true = if askS1 l c = 0 then (endsS l c).hn else 0) := rfl
    have HX7 : Hid (vD l c = if askS1 l c = 0 then verdictS (endsS l c).lo (endsS l c).hi else 0) := rfl
    clear hvv ht
    obtain ⟨a, k, rfl, -⟩ := hv
    generalize verdictS (endsS l c).lo (endsS l c).hi = ve at *
    generalize (endsS l c).lo = elo at *
    generalize (endsS l c).hi = ehi at *
    generalize (endsS l c).ld = eld at *
    generalize (endsS l c).ln = eln at *
    generalize (endsS l c).hd = ehd at *
    generalize (endsS l c).hn = ehn at *
    generalize bLo l c = x1 at *
    generalize bHi l c = x2 at *
    generalize sD l c false = x3 at *
    generalize sN l c false = x4 at *
    generalize sD l c true = x5 at *
    generalize sN l c true = x6 at *
    generalize vD l c = x7 at *
    generalize askS1 l c = r at *
    obtain ⟨cr, va, dl, dh, cl, ch⟩ := c
    have hc0 : Cell6 (w.alloc (.cells #[.int .i64 cr, .int .i64 va, .int .i64 dl, .int .i64 dh, .int .i64 cl, .int .i64 ch] 39)) w.heap.size 0 ⟨.int .i64 cr, .int .i64 va, .int .i64 dl, .int .i64 dh, .int .i64 cl, .int .i64 ch⟩ := by simp [Cell6]
    go_enter Try.func4, Try.ntmps4
    go_wp2_with fail
    (with_reducible refine hth.mono ?_)
    rintro e w1 ⟨rfl, rfl⟩
    clear hth
    generalize (w.alloc (.cells #[.int .i64 cr, .int .i64 va, .int .i64 dl, .int .i64 dh, .int .i64 cl, .int .i64 ch] 39)) = W at *
    simp only [Cell6, Nat.zero_add] at hc0
    have HSS : Hid (∀ w', Ext W w' → (w'.cell? ⟨w.heap.size, 0, none⟩ = some (.int .i64 cr) ∧ w'.cell? ⟨w.heap.size, 1, none⟩ = some (.int .i64 va) ∧ w'.cell? ⟨w.heap.size, 2, none⟩ = some (.int .i64 dl) ∧ w'.cell? ⟨w.heap.size, 3, none⟩ = some (.int .i64 dh) ∧ w'.cell? ⟨w.heap.size, 4, none⟩ = some (.int .i64 cl) ∧ w'.cell? ⟨w.heap.size, 5, none⟩ = some (.int .i64 ch)) ∧ Ext W w') := fun w' hx => ⟨⟨hx.keep hc0.1, hx.keep hc0.2.1, hx.keep hc0.2.2.1, hx.keep hc0.2.2.2.1, hx.keep hc0.2.2.2.2.1, hx.keep hc0.2.2.2.2.2⟩, hx⟩
    clear hc0
    go_upto_region 3 with fail
    go_cut [5, 6] from 21 to 28 (fun sA sB wx => ∃ T, sA = .pointer (some ⟨T, 0, none⟩) ∧ sB = .int .i64 r ∧ BoxI W T x1 x2 wx)
    case first =>
      go_region_held3 (fun w' => (w'.cell? ⟨w.heap.size, 0, none⟩ = some (.int .i64 cr) ∧ w'.cell? ⟨w.heap.size, 1, none⟩ = some (.int .i64 va) ∧ w'.cell? ⟨w.heap.size, 2, none⟩ = some (.int .i64 dl) ∧ w'.cell? ⟨w.heap.size, 3, none⟩ = some (.int .i64 dh) ∧ w'.cell? ⟨w.heap.size, 4, none⟩ = some (.int .i64 cl) ∧ w'.cell? ⟨w.heap.size, 5, none⟩ = some (.int .i64 ch)) ∧ Ext W w')
        ((refine HSS.out _ ?_; (repeat (first | exact Ext.refl _ | (with_reducible assumption) | (with_reducible refine Ext.drew ?_) | (with_reducible refine Ext.alloc ?_ _) | (with_reducible refine Ext.drewN ?_ _) | (with_reducible refine Ext.setCell ?_ (by omega) _) | (with_reducible refine Ext.trans ?_ (by with_reducible assumption))))))
        (first
          | (go_at_call 21; (refine (HTA.out _ (by (repeat (first | exact Ext.refl _ | (with_reducible assumption) | (with_reducible refine Ext.drew ?_) | (with_reducible refine Ext.alloc ?_ _) | (with_reducible refine Ext.drewN ?_ _) | (with_reducible refine Ext.setCell ?_ (by omega) _) | (with_reducible refine Ext.trans ?_ (by with_reducible assumption)))))).mono ?_); rintro e w3 ⟨v3, rfl, hv3, hx3⟩; have s3 := hx3.size; (try simp at s3); (first | have Z := ZB.new hx3 | have Z := ZB.newd hx3 | skip))
          | (go_at_call 28; (refine (HCL.out _).mono ?_); rintro e w4 ⟨rfl, hx4⟩; have s4 := hx4.size; (try simp at s4); (first | have Z := ZB.new hx4 | have Z := Z.keep hx4 | skip))
          | (go_at_call 27; (refine (HBO.out _ _ (hv3.ext (by (repeat (first | exact Ext.refl _ | (with_reducible assumption) | (with_reducible refine Ext.drew ?_) | (with_reducible refine Ext.alloc ?_ _) | (with_reducible refine Ext.drewN ?_ _) | (with_reducible refine Ext.setCell ?_ (by omega) _) | (with_reducible refine Ext.trans ?_ (by with_reducible assumption))))))).mono ?_); rintro e w5 ⟨rfl, hx5⟩; have s5 := hx5.size; (try simp at s5); (first | have Z := ZB.new hx5 | have Z := Z.keep hx5 | skip); (first | (have z0 := Z.z0; have z1 := Z.z1; have f0 := Z.f0; have f1 := Z.f1) | skip)))
      all_goals
        go_wp2_with fail
        go_meet
        first
          | exact ⟨_, rfl, rfl, BoxI.stored Z (by (repeat (first | exact Ext.refl _ | (with_reducible assumption) | (with_reducible refine Ext.drew ?_) | (with_reducible refine Ext.alloc ?_ _) | (with_reducible refine Ext.drewN ?_ _) | (with_reducible refine Ext.setCell ?_ (by omega) _) | (with_reducible refine Ext.trans ?_ (by with_reducible assumption))))) (by omega)⟩
          | exact ⟨_, rfl, rfl, BoxI.made (by (repeat (first | exact Ext.refl _ | (with_reducible assumption) | (with_reducible refine Ext.drew ?_) | (with_reducible refine Ext.alloc ?_ _) | (with_reducible refine Ext.drewN ?_ _) | (with_reducible refine Ext.setCell ?_ (by omega) _) | (with_reducible refine Ext.trans ?_ (by with_reducible assumption))))) _ _ _⟩
    case rest =>
      obtain ⟨T1, rfl, rfl, hb1⟩ := hcut
      have HB1 := Lib.hid hb1
      obtain ⟨W2, rfl⟩ : ∃ x, x = wc := ⟨_, rfl⟩
      have c1 := (HSS.out W2 hb1.ext).1
      have HSS2 : Hid (∀ w', Ext W2 w' → (w'.cell? ⟨w.heap.size, 0, none⟩ = some (.int .i64 cr) ∧ w'.cell? ⟨w.heap.size, 1, none⟩ = some (.int .i64 va) ∧ w'.cell? ⟨w.heap.size, 2, none⟩ = some (.int .i64 dl) ∧ w'.cell? ⟨w.heap.size, 3, none⟩ = some (.int .i64 dh) ∧ w'.cell? ⟨w.heap.size, 4, none⟩ = some (.int .i64 cl) ∧ w'.cell? ⟨w.heap.size, 5, none⟩ = some (.int .i64 ch)) ∧ Ext W2 w') := fun w' hx => ⟨⟨hx.keep c1.1, hx.keep c1.2.1, hx.keep c1.2.2.1, hx.keep c1.2.2.2.1, hx.keep c1.2.2.2.2.1, hx.keep c1.2.2.2.2.2⟩, hx⟩
      clear c1 hb1
      have X2 : Ext w W2 := X.trans HB1.out.ext
      go_wp2_with fail
      go_upto_region 4 with fail
      go_cut [7, 8] from 29 to 36 (fun sA sB wx => ∃ T, sA = .pointer (some ⟨T, 0, none⟩) ∧ sB = .int .i64 r ∧ BoxI W2 T x3 x4 wx)
      case first =>
        go_region_held3 (fun w' => (w'.cell? ⟨w.heap.size, 0, none⟩ = some (.int .i64 cr) ∧ w'.cell? ⟨w.heap.size, 1, none⟩ = some (.int .i64 va) ∧ w'.cell? ⟨w.heap.size, 2, none⟩ = some (.int .i64 dl) ∧ w'.cell? ⟨w.heap.size, 3, none⟩ = some (.int .i64 dh) ∧ w'.cell? ⟨w.heap.size, 4, none⟩ = some (.int .i64 cl) ∧ w'.cell? ⟨w.heap.size, 5, none⟩ = some (.int .i64 ch)) ∧ Ext W2 w')
          ((refine HSS2.out _ ?_; (repeat (first | exact Ext.refl _ | (with_reducible assumption) | (with_reducible refine Ext.drew ?_) | (with_reducible refine Ext.alloc ?_ _) | (with_reducible refine Ext.drewN ?_ _) | (with_reducible refine Ext.setCell ?_ (by omega) _) | (with_reducible refine Ext.trans ?_ (by with_reducible assumption))))))
          (first
            | (go_at_call 21; (refine (HTA.out _ (by (repeat (first | exact Ext.refl _ | (with_reducible assumption) | (with_reducible refine Ext.drew ?_) | (with_reducible refine Ext.alloc ?_ _) | (with_reducible refine Ext.drewN ?_ _) | (with_reducible refine Ext.setCell ?_ (by omega) _) | (with_reducible refine Ext.trans ?_ (by with_reducible assumption)))))).mono ?_); rintro e w3 ⟨v3, rfl, hv3, hx3⟩; have s3 := hx3.size; (try simp at s3); (first | have Z := ZB.new hx3 | have Z := ZB.newd hx3 | skip))
            | (go_at_call 28; (refine (HCL.out _).mono ?_); rintro e w4 ⟨rfl, hx4⟩; have s4 := hx4.size; (try simp at s4); (first | have Z := ZB.new hx4 | have Z := Z.keep hx4 | skip))
            | (go_at_call 29; (refine (HS0.out _ _ (hv3.ext (by (repeat (first | exact Ext.refl _ | (with_reducible assumption) | (with_reducible refine Ext.drew ?_) | (with_reducible refine Ext.alloc ?_ _) | (with_reducible refine Ext.drewN ?_ _) | (with_reducible refine Ext.setCell ?_ (by omega) _) | (with_reducible refine Ext.trans ?_ (by with_reducible assumption))))))).mono ?_); rintro e w5 ⟨rfl, hx5⟩; have s5 := hx5.size; (try simp at s5); (first | have Z := ZB.new hx5 | have Z := Z.keep hx5 | skip); (first | (have z0 := Z.z0; have z1 := Z.z1; have f0 := Z.f0; have f1 := Z.f1) | skip)))
        all_goals
          go_wp2_with fail
          go_meet
          first
            | exact ⟨_, rfl, rfl, BoxI.stored Z (by (repeat (first | exact Ext.refl _ | (with_reducible assumption) | (with_reducible refine Ext.drew ?_) | (with_reducible refine Ext.alloc ?_ _) | (with_reducible refine Ext.drewN ?_ _) | (with_reducible refine Ext.setCell ?_ (by omega) _) | (with_reducible refine Ext.trans ?_ (by with_reducible assumption))))) (by omega)⟩
            | exact ⟨_, rfl, rfl, BoxI.made (by (repeat (first | exact Ext.refl _ | (with_reducible assumption) | (with_reducible refine Ext.drew ?_) | (with_reducible refine Ext.alloc ?_ _) | (with_reducible refine Ext.drewN ?_ _) | (with_reducible refine Ext.setCell ?_ (by omega) _) | (with_reducible refine Ext.trans ?_ (by with_reducible assumption))))) _ _ _⟩
      case rest =>
        obtain ⟨T2, rfl, rfl, hb2⟩ := hcut
        have HB2 := Lib.hid hb2
        obtain ⟨W3, rfl⟩ : ∃ x, x = wc := ⟨_, rfl⟩
        have c2 := (HSS2.out W3 hb2.ext).1
        have HSS3 : Hid (∀ w', Ext W3 w' → (w'.cell? ⟨w.heap.size, 0, none⟩ = some (.int .i64 cr) ∧ w'.cell? ⟨w.heap.size, 1, none⟩ = some (.int .i64 va) ∧ w'.cell? ⟨w.heap.size, 2, none⟩ = some (.int .i64 dl) ∧ w'.cell? ⟨w.heap.size, 3, none⟩ = some (.int .i64 dh) ∧ w'.cell? ⟨w.heap.size, 4, none⟩ = some (.int .i64 cl) ∧ w'.cell? ⟨w.heap.size, 5, none⟩ = some (.int .i64 ch)) ∧ Ext W3 w') := fun w' hx => ⟨⟨hx.keep c2.1, hx.keep c2.2.1, hx.keep c2.2.2.1, hx.keep c2.2.2.2.1, hx.keep c2.2.2.2.2.1, hx.keep c2.2.2.2.2.2⟩, hx⟩
        clear c2 hb2
        have X3 : Ext w W3 := X2.trans HB2.out.ext
        go_wp2_with fail
        go_upto_region 5 with fail
        go_cut [9, 10] from 37 to 44 (fun sA sB wx => ∃ T, sA = .pointer (some ⟨T, 0, none⟩) ∧ sB = .int .i64 r ∧ BoxI W3 T x5 x6 wx)
        case first =>
          go_region_held3 (fun w' => (w'.cell? ⟨w.heap.size, 0, none⟩ = some (.int .i64 cr) ∧ w'.cell? ⟨w.heap.size, 1, none⟩ = some (.int .i64 va) ∧ w'.cell? ⟨w.heap.size, 2, none⟩ = some (.int .i64 dl) ∧ w'.cell? ⟨w.heap.size, 3, none⟩ = some (.int .i64 dh) ∧ w'.cell? ⟨w.heap.size, 4, none⟩ = some (.int .i64 cl) ∧ w'.cell? ⟨w.heap.size, 5, none⟩ = some (.int .i64 ch)) ∧ Ext W3 w')
            ((refine HSS3.out _ ?_; (repeat (first | exact Ext.refl _ | (with_reducible assumption) | (with_reducible refine Ext.drew ?_) | (with_reducible refine Ext.alloc ?_ _) | (with_reducible refine Ext.drewN ?_ _) | (with_reducible refine Ext.setCell ?_ (by omega) _) | (with_reducible refine Ext.trans ?_ (by with_reducible assumption))))))
            (first
              | (go_at_call 21; (refine (HTA.out _ (by (repeat (first | exact Ext.refl _ | (with_reducible assumption) | (with_reducible refine Ext.drew ?_) | (with_reducible refine Ext.alloc ?_ _) | (with_reducible refine Ext.drewN ?_ _) | (with_reducible refine Ext.setCell ?_ (by omega) _) | (with_reducible refine Ext.trans ?_ (by with_reducible assumption)))))).mono ?_); rintro e w3 ⟨v3, rfl, hv3, hx3⟩; have s3 := hx3.size; (try simp at s3); (first | have Z := ZB.new hx3 | have Z := ZB.newd hx3 | skip))
              | (go_at_call 28; (refine (HCL.out _).mono ?_); rintro e w4 ⟨rfl, hx4⟩; have s4 := hx4.size; (try simp at s4); (first | have Z := ZB.new hx4 | have Z := Z.keep hx4 | skip))
              | (go_at_call 29; (refine (HS1.out _ _ (hv3.ext (by (repeat (first | exact Ext.refl _ | (with_reducible assumption) | (with_reducible refine Ext.drew ?_) | (with_reducible refine Ext.alloc ?_ _) | (with_reducible refine Ext.drewN ?_ _) | (with_reducible refine Ext.setCell ?_ (by omega) _) | (with_reducible refine Ext.trans ?_ (by with_reducible assumption))))))).mono ?_); rintro e w5 ⟨rfl, hx5⟩; have s5 := hx5.size; (try simp at s5); (first | have Z := ZB.new hx5 | have Z := Z.keep hx5 | skip); (first | (have z0 := Z.z0; have z1 := Z.z1; have f0 := Z.f0; have f1 := Z.f1) | skip)))
          all_goals
            go_wp2_with fail
            go_meet
            first
              | exact ⟨_, rfl, rfl, BoxI.stored Z (by (repeat (first | exact Ext.refl _ | (with_reducible assumption) | (with_reducible refine Ext.drew ?_) | (with_reducible refine Ext.alloc ?_ _) | (with_reducible refine Ext.drewN ?_ _) | (with_reducible refine Ext.setCell ?_ (by omega) _) | (with_reducible refine Ext.trans ?_ (by with_reducible assumption))))) (by omega)⟩
              | exact ⟨_, rfl, rfl, BoxI.made (by (repeat (first | exact Ext.refl _ | (with_reducible assumption) | (with_reducible refine Ext.drew ?_) | (with_reducible refine Ext.alloc ?_ _) | (with_reducible refine Ext.drewN ?_ _) | (with_reducible refine Ext.setCell ?_ (by omega) _) | (with_reducible refine Ext.trans ?_ (by with_reducible assumption))))) _ _ _⟩
        case rest =>
          obtain ⟨T3, rfl, rfl, hb3⟩ := hcut
          have HB3 := Lib.hid hb3
          obtain ⟨W4, rfl⟩ : ∃ x, x = wc := ⟨_, rfl⟩
          have c3 := (HSS3.out W4 hb3.ext).1
          have HSS4 : Hid (∀ w', Ext W4 w' → (w'.cell? ⟨w.heap.size, 0, none⟩ = some (.int .i64 cr) ∧ w'.cell? ⟨w.heap.size, 1, none⟩ = some (.int .i64 va) ∧ w'.cell? ⟨w.heap.size, 2, none⟩ = some (.int .i64 dl) ∧ w'.cell? ⟨w.heap.size, 3, none⟩ = some (.int .i64 dh) ∧ w'.cell? ⟨w.heap.size, 4, none⟩ = some (.int .i64 cl) ∧ w'.cell? ⟨w.heap.size, 5, none⟩ = some (.int .i64 ch)) ∧ Ext W4 w') := fun w' hx => ⟨⟨hx.keep c3.1, hx.keep c3.2.1, hx.keep c3.2.2.1, hx.keep c3.2.2.2.1, hx.keep c3.2.2.2.2.1, hx.keep c3.2.2.2.2.2⟩, hx⟩
          clear c3 hb3
          have X4 : Ext w W4 := X3.trans HB3.out.ext
          go_wp2_with fail
          go_region_held3 (fun w' => (w'.cell? ⟨w.heap.size, 0, none⟩ = some (.int .i64 cr) ∧ w'.cell? ⟨w.heap.size, 1, none⟩ = some (.int .i64 va) ∧ w'.cell? ⟨w.heap.size, 2, none⟩ = some (.int .i64 dl) ∧ w'.cell? ⟨w.heap.size, 3, none⟩ = some (.int .i64 dh) ∧ w'.cell? ⟨w.heap.size, 4, none⟩ = some (.int .i64 cl) ∧ w'.cell? ⟨w.heap.size, 5, none⟩ = some (.int .i64 ch)) ∧ Ext W4 w')
            ((refine HSS4.out _ ?_; (repeat (first | exact Ext.refl _ | (with_reducible assumption) | (with_reducible refine Ext.drew ?_) | (with_reducible refine Ext.alloc ?_ _) | (with_reducible refine Ext.drewN ?_ _) | (with_reducible refine Ext.setCell ?_ (by omega) _) | (with_reducible refine Ext.trans ?_ (by with_reducible assumption))))))
            (first
              | (go_at_call 21; (refine (HTA.out _ (by (repeat (first | exact Ext.refl _ | (with_reducible assumption) | (with_reducible refine Ext.drew ?_) | (with_reducible refine Ext.alloc ?_ _) | (with_reducible refine Ext.drewN ?_ _) | (with_reducible refine Ext.setCell ?_ (by omega) _) | (with_reducible refine Ext.trans ?_ (by with_reducible assumption)))))).mono ?_); rintro e w3 ⟨v3, rfl, hv3, hx3⟩)
              | (go_at_call 28; (refine (HCL.out _).mono ?_); rintro e w4 ⟨rfl, hx4⟩)
              | (go_at_call 30; (refine (HPD.out _ _ (hv3.ext (by (repeat (first | exact Ext.refl _ | (with_reducible assumption) | (with_reducible refine Ext.drew ?_) | (with_reducible refine Ext.alloc ?_ _) | (with_reducible refine Ext.drewN ?_ _) | (with_reducible refine Ext.setCell ?_ (by omega) _) | (with_reducible refine Ext.trans ?_ (by with_reducible assumption))))))).mono ?_); rintro e w5 ⟨rfl, hx5⟩))
          have X5 : Ext W4 w5 := by (repeat (first | exact Ext.refl _ | (with_reducible assumption) | (with_reducible refine Ext.drew ?_) | (with_reducible refine Ext.alloc ?_ _) | (with_reducible refine Ext.drewN ?_ _) | (with_reducible refine Ext.setCell ?_ (by omega) _) | (with_reducible refine Ext.trans ?_ (by with_reducible assumption))))
          have Y1 := HB1.out.ext
          have Y2 := HB2.out.ext
          have Y3 := HB3.out.ext
          have Y4 : Ext w W4 := by (repeat (first | exact Ext.refl _ | (with_reducible assumption) | (with_reducible refine Ext.drew ?_) | (with_reducible refine Ext.alloc ?_ _) | (with_reducible refine Ext.drewN ?_ _) | (with_reducible refine Ext.setCell ?_ (by omega) _) | (with_reducible refine Ext.trans ?_ (by with_reducible assumption))))
          clear hv3 hx3 hx4 hx5
          obtain ⟨⟨q0, q1, q2, q3, q4, q5⟩, -⟩ := HSS4.out w5 X5
          go_wp2_with fail
          (with_reducible refine (HCD.out _ (Y4.trans X5)).mono ?_)
          rintro e w8 ⟨rfl, hx8⟩
          have X8 := X5.trans hx8
          clear hx8 X5 q0 q1 q2 q3 q4 q5
          obtain ⟨⟨q0, q1, q2, q3, q4, q5⟩, -⟩ := HSS4.out w8 X8
          have u1 := X8.keep (Y3.keep (Y2.keep HB1.out.b0))
          have u2 := X8.keep (Y3.keep (Y2.keep HB1.out.b1))
          have u3 := X8.keep (Y3.keep HB2.out.b0)
          have u4 := X8.keep (Y3.keep HB2.out.b1)
          have u5 := X8.keep HB3.out.b0
          have u6 := X8.keep HB3.out.b1
          clear HSS HSS2 HSS3 HSS4 Y1 Y2 Y3
          by_cases h0 : r = 0
          · subst h0
            obtain rfl : x1 = elo := HX1.out
            obtain rfl : x2 = ehi := HX2.out
            obtain rfl : x3 = eld := HX3.out
            obtain rfl : x4 = eln := HX4.out
            obtain rfl : x5 = ehd := HX5.out
            obtain rfl : x6 = ehn := HX6.out
            obtain rfl : x7 = ve := HX7.out
            have hrb := HRB.out rfl w8 (Y4.trans X8)
            have HVE' := Lib.hid (HVE.out rfl)
            clear HX1 HX2 HX3 HX4 HX5 HX6 HX7 HRB HVE
            go_wp2_with fail
            (with_reducible refine hrb.mono ?_)
            rintro e w9 ⟨rfl, hx9⟩
            have u1' := hx9.keep u1
            have u2' := hx9.keep u2
            have u3' := hx9.keep u3
            have u4' := hx9.keep u4
            have u5' := hx9.keep u5
            have u6' := hx9.keep u6
            have Y9 : Ext w w9 := Y4.trans (X8.trans hx9)
            clear hrb q0 q1 q2 q3 q4 q5 u1 u2 u3 u4 u5 u6 X8 hx9 Y4
            go_wp2_with fail
            go_upto_region 11 with fail
            generalize hWZ : ((w9.alloc (.cells #[.int .i64 x1, .int .i64 x2] 37)).alloc (.cells #[.int .i64 x3, .int .i64 x4] 52)).alloc (.cells #[.int .i64 x5, .int .i64 x6] 52) = WZ at *
            have Y10 : Ext w9 WZ := by rw [← hWZ]; (repeat (first | exact Ext.refl _ | (with_reducible assumption) | (with_reducible refine Ext.drew ?_) | (with_reducible refine Ext.alloc ?_ _) | (with_reducible refine Ext.drewN ?_ _) | (with_reducible refine Ext.setCell ?_ (by omega) _) | (with_reducible refine Ext.trans ?_ (by with_reducible assumption))))
            have p1 : WZ.cell? ⟨w9.heap.size, 0, none⟩ = some (.int .i64 x1) := by rw [← hWZ]; simp [go_sem]
            have p2 : WZ.cell? ⟨w9.heap.size, 1, none⟩ = some (.int .i64 x2) := by rw [← hWZ]; simp [go_sem]
            have p3 : WZ.cell? ⟨w9.heap.size + 1, 0, none⟩ = some (.int .i64 x3) := by rw [← hWZ]; simp [go_sem]
            have p4 : WZ.cell? ⟨w9.heap.size + 1, 1, none⟩ = some (.int .i64 x4) := by rw [← hWZ]; simp [go_sem]
            have p5 : WZ.cell? ⟨w9.heap.size + 1 + 1, 0, none⟩ = some (.int .i64 x5) := by rw [← hWZ]; simp [go_sem]
            have p6 : WZ.cell? ⟨w9.heap.size + 1 + 1, 1, none⟩ = some (.int .i64 x6) := by rw [← hWZ]; simp [go_sem]
            have o1 := Y10.keep u1'
            have o2 := Y10.keep u2'
            have o3 := Y10.keep u3'
            have o4 := Y10.keep u4'
            have o5 := Y10.keep u5'
            have o6 := Y10.keep u6'
            clear hWZ u1' u2' u3' u4' u5' u6'
            have HSZ : Hid (∀ w', Ext WZ w' → (w'.cell? ⟨T1, 0, none⟩ = some (.int .i64 x1) ∧ w'.cell? ⟨T1, 1, none⟩ = some (.int .i64 x2) ∧ w'.cell? ⟨T2, 0, none⟩ = some (.int .i64 x3) ∧ w'.cell? ⟨T2, 1, none⟩ = some (.int .i64 x4) ∧ w'.cell? ⟨T3, 0, none⟩ = some (.int .i64 x5) ∧ w'.cell? ⟨T3, 1, none⟩ = some (.int .i64 x6) ∧ w'.cell? ⟨w9.heap.size, 0, none⟩ = some (.int .i64 x1) ∧ w'.cell? ⟨w9.heap.size, 1, none⟩ = some (.int .i64 x2) ∧ w'.cell? ⟨w9.heap.size + 1, 0, none⟩ = some (.int .i64 x3) ∧ w'.cell? ⟨w9.heap.size + 1, 1, none⟩ = some (.int .i64 x4) ∧ w'.cell? ⟨w9.heap.size + 1 + 1, 0, none⟩ = some (.int .i64 x5) ∧ w'.cell? ⟨w9.heap.size + 1 + 1, 1, none⟩ = some (.int .i64 x6)) ∧ Ext WZ w') := fun w' hx => ⟨⟨hx.keep o1, hx.keep o2, hx.keep o3, hx.keep o4, hx.keep o5, hx.keep o6, hx.keep p1, hx.keep p2, hx.keep p3, hx.keep p4, hx.keep p5, hx.keep p6⟩, hx⟩
            clear o1 o2 o3 o4 o5 o6 p1 p2 p3 p4 p5 p6
            go_region_held3 (fun w' => (w'.cell? ⟨T1, 0, none⟩ = some (.int .i64 x1) ∧ w'.cell? ⟨T1, 1, none⟩ = some (.int .i64 x2) ∧ w'.cell? ⟨T2, 0, none⟩ = some (.int .i64 x3) ∧ w'.cell? ⟨T2, 1, none⟩ = some (.int .i64 x4) ∧ w'.cell? ⟨T3, 0, none⟩ = some (.int .i64 x5) ∧ w'.cell? ⟨T3, 1, none⟩ = some (.int .i64 x6) ∧ w'.cell? ⟨w9.heap.size, 0, none⟩ = some (.int .i64 x1) ∧ w'.cell? ⟨w9.heap.size, 1, none⟩ = some (.int .i64 x2) ∧ w'.cell? ⟨w9.heap.size + 1, 0, none⟩ = some (.int .i64 x3) ∧ w'.cell? ⟨w9.heap.size + 1, 1, none⟩ = some (.int .i64 x4) ∧ w'.cell? ⟨w9.heap.size + 1 + 1, 0, none⟩ = some (.int .i64 x5) ∧ w'.cell? ⟨w9.heap.size + 1 + 1, 1, none⟩ = some (.int .i64 x6)) ∧ Ext WZ w')
              ((refine HSZ.out _ ?_; (repeat (first | exact Ext.refl _ | (with_reducible assumption) | (with_reducible refine Ext.drew ?_) | (with_reducible refine Ext.alloc ?_ _) | (with_reducible refine Ext.drewN ?_ _) | (with_reducible refine Ext.setCell ?_ (by omega) _) | (with_reducible refine Ext.trans ?_ (by with_reducible assumption))))))
              (first
                | (go_at_call 33; (refine (HTO.out _ _ _).mono ?_); rintro e y1 ⟨rfl, hy1⟩)
                | (go_at_call 34; (with_reducible refine (HTR.out x3 x4 _).mono ?_); rintro e y2 ⟨rfl, hy2⟩)
                | (go_at_call 34; (with_reducible refine (HTR.out x5 x6 _).mono ?_); rintro e y3 ⟨rfl, hy3⟩)
                | (go_at_call 35; (refine (HVE'.out _).mono ?_); rintro e y4 ⟨rfl, hy4⟩)
                | (go_at_call 19; (refine (HAW.out _).mono ?_); rintro e y5 ⟨rfl, hy5⟩))
            have Y5 : Ext WZ y5 := by (repeat (first | exact Ext.refl _ | (with_reducible assumption) | (with_reducible refine Ext.drew ?_) | (with_reducible refine Ext.alloc ?_ _) | (with_reducible refine Ext.drewN ?_ _) | (with_reducible refine Ext.setCell ?_ (by omega) _) | (with_reducible refine Ext.trans ?_ (by with_reducible assumption))))
            go_wp2_with fail
            go_ret
            exact ⟨rfl, Y9.trans (Y10.trans Y5)⟩
          · obtain rfl : x1 = 0 := by rw [HX1.out, if_neg h0]
            obtain rfl : x2 = 0 := by rw [HX2.out, if_neg h0]
            obtain rfl : x3 = 0 := by rw [HX3.out, if_neg h0]
            obtain rfl : x4 = 0 := by rw [HX4.out, if_neg h0]
            obtain rfl : x5 = 0 := by rw [HX5.out, if_neg h0]
            obtain rfl : x6 = 0 := by rw [HX6.out, if_neg h0]
            obtain rfl : x7 = 0 := by rw [HX7.out, if_neg h0]
            have hb2 : (r != 0) = true := by rw [bne_iff_ne]; exact h0
            clear HX1 HX2 HX3 HX4 HX5 HX6 HX7 HRB HVE h0
            go_wp2_with fail
            (with_reducible refine (HAW.out _).mono ?_)
            rintro e w9 ⟨rfl, hx9⟩
            go_wp2_with fail
            go_ret
            exact ⟨rfl, Y4.trans (X8.trans hx9)⟩
end Go.Proofs.Ytfjecbfcnngacaa
