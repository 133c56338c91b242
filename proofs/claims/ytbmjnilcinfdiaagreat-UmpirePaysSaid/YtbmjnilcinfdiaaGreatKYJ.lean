/- The walk of UmpirePays. -/
import Derived.Test.YtbmjnilcinfdiaaGreatKXI
set_option linter.unusedSimpArgs false
set_option linter.unusedVariables false
namespace Go.Proofs.YtbmjnilcinfdiaaGreat
open Go.RowKit Go.Hs
attribute [local irreducible] World.setCell World.alloc
/-- What Play returns, in a variable. -/
def ResV (c : Cas) (t : List Thr) (W : World) (T : Nat) (w : World) : Prop := ∃ a q, BoxN W T [.slice a c.flds.length q, .int .i64 (sumT c c.flds t).award, .int .i64 (feeA c.fee (sumT c c.flds t)), .int .i64 (feeB c.fee (sumT c c.flds t))] w ∧ IntsV w (.slice a c.flds.length q) (countsT c.flds t)
theorem ResV.made {c : Cas} {t : List Thr} {W A B : World} {t' : TypeId} {a : Option Addr} {q : Nat} (h : IntsV B (.slice a c.flds.length q) (countsT c.flds t)) (hb : Ext B (A.alloc (.cells #[.slice a c.flds.length q, .int .i64 (sumT c c.flds t).award, .int .i64 (feeA c.fee (sumT c c.flds t)), .int .i64 (feeB c.fee (sumT c c.flds t))] t'))) (hx : Ext W A) : ResV c t W A.heap.size (A.alloc (.cells #[.slice a c.flds.length q, .int .i64 (sumT c c.flds t).award, .int .i64 (feeA c.fee (sumT c c.flds t)), .int .i64 (feeB c.fee (sumT c c.flds t))] t')) :=
  ⟨a, q, BoxN.made (vs := [.slice a c.flds.length q, .int .i64 (sumT c c.flds t).award, .int .i64 (feeA c.fee (sumT c c.flds t)), .int .i64 (feeB c.fee (sumT c c.flds t))]) hx, h.ext hb⟩

theorem fresh_set {W w w' : World} {a : Option Addr} {n q T : Nat} {xs : List Int} (h : IntsV w (.slice a n q) xs) (hf : ∀ g o, a = some ⟨g, o, none⟩ → W.heap.size ≤ g) (hT : T < W.heap.size) (hk : KP (fun j => j = T) w w') : IntsV w' (.slice a n q) xs := by
  obtain ⟨a', c, he, h1, h2, hr⟩ := h
  refine ⟨a', c, he, h1, h2, fun i hi => ?_⟩
  obtain ⟨b, o, hb, hx, ho⟩ := hr i hi
  simp only [Value.slice.injEq] at he
  have := hf b o (he.1.trans hb)
  exact ⟨b, o, hb, hk.keep (by omega) hx, ho⟩
theorem KP.four {T : Nat} {w : World} (a b c d : Value) : KP (fun j => j = T) w ((((w.setCell ⟨T, 0, none⟩ a).setCell ⟨T, 1, none⟩ b).setCell ⟨T, 2, none⟩ c).setCell ⟨T, 3, none⟩ d) :=
  KP.setCell (p := fun j => j = T) (KP.setCell (p := fun j => j = T) (KP.setCell (p := fun j => j = T) (KP.setCell (p := fun j => j = T) (KP.refl _) rfl _) rfl _) rfl _) rfl _

set_option maxRecDepth 100000 in
set_option maxHeartbeats 8000000 in
theorem walk_UmpirePays (v : Value) (c : Cas) (aw : Option Addr) (nw cw : Nat) (ws : List Int) (w : World) (hv : CasW w v c) (hw : U8sW w (.slice aw nw cw) ws) :
    Calls Tryz.prog 6 #[v, .slice aw nw cw] w fun e w' => e = .returned (.bool true) ∧ Ext w w' := by
  have HAW := Lib.hid awakeU_any
  have HRD : Hid (∀ W, Ext w W → Calls Tryz.prog 32 #[v] W fun e w' => e = .returned (.bool (readyB c)) ∧ Ext W w') := Lib.hid (fun W hx => readyU_any c v W (hv.ext hx))
  have HV := Lib.hid hv
  obtain ⟨vt, vf, rfl, ht, hf, -, -⟩ := hv
  obtain ⟨a1, c1, rfl, -⟩ := id ht
  obtain ⟨a2, c2, rfl, -⟩ := id hf
  clear ht hf
  cases hr : readyB c with
  | false =>
    rw [hr] at HRD
    clear HV hr hw
    generalize c.tars.length = n1 at *
    generalize c.flds.length = n2 at *
    generalize c.day = day at *
    generalize c.fee = fee at *
    go_enter Tryz.func6, Tryz.ntmps6
    go_wp2_with fail
    (with_reducible refine (HRD.out _ (by (repeat (first | exact Ext.refl _ | (with_reducible assumption) | (with_reducible refine Ext.drew ?_) | (with_reducible refine Ext.alloc ?_ _) | (with_reducible refine Ext.drewN ?_ _) | (with_reducible refine Ext.setCell ?_ (by omega) _) | (with_reducible refine Ext.trans ?_ (by with_reducible assumption)))))).mono ?_)
    rintro e w1 ⟨rfl, hx1⟩
    go_wp2_with fail
    (with_reducible refine (HAW.out _).mono ?_)
    rintro e w2 ⟨rfl, hx2⟩
    go_wp2_with fail
    go_ret
    exact ⟨rfl, by (repeat (first | exact Ext.refl _ | (with_reducible assumption) | (with_reducible refine Ext.drew ?_) | (with_reducible refine Ext.alloc ?_ _) | (with_reducible refine Ext.drewN ?_ _) | (with_reducible refine Ext.setCell ?_ (by omega) _) | (with_reducible refine Ext.trans ?_ (by with_reducible assumption))))⟩
  | true =>
    rw [hr] at HRD
    obtain ⟨htc, hce⟩ := ready_true hr
    have htt := thinCas_tars htc
    have hcv := HV.out.toV htc
    have hok := caseE_zero hce
    have h0 := caseE_tars hce
    have hn3 := hok.few
    have htr := picked_truth hok ws
    have hpl := picked_play hce htr
    obtain ⟨htl, htx⟩ := truthOf_iff.1 htr
    have HPI : Hid (∀ W, Ext w W → Calls Tryz.prog 38 #[.agg #[.slice a1 c.tars.length c1, .int .i64 c.day, .int .i64 c.fee, .slice a2 c.flds.length c2], .slice aw nw cw] W fun e w' => ∃ v', e = .returned v' ∧ ThrsV w' v' (pickedS c ws) ∧ Ext W w') := Lib.hid (fun W hx => pickedU_any c _ ws aw nw cw W (hcv.ext hx) hok (hw.ext hx))
    have HLEN : Hid ((countsT c.flds (pickedS c ws)).length = c.flds.length) := Lib.hid (countsT_len htl)
    have HBD := Lib.hid (award_bd hok h0 htr)
    have HPAY : Hid (∀ k (h1 : k < c.flds.length) (h2 : k < (pickedS c ws).length), (0 ≤ settledS c.flds[k] (pickedS c ws)[k] ∧ settledS c.flds[k] (pickedS c ws)[k] ≤ 100) ∧ payE c.tars (claimF c c.flds[k] (settledS c.flds[k] (pickedS c ws)[k])) c.day (settledS c.flds[k] (pickedS c ws)[k]) = 0) := Lib.hid (fun k h1 h2 => pay_in hok h0 htr h1 h2)
    have HEND : Hid (awardTo c (pickedS c ws) c.flds.length = (sumT c c.flds (pickedS c ws)).award) := Lib.hid (awardTo_len htl)
    have HNX : Hid (∀ k (h1 : k < c.flds.length) (h2 : k < (pickedS c ws).length), awardTo c (pickedS c ws) (k + 1) = awardTo c (pickedS c ws) k + payC c c.flds[k] (settledS c.flds[k] (pickedS c ws)[k])) := Lib.hid (fun k h1 h2 => awardTo_next h1 h2)
    have HCT : Hid (∀ k (h1 : k < c.flds.length) (h2 : k < (pickedS c ws).length) (h : k < (countsT c.flds (pickedS c ws)).length), (countsT c.flds (pickedS c ws))[k] = settledS c.flds[k] (pickedS c ws)[k]) := Lib.hid (fun k h1 h2 h => countsT_at h1 h2 h)
    have HCA : Hid (∀ W, Ext w W → Calls Tryz.prog 18 #[.agg #[.slice a1 c.tars.length c1, .int .i64 c.day, .int .i64 c.fee, .slice a2 c.flds.length c2]] W fun e w' => ∃ v', e = .returned v' ∧ CasV w' v' c ∧ Ext W w') := Lib.hid (fun W hx => Case_any c _ W (hcv.ext hx) htt)
    have HTR : Hid (∀ v' W, ThrsV W v' (pickedS c ws) → Calls Tryz.prog 37 #[v'] W fun e w' => ∃ v', e = .returned v' ∧ ThrsV w' v' (pickedS c ws) ∧ Ext W w') := Lib.hid (fun v' W h => TruthL_any _ v' W h)
    have HPL : Hid (∀ v' u' W, CasV W v' c → ThrsV W u' (pickedS c ws) → Calls Tryz.prog 36 #[v', u'] W fun e w' => ∃ a q, e = .returned (.tuple #[.agg #[.slice a c.flds.length q, .int .i64 (sumT c c.flds (pickedS c ws)).award, .int .i64 (feeA c.fee (sumT c c.flds (pickedS c ws))), .int .i64 (feeB c.fee (sumT c c.flds (pickedS c ws)))], .int .i64 0]) ∧ IntsV w' (.slice a c.flds.length q) (countsT c.flds (pickedS c ws)) ∧ (∀ g o, a = some ⟨g, o, none⟩ → W.heap.size ≤ g) ∧ Ext W w') := Lib.hid (fun v' u' W h1 h2 => (Play_new c v' _ u' W h1 h2 hpl).mono (fun e w' ⟨r, he, a, q, hr, hi, hf, hx⟩ => ⟨a, q, by rw [he, hr], hi, hf, hx⟩))
    have HTF : Hid (∀ W, Ext w W → Calls Tryz.prog 40 #[.slice a1 c.tars.length c1] W fun e w' => ∃ v', e = .returned v' ∧ TarsV w' v' c.tars ∧ Ext W w') := Lib.hid (fun W hx => Tariffs_any _ c.tars W (by
      obtain ⟨vt, vf, e, h1, h2⟩ := hcv
      simp only [Value.agg.injEq, Array.mk.injEq, List.cons.injEq, and_true] at e
      obtain ⟨rfl, -, -, -⟩ := e
      exact TarsV.ext hx h1) htt)
    have HPY := Lib.hid (fun v' (f : Fld) n W (h : TarsV W v' c.tars) => Pay_any v' c.tars (claimF c f n) c.day n W h)
    have HFA := Lib.hid (fun i (hi : i < c.flds.length) => hcv.fld_at hi)
    have HD := Lib.hid hok.day
    clear hcv hok h0 htr hpl htx hw HV hr htc hce htt
    generalize pickedS c ws = t at *
    go_enter Tryz.func6, Tryz.ntmps6
    go_wp2_with fail
    have X : Ext w (w.alloc (.cells #[.slice a1 c.tars.length c1, .int .i64 c.day, .int .i64 c.fee, .slice a2 c.flds.length c2] 25)) := by (repeat (first | exact Ext.refl _ | (with_reducible assumption) | (with_reducible refine Ext.drew ?_) | (with_reducible refine Ext.alloc ?_ _) | (with_reducible refine Ext.drewN ?_ _) | (with_reducible refine Ext.setCell ?_ (by omega) _) | (with_reducible refine Ext.trans ?_ (by with_reducible assumption))))
    have HS : Hid (∀ w', Ext (w.alloc (.cells #[.slice a1 c.tars.length c1, .int .i64 c.day, .int .i64 c.fee, .slice a2 c.flds.length c2] 25)) w' → (w'.cell? ⟨w.heap.size, 0, none⟩ = some (.slice a1 c.tars.length c1) ∧ w'.cell? ⟨w.heap.size, 1, none⟩ = some (.int .i64 c.day) ∧ w'.cell? ⟨w.heap.size, 2, none⟩ = some (.int .i64 c.fee) ∧ w'.cell? ⟨w.heap.size, 3, none⟩ = some (.slice a2 c.flds.length c2)) ∧ Ext (w.alloc (.cells #[.slice a1 c.tars.length c1, .int .i64 c.day, .int .i64 c.fee, .slice a2 c.flds.length c2] 25)) w') := Lib.hid (fun w' hx => ⟨⟨hx.keep (by simp [go_sem]), hx.keep (by simp [go_sem]), hx.keep (by simp [go_sem]), hx.keep (by simp [go_sem])⟩, hx⟩)
    have HSf : Hid (∀ w', Ext (w.alloc (.cells #[.slice a1 c.tars.length c1, .int .i64 c.day, .int .i64 c.fee, .slice a2 c.flds.length c2] 25)) w' → ∀ o, w'.frozen? ⟨w.heap.size, o, none⟩ = false) := Lib.hid (fun w' hx o => (hx.frozen (by simp)).trans (by simp [go_sem]))
    have HSz : w.heap.size + 1 ≤ (w.alloc (.cells #[.slice a1 c.tars.length c1, .int .i64 c.day, .int .i64 c.fee, .slice a2 c.flds.length c2] 25)).heap.size := by simp
    generalize (w.alloc (.cells #[.slice a1 c.tars.length c1, .int .i64 c.day, .int .i64 c.fee, .slice a2 c.flds.length c2] 25)) = W at *
    (with_reducible refine (HRD.out _ X).mono ?_)
    rintro e w1 ⟨rfl, hx1⟩
    have HK : Hid (∀ w', Ext w1 w' → (w'.cell? ⟨w.heap.size, 0, none⟩ = some (.slice a1 c.tars.length c1) ∧ w'.cell? ⟨w.heap.size, 1, none⟩ = some (.int .i64 c.day) ∧ w'.cell? ⟨w.heap.size, 2, none⟩ = some (.int .i64 c.fee) ∧ w'.cell? ⟨w.heap.size, 3, none⟩ = some (.slice a2 c.flds.length c2)) ∧ Ext w1 w') := Lib.hid (fun w' hx => ⟨(HS.out w' (Ext.trans hx1 hx)).1, hx⟩)
    have X1 := Lib.hid (X.trans hx1)
    obtain ⟨q0, q1, q2, q3⟩ := (HK.out w1 (Ext.refl _)).1
    clear X hx1 HRD HS HSf HSz
    go_upto_region 3 with fail
    go_cut [5, 6] from 18 to 26 (fun s5 s6 wx => ∃ T, s5 = .pointer (some ⟨T, 0, none⟩) ∧ s6 = .int .i64 0 ∧ ResV c t w1 T wx)
    case first =>
      clear HPAY HNX HCT HEND HBD HTF HPY HFA HLEN HAW HD
      go_region_held3 (fun w' => (w'.cell? ⟨w.heap.size, 0, none⟩ = some (.slice a1 c.tars.length c1) ∧ w'.cell? ⟨w.heap.size, 1, none⟩ = some (.int .i64 c.day) ∧ w'.cell? ⟨w.heap.size, 2, none⟩ = some (.int .i64 c.fee) ∧ w'.cell? ⟨w.heap.size, 3, none⟩ = some (.slice a2 c.flds.length c2)) ∧ Ext w1 w')
        ((refine HK.out _ ?_; (repeat (first | exact Ext.refl _ | (with_reducible assumption) | (with_reducible refine Ext.drew ?_) | (with_reducible refine Ext.alloc ?_ _) | (with_reducible refine Ext.drewN ?_ _) | (with_reducible refine Ext.setCell ?_ (by omega) _) | (with_reducible refine Ext.trans ?_ (by with_reducible assumption))))))
        (first
          | (go_at_call 18; (refine (HCA.out _ (X1.out.trans (by (repeat (first | exact Ext.refl _ | (with_reducible assumption) | (with_reducible refine Ext.drew ?_) | (with_reducible refine Ext.alloc ?_ _) | (with_reducible refine Ext.drewN ?_ _) | (with_reducible refine Ext.setCell ?_ (by omega) _) | (with_reducible refine Ext.trans ?_ (by with_reducible assumption))))))).mono ?_); rintro e w3 ⟨vc, rfl, hcv, hx3⟩; have s3 := Ext.size hx3; (try simp at s3); (first | have Z := BoxN.zero (W := w1) (zs := [.slice none 0 0, .int .i64 0, .int .i64 0, .int .i64 0]) (by (repeat (first | exact Ext.refl _ | (with_reducible assumption) | (with_reducible refine Ext.drew ?_) | (with_reducible refine Ext.alloc ?_ _) | (with_reducible refine Ext.drewN ?_ _) | (with_reducible refine Ext.setCell ?_ (by omega) _) | (with_reducible refine Ext.trans ?_ (by with_reducible assumption))))) hx3 | have Z := BoxN.zerod (W := w1) (zs := [.slice none 0 0, .int .i64 0, .int .i64 0, .int .i64 0]) (by (repeat (first | exact Ext.refl _ | (with_reducible assumption) | (with_reducible refine Ext.drew ?_) | (with_reducible refine Ext.alloc ?_ _) | (with_reducible refine Ext.drewN ?_ _) | (with_reducible refine Ext.setCell ?_ (by omega) _) | (with_reducible refine Ext.trans ?_ (by with_reducible assumption))))) hx3 | have Z := Z.keep hx3 | skip))
          | (go_at_call 38; (refine (HPI.out _ (X1.out.trans (by (repeat (first | exact Ext.refl _ | (with_reducible assumption) | (with_reducible refine Ext.drew ?_) | (with_reducible refine Ext.alloc ?_ _) | (with_reducible refine Ext.drewN ?_ _) | (with_reducible refine Ext.setCell ?_ (by omega) _) | (with_reducible refine Ext.trans ?_ (by with_reducible assumption))))))).mono ?_); rintro e w4 ⟨vp, rfl, hpv, hx4⟩; have s4 := Ext.size hx4; (try simp at s4); (first | have Z := BoxN.zero (W := w1) (zs := [.slice none 0 0, .int .i64 0, .int .i64 0, .int .i64 0]) (by (repeat (first | exact Ext.refl _ | (with_reducible assumption) | (with_reducible refine Ext.drew ?_) | (with_reducible refine Ext.alloc ?_ _) | (with_reducible refine Ext.drewN ?_ _) | (with_reducible refine Ext.setCell ?_ (by omega) _) | (with_reducible refine Ext.trans ?_ (by with_reducible assumption))))) hx4 | have Z := BoxN.zerod (W := w1) (zs := [.slice none 0 0, .int .i64 0, .int .i64 0, .int .i64 0]) (by (repeat (first | exact Ext.refl _ | (with_reducible assumption) | (with_reducible refine Ext.drew ?_) | (with_reducible refine Ext.alloc ?_ _) | (with_reducible refine Ext.drewN ?_ _) | (with_reducible refine Ext.setCell ?_ (by omega) _) | (with_reducible refine Ext.trans ?_ (by with_reducible assumption))))) hx4 | have Z := Z.keep hx4 | skip))
          | (go_at_call 37; (refine (HTR.out _ _ (ThrsV.ext (by (repeat (first | exact Ext.refl _ | (with_reducible assumption) | (with_reducible refine Ext.drew ?_) | (with_reducible refine Ext.alloc ?_ _) | (with_reducible refine Ext.drewN ?_ _) | (with_reducible refine Ext.setCell ?_ (by omega) _) | (with_reducible refine Ext.trans ?_ (by with_reducible assumption))))) hpv)).mono ?_); rintro e w5 ⟨vq, rfl, hqv, hx5⟩; have s5 := Ext.size hx5; (try simp at s5); (first | have Z := BoxN.zero (W := w1) (zs := [.slice none 0 0, .int .i64 0, .int .i64 0, .int .i64 0]) (by (repeat (first | exact Ext.refl _ | (with_reducible assumption) | (with_reducible refine Ext.drew ?_) | (with_reducible refine Ext.alloc ?_ _) | (with_reducible refine Ext.drewN ?_ _) | (with_reducible refine Ext.setCell ?_ (by omega) _) | (with_reducible refine Ext.trans ?_ (by with_reducible assumption))))) hx5 | have Z := BoxN.zerod (W := w1) (zs := [.slice none 0 0, .int .i64 0, .int .i64 0, .int .i64 0]) (by (repeat (first | exact Ext.refl _ | (with_reducible assumption) | (with_reducible refine Ext.drew ?_) | (with_reducible refine Ext.alloc ?_ _) | (with_reducible refine Ext.drewN ?_ _) | (with_reducible refine Ext.setCell ?_ (by omega) _) | (with_reducible refine Ext.trans ?_ (by with_reducible assumption))))) hx5 | have Z := Z.keep hx5 | skip))
          | (go_at_call 36; (refine (HPL.out _ _ _ (CasV.ext (by (repeat (first | exact Ext.refl _ | (with_reducible assumption) | (with_reducible refine Ext.drew ?_) | (with_reducible refine Ext.alloc ?_ _) | (with_reducible refine Ext.drewN ?_ _) | (with_reducible refine Ext.setCell ?_ (by omega) _) | (with_reducible refine Ext.trans ?_ (by with_reducible assumption))))) hcv) (ThrsV.ext (by (repeat (first | exact Ext.refl _ | (with_reducible assumption) | (with_reducible refine Ext.drew ?_) | (with_reducible refine Ext.alloc ?_ _) | (with_reducible refine Ext.drewN ?_ _) | (with_reducible refine Ext.setCell ?_ (by omega) _) | (with_reducible refine Ext.trans ?_ (by with_reducible assumption))))) hqv)).mono ?_); rintro e w6 ⟨ar, qr, rfl, hri, hfr, hx6⟩; (first | have hT0 := Z.lt | skip); have s6 := Ext.size hx6; (try simp at s6); (first | have Z := BoxN.zero (W := w1) (zs := [.slice none 0 0, .int .i64 0, .int .i64 0, .int .i64 0]) (by (repeat (first | exact Ext.refl _ | (with_reducible assumption) | (with_reducible refine Ext.drew ?_) | (with_reducible refine Ext.alloc ?_ _) | (with_reducible refine Ext.drewN ?_ _) | (with_reducible refine Ext.setCell ?_ (by omega) _) | (with_reducible refine Ext.trans ?_ (by with_reducible assumption))))) hx6 | have Z := BoxN.zerod (W := w1) (zs := [.slice none 0 0, .int .i64 0, .int .i64 0, .int .i64 0]) (by (repeat (first | exact Ext.refl _ | (with_reducible assumption) | (with_reducible refine Ext.drew ?_) | (with_reducible refine Ext.alloc ?_ _) | (with_reducible refine Ext.drewN ?_ _) | (with_reducible refine Ext.setCell ?_ (by omega) _) | (with_reducible refine Ext.trans ?_ (by with_reducible assumption))))) hx6 | have Z := Z.keep hx6 | skip); (first | (have zf := Z.fr; have z0 := Z.cells 0 _ rfl; have z1 := Z.cells 1 _ rfl; have z2 := Z.cells 2 _ rfl; have z3 := Z.cells 3 _ rfl) | skip)))
      all_goals
        go_wp2_with fail
        go_meet
        first
          | exact ⟨_, rfl, rfl, _, _, BoxN.stored4 Z, fresh_set hri hfr (by first | exact hT0 | simp | simpa using hT0) (KP.four _ _ _ _)⟩
          | exact ⟨_, rfl, rfl, ResV.made hri (by (repeat (first | exact Ext.refl _ | (with_reducible assumption) | (with_reducible refine Ext.drew ?_) | (with_reducible refine Ext.alloc ?_ _) | (with_reducible refine Ext.drewN ?_ _) | (with_reducible refine Ext.setCell ?_ (by omega) _) | (with_reducible refine Ext.trans ?_ (by with_reducible assumption))))) (by (repeat (first | exact Ext.refl _ | (with_reducible assumption) | (with_reducible refine Ext.drew ?_) | (with_reducible refine Ext.alloc ?_ _) | (with_reducible refine Ext.drewN ?_ _) | (with_reducible refine Ext.setCell ?_ (by omega) _) | (with_reducible refine Ext.trans ?_ (by with_reducible assumption)))))⟩
    case rest =>
      obtain ⟨T, rfl, rfl, ar, qr, hb, hri⟩ := hcut
      obtain ⟨W3, rfl⟩ : ∃ x, x = wc := ⟨_, rfl⟩
      have HX3 := Lib.hid hb.ext
      have HSS : Hid (∀ w', Ext W3 w' → (w'.cell? ⟨w.heap.size, 0, none⟩ = some (.slice a1 c.tars.length c1) ∧ w'.cell? ⟨w.heap.size, 1, none⟩ = some (.int .i64 c.day) ∧ w'.cell? ⟨w.heap.size, 3, none⟩ = some (.slice a2 c.flds.length c2)) ∧ (w'.cell? ⟨T, 0, none⟩ = some (.slice ar c.flds.length qr) ∧ w'.cell? ⟨T, 1, none⟩ = some (.int .i64 (sumT c c.flds t).award))) := Lib.hid (fun w' hx => by
        obtain ⟨⟨q0, q1, q2, q3⟩, -⟩ := HK.out w' (hb.ext.trans hx)
        exact ⟨⟨q0, q1, q3⟩, hx.keep (hb.cells 0 _ rfl), hx.keep (hb.cells 1 _ rfl)⟩)
      have HRI := Lib.hid hri
      obtain ⟨⟨q0, q1, q3⟩, z0, z1⟩ := HSS.out W3 (Ext.refl _)
      clear hb hri HK HCA HPI HTR HPL
      go_wp2_with fail
      go_loopw [7, 8] (fun s7 s8 wr => ∃ k : Nat, k ≤ c.flds.length ∧ s8 = .int .i64 k ∧ s7 = .int .i64 (awardTo c t k) ∧ Ext W3 wr) (fun _ s _ => c.flds.length - (intOf s).toNat)
      case atStart => exact ⟨0, Nat.zero_le _, rfl, rfl, Ext.refl _⟩
      case round =>
        clear q0 q1 q3 z0 z1
        obtain ⟨k, hk, rfl, rfl, hx⟩ := hrel
        obtain ⟨wo, rfl⟩ : ∃ x, x = wr := ⟨_, rfl⟩
        obtain ⟨⟨q0, q1, q3⟩, z0, z1⟩ := HSS.out wo hx
        by_cases hlt : k < c.flds.length
        · have hlt2 : k < t.length := by omega
          have hlt3 : k < (countsT c.flds t).length := by rw [HLEN.out]; exact hlt
          obtain ⟨b, off, rfl, hce⟩ := HFA.out k hlt
          have XO := (X1.out.trans HX3.out).trans hx
          have hce := hce.ext XO
          obtain ⟨br, or, rfl, hcr⟩ := (HRI.out.ext hx).get k hlt3
          have hcr' : (countsT c.flds t).getD k 0 = settledS c.flds[k] t[k] := by rw [List.getD_eq_getElem?_getD, List.getElem?_eq_getElem hlt3]; exact HCT.out k hlt hlt2 hlt3
          rw [hcr'] at hcr
          obtain ⟨hsb, hpe⟩ := HPAY.out k hlt hlt2
          have HN := Lib.hid (HNX.out k hlt hlt2)
          have hA := HBD.out k hk
          have hA1 := HBD.out (k + 1) hlt
          have HPY1 := Lib.hid (fun v' W (h : TarsV W v' c.tars) => HPY.out v' c.flds[k] (settledS c.flds[k] t[k]) W h)
          have HPN : Hid (payN c.tars (claimF c c.flds[k] (settledS c.flds[k] t[k])) c.day (settledS c.flds[k] t[k]) = payC c c.flds[k] (settledS c.flds[k] t[k])) := rfl
          rw [HN.out] at hA1
          rw [hpe, HPN.out] at HPY1
          generalize payC c c.flds[k] (settledS c.flds[k] t[k]) = m at *
          generalize settledS c.flds[k] t[k] = n at *
          generalize c.flds[k] = f at *
          generalize awardTo c t k = A at *
          have HN1 := Lib.hid HN.out
          clear HN
          have hw1 : IntKind.i64.wrap (A + m) = A + m := IntWalk.i64_in _ (by omega)
          obtain ⟨cr, va, ne, al, ah, bl, bh, ul, uh⟩ := f
          simp only [Fld.c, claimF, Cla.u, V6.val] at *
          obtain ⟨m0, m1, m2, m3, m4, m5, m6, m7, m8⟩ := hce
          have hk0 : (0 : Int) ≤ (k : Int) := by omega
          have hki : (k : Int) < (c.flds.length : Int) := by omega
          have HXO := Lib.hid XO
          clear hcr' hpe HPY HPN HNX HPAY HCT HFA HBD hA hA1 XO hsb
          go_upto_region 10 with fail
          go_cut [9, 10] from 45 to 54 (fun s9 s10 wx => ∃ B, s9 = .pointer (some ⟨B, 0, none⟩) ∧ s10 = .int .i64 n ∧ BoxN wo B [.int .i64 cr, .int .i64 va, .int .i64 ne, .int .i64 al, .int .i64 ah, .int .i64 bl, .int .i64 bh, .int .i64 ul, .int .i64 uh] wx)
          case first =>
            clear HPY1 HTF HSS HRI HAW HEND HLEN HX3 HXO HN1 X1
            have y0 := fun o => ((Ext.refl wo).alloc o).keep q3
            have y1 := fun o => ((Ext.refl wo).alloc o).keep z0
            have y2 := fun o => ((Ext.refl wo).alloc o).keep hcr
            have n0 := fun o => ((Ext.refl wo).alloc o).keep m0
            have n1 := fun o => ((Ext.refl wo).alloc o).keep m1
            have n2 := fun o => ((Ext.refl wo).alloc o).keep m2
            have n3 := fun o => ((Ext.refl wo).alloc o).keep m3
            have n4 := fun o => ((Ext.refl wo).alloc o).keep m4
            have n5 := fun o => ((Ext.refl wo).alloc o).keep m5
            have n6 := fun o => ((Ext.refl wo).alloc o).keep m6
            have n7 := fun o => ((Ext.refl wo).alloc o).keep m7
            have n8 := fun o => ((Ext.refl wo).alloc o).keep m8
            go_region
            all_goals
              go_wp2_with fail
              go_meet
              first
                | exact ⟨_, rfl, rfl, BoxN.made (vs := [.int .i64 cr, .int .i64 va, .int .i64 ne, .int .i64 al, .int .i64 ah, .int .i64 bl, .int .i64 bh, .int .i64 ul, .int .i64 uh]) (by (repeat (first | exact Ext.refl _ | (with_reducible assumption) | (with_reducible refine Ext.drew ?_) | (with_reducible refine Ext.alloc ?_ _) | (with_reducible refine Ext.drewN ?_ _) | (with_reducible refine Ext.setCell ?_ (by omega) _) | (with_reducible refine Ext.trans ?_ (by with_reducible assumption)))))⟩
                | exact ⟨_, rfl, rfl, (BoxN.made (vs := [.int .i64 cr, .int .i64 va, .int .i64 ne, .int .i64 al, .int .i64 ah, .int .i64 bl, .int .i64 bh, .int .i64 ul, .int .i64 uh]) (by (repeat (first | exact Ext.refl _ | (with_reducible assumption) | (with_reducible refine Ext.drew ?_) | (with_reducible refine Ext.alloc ?_ _) | (with_reducible refine Ext.drewN ?_ _) | (with_reducible refine Ext.setCell ?_ (by omega) _) | (with_reducible refine Ext.trans ?_ (by with_reducible assumption)))))).keep ((Ext.refl _).drew)⟩
                | exact ⟨_, rfl, rfl, BoxN.stored9 (BoxN.made (vs := [.int .i64 0, .int .i64 0, .int .i64 0, .int .i64 0, .int .i64 0, .int .i64 0, .int .i64 0, .int .i64 0, .int .i64 0]) (by (repeat (first | exact Ext.refl _ | (with_reducible assumption) | (with_reducible refine Ext.drew ?_) | (with_reducible refine Ext.alloc ?_ _) | (with_reducible refine Ext.drewN ?_ _) | (with_reducible refine Ext.setCell ?_ (by omega) _) | (with_reducible refine Ext.trans ?_ (by with_reducible assumption))))))⟩
                | exact ⟨_, rfl, rfl, BoxN.stored9 ((BoxN.made (vs := [.int .i64 0, .int .i64 0, .int .i64 0, .int .i64 0, .int .i64 0, .int .i64 0, .int .i64 0, .int .i64 0, .int .i64 0]) (by (repeat (first | exact Ext.refl _ | (with_reducible assumption) | (with_reducible refine Ext.drew ?_) | (with_reducible refine Ext.alloc ?_ _) | (with_reducible refine Ext.drewN ?_ _) | (with_reducible refine Ext.setCell ?_ (by omega) _) | (with_reducible refine Ext.trans ?_ (by with_reducible assumption)))))).keep ((Ext.refl _).drew))⟩
          case rest =>
            obtain ⟨B, rfl, rfl, hbx⟩ := hcut
            obtain ⟨W5, rfl⟩ : ∃ x, x = wc := ⟨_, rfl⟩
            have HX5 := Lib.hid (hx.trans hbx.ext)
            have HXT := Lib.hid (HXO.out.trans hbx.ext)
            have HSB : Hid (∀ w', Ext W5 w' → ((w'.cell? ⟨w.heap.size, 0, none⟩ = some (.slice a1 c.tars.length c1) ∧ w'.cell? ⟨w.heap.size, 1, none⟩ = some (.int .i64 c.day)) ∧ (w'.cell? ⟨B, 0, none⟩ = some (.int .i64 cr) ∧ w'.cell? ⟨B, 1, none⟩ = some (.int .i64 va))) ∧ Ext W5 w') := Lib.hid (fun w' hx' => by
              obtain ⟨⟨q0, q1, q3⟩, -⟩ := HSS.out w' (HX5.out.trans hx')
              exact ⟨⟨⟨q0, q1⟩, hx'.keep (hbx.cells 0 _ rfl), hx'.keep (hbx.cells 1 _ rfl)⟩, hx'⟩)
            clear hbx hx m0 m1 m2 m3 m4 m5 m6 m7 m8 q0 q1 q3 z0 z1 HSS HRI hcr HXO HX3 X1
            go_upto_region 11 with fail
            go_region_held3 (fun w' => ((w'.cell? ⟨w.heap.size, 0, none⟩ = some (.slice a1 c.tars.length c1) ∧ w'.cell? ⟨w.heap.size, 1, none⟩ = some (.int .i64 c.day)) ∧ (w'.cell? ⟨B, 0, none⟩ = some (.int .i64 cr) ∧ w'.cell? ⟨B, 1, none⟩ = some (.int .i64 va))) ∧ Ext W5 w')
              ((refine HSB.out _ ?_; (repeat (first | exact Ext.refl _ | (with_reducible assumption) | (with_reducible refine Ext.drew ?_) | (with_reducible refine Ext.alloc ?_ _) | (with_reducible refine Ext.drewN ?_ _) | (with_reducible refine Ext.setCell ?_ (by omega) _) | (with_reducible refine Ext.trans ?_ (by with_reducible assumption))))))
              (first
                | (go_at_call 40; (refine (HTF.out _ (HXT.out.trans (by (repeat (first | exact Ext.refl _ | (with_reducible assumption) | (with_reducible refine Ext.drew ?_) | (with_reducible refine Ext.alloc ?_ _) | (with_reducible refine Ext.drewN ?_ _) | (with_reducible refine Ext.setCell ?_ (by omega) _) | (with_reducible refine Ext.trans ?_ (by with_reducible assumption))))))).mono ?_); rintro e w7 ⟨vt, rfl, htv, hx7⟩)
                | (go_at_call 39; (refine (HPY1.out _ _ (TarsV.ext (by (repeat (first | exact Ext.refl _ | (with_reducible assumption) | (with_reducible refine Ext.drew ?_) | (with_reducible refine Ext.alloc ?_ _) | (with_reducible refine Ext.drewN ?_ _) | (with_reducible refine Ext.setCell ?_ (by omega) _) | (with_reducible refine Ext.trans ?_ (by with_reducible assumption))))) htv)).mono ?_); rintro e w8 ⟨rfl, hx8⟩))
            all_goals
              have hxz : Ext W5 w8 := by (repeat (first | exact Ext.refl _ | (with_reducible assumption) | (with_reducible refine Ext.drew ?_) | (with_reducible refine Ext.alloc ?_ _) | (with_reducible refine Ext.drewN ?_ _) | (with_reducible refine Ext.setCell ?_ (by omega) _) | (with_reducible refine Ext.trans ?_ (by with_reducible assumption))))
              have HXZ := Lib.hid (HX5.out.trans hxz)
              clear hxz hx7 hx8 htv
              go_wp2_with fail
              go_roundw
              case rel => exact ⟨k + 1, by omega, by go_num, by rw [HN1.out], by have := HXZ.out; (repeat (first | exact Ext.refl _ | (with_reducible assumption) | (with_reducible refine Ext.drew ?_) | (with_reducible refine Ext.alloc ?_ _) | (with_reducible refine Ext.drewN ?_ _) | (with_reducible refine Ext.setCell ?_ (by omega) _) | (with_reducible refine Ext.trans ?_ (by with_reducible assumption))))⟩
              case measure => simp [intOf]; omega
        · have ek : k = c.flds.length := by omega
          subst ek
          rw [HEND.out]
          have XO := (X1.out.trans HX3.out).trans hx
          clear HFA HPAY HNX HCT HEND HBD HTF HPY HLEN HSS HRI
          generalize (sumT c c.flds t).award = A at *
          go_wp2_with fail
          (with_reducible refine (HAW.out _).mono ?_)
          rintro e w9 ⟨rfl, hx9⟩
          go_wp2_with fail
          go_ret
          exact ⟨rfl, by (repeat (first | exact Ext.refl _ | (with_reducible assumption) | (with_reducible refine Ext.drew ?_) | (with_reducible refine Ext.alloc ?_ _) | (with_reducible refine Ext.drewN ?_ _) | (with_reducible refine Ext.setCell ?_ (by omega) _) | (with_reducible refine Ext.trans ?_ (by with_reducible assumption))))⟩
end Go.Proofs.YtbmjnilcinfdiaaGreat
