/- Contracts of the reference of layer 7: the outcome of a field. -/
import Derived.Test.YtedblocbcjoolaaGreatKB5
set_option linter.unusedSimpArgs false
set_option linter.unusedVariables false
namespace Go.Proofs.YtedblocbcjoolaaGreat
open Go.RowKit Go.Hs
attribute [local irreducible] World.setCell World.alloc

set_option maxRecDepth 100000 in
set_option maxHeartbeats 16000000 in
theorem ROf_any (c : Cas) (v : Value) (f : Fld) (x : Thr) (w : World) (hv : CasV w v c) (hc : CasOK c) (h0 : checkS c.tars = 0) (hf : FldOK c.tars f) (hx : ThrOK f x) :
    Calls Tryz.prog 62 #[v, f.c.val, x.c.val] w fun e w' => e = .returned (ocS c f x).v ∧ Ext w w' := by
  have hA := hf.a; have hB := hf.b; have hxa := hx.a; have hxb := hx.b
  have ha : 0 ≤ x.a ∧ x.a ≤ 100 := by omega
  have hb : 0 ≤ x.b ∧ x.b ≤ 100 := by omega
  have hst := settled_bd (f := f) (x := x) ha hb
  have HSE := Lib.hid (Settled_any f x ha hb)
  have HIC := Lib.hid (IsCalled_any f x ha hb)
  have HF1 := Lib.hid (Far_any x.a (settledS f x) (by omega))
  have HF2 := Lib.hid (Far_any x.b (settledS f x) (by omega))
  have HPY : Hid (∀ W, Ext w W → Calls Tryz.prog 80 #[v, f.c.val, .int .i64 (settledS f x)] W fun e w' => e = .returned (.int .i64 (payC c f (settledS f x))) ∧ Ext W w') := Lib.hid (fun W hx => RPay_any c v f _ W (hv.ext hx) hc h0 hf hst)
  have HL0 : Hid (calledB f x = false → lostS f x = 0) := Lib.hid lost_calm
  have HL1 : Hid (calledB f x = true → absI (x.b - settledS f x) < absI (x.a - settledS f x) → lostS f x = 1) := Lib.hid lost_farmer
  have HL2 : Hid (calledB f x = true → absI (x.a - settledS f x) < absI (x.b - settledS f x) → lostS f x = -1) := Lib.hid lost_society
  have HL3 : Hid (¬ absI (x.a - settledS f x) < absI (x.b - settledS f x) → ¬ absI (x.b - settledS f x) < absI (x.a - settledS f x) → lostS f x = 0) := Lib.hid lost_even
  have HV : Hid ((ocS c f x).v = .agg #[.int .i64 (payC c f (settledS f x)), .bool (calledB f x), .int .i64 (lostS f x)]) := rfl
  generalize (ocS c f x).v = res at *
  generalize payC c f (settledS f x) = pc at *
  generalize lostS f x = lo at *
  generalize calledB f x = cb at *
  generalize settledS f x = st at *
  obtain ⟨a1, c1, a2, c2, rfl, -, -, -, -, -⟩ := hv.open
  clear hA hB hxa hxb ha hb hst hv hc h0 hf hx
  obtain ⟨cr, va, ne, al, ah, bl, bh, ul, uh⟩ := f
  obtain ⟨A, B, U⟩ := x
  simp only [Fld.c, Thr.c, casV] at *
  generalize absI (A - st) = da at *
  generalize absI (B - st) = db at *
  go_enter Tryz.func62, Tryz.ntmps62
  go_wp2_with fail
  have X : Ext w ((((w.alloc (.cells #[.slice a1 c.tars.length c1, .int .i64 c.day, .int .i64 c.fee, .slice a2 c.flds.length c2] 25)).alloc (.cells #[.int .i64 cr, .int .i64 va, .int .i64 ne, .int .i64 al, .int .i64 ah, .int .i64 bl, .int .i64 bh, .int .i64 ul, .int .i64 uh] 76)).alloc (.cells #[.int .i64 A, .int .i64 B, .int .i64 U] 132)).alloc (.cells #[.int .i64 0, .bool false, .int .i64 0] 128)) := by (repeat (first | exact Ext.refl _ | (with_reducible assumption) | (with_reducible refine Ext.drew ?_) | (with_reducible refine Ext.alloc ?_ _) | (with_reducible refine Ext.drewN ?_ _) | (with_reducible refine Ext.setCell ?_ (by omega) _) | (with_reducible refine Ext.trans ?_ (by with_reducible assumption))))
  have HS : Hid (∀ w', Ext ((((w.alloc (.cells #[.slice a1 c.tars.length c1, .int .i64 c.day, .int .i64 c.fee, .slice a2 c.flds.length c2] 25)).alloc (.cells #[.int .i64 cr, .int .i64 va, .int .i64 ne, .int .i64 al, .int .i64 ah, .int .i64 bl, .int .i64 bh, .int .i64 ul, .int .i64 uh] 76)).alloc (.cells #[.int .i64 A, .int .i64 B, .int .i64 U] 132)).alloc (.cells #[.int .i64 0, .bool false, .int .i64 0] 128)) w' → (w'.cell? ⟨w.heap.size, 0, none⟩ = some (.slice a1 c.tars.length c1) ∧ w'.cell? ⟨w.heap.size, 1, none⟩ = some (.int .i64 c.day) ∧ w'.cell? ⟨w.heap.size, 2, none⟩ = some (.int .i64 c.fee) ∧ w'.cell? ⟨w.heap.size, 3, none⟩ = some (.slice a2 c.flds.length c2) ∧ w'.cell? ⟨w.heap.size + 1, 0, none⟩ = some (.int .i64 cr) ∧ w'.cell? ⟨w.heap.size + 1, 1, none⟩ = some (.int .i64 va) ∧ w'.cell? ⟨w.heap.size + 1, 2, none⟩ = some (.int .i64 ne) ∧ w'.cell? ⟨w.heap.size + 1, 3, none⟩ = some (.int .i64 al) ∧ w'.cell? ⟨w.heap.size + 1, 4, none⟩ = some (.int .i64 ah) ∧ w'.cell? ⟨w.heap.size + 1, 5, none⟩ = some (.int .i64 bl) ∧ w'.cell? ⟨w.heap.size + 1, 6, none⟩ = some (.int .i64 bh) ∧ w'.cell? ⟨w.heap.size + 1, 7, none⟩ = some (.int .i64 ul) ∧ w'.cell? ⟨w.heap.size + 1, 8, none⟩ = some (.int .i64 uh) ∧ w'.cell? ⟨w.heap.size + 1 + 1, 0, none⟩ = some (.int .i64 A) ∧ w'.cell? ⟨w.heap.size + 1 + 1, 1, none⟩ = some (.int .i64 B) ∧ w'.cell? ⟨w.heap.size + 1 + 1, 2, none⟩ = some (.int .i64 U) ∧ w'.cell? ⟨w.heap.size + 1 + 1 + 1, 0, none⟩ = some (.int .i64 0) ∧ w'.cell? ⟨w.heap.size + 1 + 1 + 1, 1, none⟩ = some (.bool false) ∧ w'.cell? ⟨w.heap.size + 1 + 1 + 1, 2, none⟩ = some (.int .i64 0)) ∧ Ext ((((w.alloc (.cells #[.slice a1 c.tars.length c1, .int .i64 c.day, .int .i64 c.fee, .slice a2 c.flds.length c2] 25)).alloc (.cells #[.int .i64 cr, .int .i64 va, .int .i64 ne, .int .i64 al, .int .i64 ah, .int .i64 bl, .int .i64 bh, .int .i64 ul, .int .i64 uh] 76)).alloc (.cells #[.int .i64 A, .int .i64 B, .int .i64 U] 132)).alloc (.cells #[.int .i64 0, .bool false, .int .i64 0] 128)) w') := Lib.hid (fun w' hx => ⟨⟨hx.keep (by simp [go_sem]), hx.keep (by simp [go_sem]), hx.keep (by simp [go_sem]), hx.keep (by simp [go_sem]), hx.keep (by simp [go_sem]), hx.keep (by simp [go_sem]), hx.keep (by simp [go_sem]), hx.keep (by simp [go_sem]), hx.keep (by simp [go_sem]), hx.keep (by simp [go_sem]), hx.keep (by simp [go_sem]), hx.keep (by simp [go_sem]), hx.keep (by simp [go_sem]), hx.keep (by simp [go_sem]), hx.keep (by simp [go_sem]), hx.keep (by simp [go_sem]), hx.keep (by simp [go_sem]), hx.keep (by simp [go_sem]), hx.keep (by simp [go_sem])⟩, hx⟩)
  have HSf : Hid (∀ w', Ext ((((w.alloc (.cells #[.slice a1 c.tars.length c1, .int .i64 c.day, .int .i64 c.fee, .slice a2 c.flds.length c2] 25)).alloc (.cells #[.int .i64 cr, .int .i64 va, .int .i64 ne, .int .i64 al, .int .i64 ah, .int .i64 bl, .int .i64 bh, .int .i64 ul, .int .i64 uh] 76)).alloc (.cells #[.int .i64 A, .int .i64 B, .int .i64 U] 132)).alloc (.cells #[.int .i64 0, .bool false, .int .i64 0] 128)) w' → ∀ o, w'.frozen? ⟨w.heap.size + 1 + 1 + 1, o, none⟩ = false) := Lib.hid (fun w' hx o => (hx.frozen (by simp)).trans (by simp [go_sem]))
  have HSz : w.heap.size + 1 + 1 + 1 + 1 ≤ ((((w.alloc (.cells #[.slice a1 c.tars.length c1, .int .i64 c.day, .int .i64 c.fee, .slice a2 c.flds.length c2] 25)).alloc (.cells #[.int .i64 cr, .int .i64 va, .int .i64 ne, .int .i64 al, .int .i64 ah, .int .i64 bl, .int .i64 bh, .int .i64 ul, .int .i64 uh] 76)).alloc (.cells #[.int .i64 A, .int .i64 B, .int .i64 U] 132)).alloc (.cells #[.int .i64 0, .bool false, .int .i64 0] 128)).heap.size := by simp
  generalize ((((w.alloc (.cells #[.slice a1 c.tars.length c1, .int .i64 c.day, .int .i64 c.fee, .slice a2 c.flds.length c2] 25)).alloc (.cells #[.int .i64 cr, .int .i64 va, .int .i64 ne, .int .i64 al, .int .i64 ah, .int .i64 bl, .int .i64 bh, .int .i64 ul, .int .i64 uh] 76)).alloc (.cells #[.int .i64 A, .int .i64 B, .int .i64 U] 132)).alloc (.cells #[.int .i64 0, .bool false, .int .i64 0] 128)) = W at *
  (with_reducible refine (HSE.out _).mono ?_)
  rintro e wa ⟨rfl, hxa⟩
  go_wp2_with fail
  have HK : Hid (∀ w', Ext wa w' → (w'.cell? ⟨w.heap.size, 0, none⟩ = some (.slice a1 c.tars.length c1) ∧ w'.cell? ⟨w.heap.size, 1, none⟩ = some (.int .i64 c.day) ∧ w'.cell? ⟨w.heap.size, 2, none⟩ = some (.int .i64 c.fee) ∧ w'.cell? ⟨w.heap.size, 3, none⟩ = some (.slice a2 c.flds.length c2) ∧ w'.cell? ⟨w.heap.size + 1, 0, none⟩ = some (.int .i64 cr) ∧ w'.cell? ⟨w.heap.size + 1, 1, none⟩ = some (.int .i64 va) ∧ w'.cell? ⟨w.heap.size + 1, 2, none⟩ = some (.int .i64 ne) ∧ w'.cell? ⟨w.heap.size + 1, 3, none⟩ = some (.int .i64 al) ∧ w'.cell? ⟨w.heap.size + 1, 4, none⟩ = some (.int .i64 ah) ∧ w'.cell? ⟨w.heap.size + 1, 5, none⟩ = some (.int .i64 bl) ∧ w'.cell? ⟨w.heap.size + 1, 6, none⟩ = some (.int .i64 bh) ∧ w'.cell? ⟨w.heap.size + 1, 7, none⟩ = some (.int .i64 ul) ∧ w'.cell? ⟨w.heap.size + 1, 8, none⟩ = some (.int .i64 uh) ∧ w'.cell? ⟨w.heap.size + 1 + 1, 0, none⟩ = some (.int .i64 A) ∧ w'.cell? ⟨w.heap.size + 1 + 1, 1, none⟩ = some (.int .i64 B) ∧ w'.cell? ⟨w.heap.size + 1 + 1, 2, none⟩ = some (.int .i64 U) ∧ w'.cell? ⟨w.heap.size + 1 + 1 + 1, 0, none⟩ = some (.int .i64 0) ∧ w'.cell? ⟨w.heap.size + 1 + 1 + 1, 1, none⟩ = some (.bool false) ∧ w'.cell? ⟨w.heap.size + 1 + 1 + 1, 2, none⟩ = some (.int .i64 0)) ∧ Ext wa w') := Lib.hid (fun w' hx => ⟨(HS.out w' (Ext.trans hxa hx)).1, hx⟩)
  have X2 := X.trans hxa
  have HF := Lib.hid (fun o => (hxa.frozen (k := w.heap.size + 1 + 1 + 1) (o := o) (by omega)).trans (HSf.out _ (Ext.refl _) o))
  have hza := hxa.size
  go_upto_region 2 with fail
  go_cut [8] from 12 to 19 (fun sA wx => ∃ T, sA = .pointer (some ⟨T, 0, none⟩) ∧ BoxN wa T [.int .i64 pc, .bool cb, .int .i64 0] wx)
  case first =>
    go_region_held3 (fun w' => (w'.cell? ⟨w.heap.size, 0, none⟩ = some (.slice a1 c.tars.length c1) ∧ w'.cell? ⟨w.heap.size, 1, none⟩ = some (.int .i64 c.day) ∧ w'.cell? ⟨w.heap.size, 2, none⟩ = some (.int .i64 c.fee) ∧ w'.cell? ⟨w.heap.size, 3, none⟩ = some (.slice a2 c.flds.length c2) ∧ w'.cell? ⟨w.heap.size + 1, 0, none⟩ = some (.int .i64 cr) ∧ w'.cell? ⟨w.heap.size + 1, 1, none⟩ = some (.int .i64 va) ∧ w'.cell? ⟨w.heap.size + 1, 2, none⟩ = some (.int .i64 ne) ∧ w'.cell? ⟨w.heap.size + 1, 3, none⟩ = some (.int .i64 al) ∧ w'.cell? ⟨w.heap.size + 1, 4, none⟩ = some (.int .i64 ah) ∧ w'.cell? ⟨w.heap.size + 1, 5, none⟩ = some (.int .i64 bl) ∧ w'.cell? ⟨w.heap.size + 1, 6, none⟩ = some (.int .i64 bh) ∧ w'.cell? ⟨w.heap.size + 1, 7, none⟩ = some (.int .i64 ul) ∧ w'.cell? ⟨w.heap.size + 1, 8, none⟩ = some (.int .i64 uh) ∧ w'.cell? ⟨w.heap.size + 1 + 1, 0, none⟩ = some (.int .i64 A) ∧ w'.cell? ⟨w.heap.size + 1 + 1, 1, none⟩ = some (.int .i64 B) ∧ w'.cell? ⟨w.heap.size + 1 + 1, 2, none⟩ = some (.int .i64 U) ∧ w'.cell? ⟨w.heap.size + 1 + 1 + 1, 0, none⟩ = some (.int .i64 0) ∧ w'.cell? ⟨w.heap.size + 1 + 1 + 1, 1, none⟩ = some (.bool false) ∧ w'.cell? ⟨w.heap.size + 1 + 1 + 1, 2, none⟩ = some (.int .i64 0)) ∧ Ext wa w')
      ((refine HK.out _ ?_; (repeat (first | exact Ext.refl _ | (with_reducible assumption) | (with_reducible refine Ext.drew ?_) | (with_reducible refine Ext.alloc ?_ _) | (with_reducible refine Ext.drewN ?_ _) | (with_reducible refine Ext.setCell ?_ (by omega) _) | (with_reducible refine Ext.trans ?_ (by with_reducible assumption))))))
      (first
        | (go_at_call 80; (refine (HPY.out _ (X2.trans (by (repeat (first | exact Ext.refl _ | (with_reducible assumption) | (with_reducible refine Ext.drew ?_) | (with_reducible refine Ext.alloc ?_ _) | (with_reducible refine Ext.drewN ?_ _) | (with_reducible refine Ext.setCell ?_ (by omega) _) | (with_reducible refine Ext.trans ?_ (by with_reducible assumption))))))).mono ?_); rintro e w3 ⟨rfl, hx3⟩; have shx3 := Ext.size hx3; (try simp at shx3); (first | have Z := BoxN.zero (W := wa) (zs := [.int .i64 0, .bool false, .int .i64 0]) (by (repeat (first | exact Ext.refl _ | (with_reducible assumption) | (with_reducible refine Ext.drew ?_) | (with_reducible refine Ext.alloc ?_ _) | (with_reducible refine Ext.drewN ?_ _) | (with_reducible refine Ext.setCell ?_ (by omega) _) | (with_reducible refine Ext.trans ?_ (by with_reducible assumption))))) hx3 | have Z := BoxN.zerod (W := wa) (zs := [.int .i64 0, .bool false, .int .i64 0]) (by (repeat (first | exact Ext.refl _ | (with_reducible assumption) | (with_reducible refine Ext.drew ?_) | (with_reducible refine Ext.alloc ?_ _) | (with_reducible refine Ext.drewN ?_ _) | (with_reducible refine Ext.setCell ?_ (by omega) _) | (with_reducible refine Ext.trans ?_ (by with_reducible assumption))))) hx3 | have Z := Z.keep hx3 | skip); (first | (have z0 := Z.cells 0 _ rfl; have z1 := Z.cells 1 _ rfl; have z2 := Z.cells 2 _ rfl; have zf := Z.fr) | skip))
        | (go_at_call 81; (refine (HIC.out _).mono ?_); rintro e w4 ⟨rfl, hx4⟩; have shx4 := Ext.size hx4; (try simp at shx4); (first | have Z := BoxN.zero (W := wa) (zs := [.int .i64 0, .bool false, .int .i64 0]) (by (repeat (first | exact Ext.refl _ | (with_reducible assumption) | (with_reducible refine Ext.drew ?_) | (with_reducible refine Ext.alloc ?_ _) | (with_reducible refine Ext.drewN ?_ _) | (with_reducible refine Ext.setCell ?_ (by omega) _) | (with_reducible refine Ext.trans ?_ (by with_reducible assumption))))) hx4 | have Z := BoxN.zerod (W := wa) (zs := [.int .i64 0, .bool false, .int .i64 0]) (by (repeat (first | exact Ext.refl _ | (with_reducible assumption) | (with_reducible refine Ext.drew ?_) | (with_reducible refine Ext.alloc ?_ _) | (with_reducible refine Ext.drewN ?_ _) | (with_reducible refine Ext.setCell ?_ (by omega) _) | (with_reducible refine Ext.trans ?_ (by with_reducible assumption))))) hx4 | have Z := Z.keep hx4 | skip); (first | (have z0 := Z.cells 0 _ rfl; have z1 := Z.cells 1 _ rfl; have z2 := Z.cells 2 _ rfl; have zf := Z.fr) | skip)))
    all_goals
      go_wp2_with fail
      go_meet
      first
        | exact ⟨_, rfl, BoxN.stored3 Z⟩
        | exact ⟨_, rfl, BoxN.stored3 (Z.keep ((Ext.refl _).drew))⟩
        | exact ⟨_, rfl, BoxN.made (vs := [.int .i64 pc, .bool cb, .int .i64 0]) (by (repeat (first | exact Ext.refl _ | (with_reducible assumption) | (with_reducible refine Ext.drew ?_) | (with_reducible refine Ext.alloc ?_ _) | (with_reducible refine Ext.drewN ?_ _) | (with_reducible refine Ext.setCell ?_ (by omega) _) | (with_reducible refine Ext.trans ?_ (by with_reducible assumption)))))⟩
  case rest =>
    obtain ⟨T, rfl, hb⟩ := hcut
    obtain ⟨wb, rfl⟩ : ∃ x, x = wc := ⟨_, rfl⟩
    have hxb := hb.ext
    have b0 := hb.cells 0 _ rfl
    have b1 := hb.cells 1 _ rfl
    have b2 := hb.cells 2 _ rfl
    have bf := hb.fr
    have hTg := hb.ge
    have hTl := hb.lt
    have hzb := hxb.size
    have HNE : w.heap.size + 1 + 1 + 1 ≠ T := by omega
    have HNE' : T ≠ w.heap.size + 1 + 1 + 1 := by omega
    clear HSE HPY HIC HS HSf hb hxa X
    cases cb with
    | false =>
      have HE := Lib.hid (HL0.out rfl)
      clear HL0 HL1 HL2 HL3
      go_wp2_with fail
      refine wp_region_quiet (C := Ext wb) (by kernel_rfl) (by kernel_rfl) (Ext.drew (by (repeat (first | exact Ext.refl _ | (with_reducible assumption) | (with_reducible refine Ext.drew ?_) | (with_reducible refine Ext.alloc ?_ _) | (with_reducible refine Ext.drewN ?_ _) | (with_reducible refine Ext.setCell ?_ (by omega) _) | (with_reducible refine Ext.trans ?_ (by with_reducible assumption)))))) ?_
      rw [show ∀ (l : List Oper), l.toArray.toList = l from fun l => rfl]
      repeat (first
        | go_big_quiet_skip
        | (go_big_quiet_want
           first
            | (go_big_quiet_op; go_big_quiet_on)
            | (apply Exists.intro
               refine ⟨fun w' hxw => ?_, ?_⟩
               focus (obtain ⟨⟨-, -, -, -, -, -, -, -, -, -, -, -, -, q13, q14, -, -, -, -⟩, -⟩ := HK.out w' (Ext.trans hxb hxw); have b1 := hxw.keep b1; go_simp; first | exact rfl)
               simp only [Act.put, List.setIfInBounds_toArray, List.set_cons_zero, List.set_cons_succ]
               go_big_quiet_on)))
      refine wpQuiet_nil ?_
      intro w2 hx2
      obtain ⟨wc, hwc⟩ : ∃ x, x = w2 := ⟨_, rfl⟩
      have hxwc := hx2
      rw [← hwc] at hxwc
      subst hwc
      have b1' := hxwc.keep b1
      have XC := hxb.trans hxwc
      go_wp2_with fail
      refine wp_region_quiet (C := Ext wc) (by kernel_rfl) (by kernel_rfl) (Ext.drew (by (repeat (first | exact Ext.refl _ | (with_reducible assumption) | (with_reducible refine Ext.drew ?_) | (with_reducible refine Ext.alloc ?_ _) | (with_reducible refine Ext.drewN ?_ _) | (with_reducible refine Ext.setCell ?_ (by omega) _) | (with_reducible refine Ext.trans ?_ (by with_reducible assumption)))))) ?_
      rw [show ∀ (l : List Oper), l.toArray.toList = l from fun l => rfl]
      repeat (first
        | go_big_quiet_skip
        | (go_big_quiet_want
           first
            | (go_big_quiet_op; go_big_quiet_on)
            | (apply Exists.intro
               refine ⟨fun w' hxw => ?_, ?_⟩
               focus (obtain ⟨⟨-, -, -, -, -, -, -, -, -, -, -, -, -, q13, q14, -, -, -, -⟩, -⟩ := HK.out w' (Ext.trans XC hxw); have b1 := hxw.keep b1'; go_simp; first | exact rfl)
               simp only [Act.put, List.setIfInBounds_toArray, List.set_cons_zero, List.set_cons_succ]
               go_big_quiet_on)))
      refine wpQuiet_nil ?_
      intro w2 hx2
      obtain ⟨wd, hwd⟩ : ∃ x, x = w2 := ⟨_, rfl⟩
      have hxwd := hx2
      rw [← hwd] at hxwd
      subst hwd
      have XD := XC.trans hxwd
      have b0' := (hxwc.trans hxwd).keep b0
      have b1'' := hxwd.keep b1'
      have b2' := (hxwc.trans hxwd).keep b2
      obtain ⟨⟨q0, q1, q2, q3, q4, q5, q6, q7, q8, q9, q10, q11, q12, q13, q14, q15, q16, q17, q18⟩, -⟩ := HK.out _ XD
      have hfz := fun o => (Ext.frozen XD (k := w.heap.size + 1 + 1 + 1) (o := o) (by omega)).trans (HF.out o)
      have XX := X2.trans XD
      clear HK HF
      go_wp2_with fail
      exact bodyPost_ret (v := .agg #[.int .i64 pc, .bool false, .int .i64 0]) (by simp [results, Tryz.results62, go_sem, q16, q17, q18]) rfl ⟨by rw [HV.out, HE.out], by (repeat (first | exact Ext.refl _ | (with_reducible assumption) | (with_reducible refine Ext.drew ?_) | (with_reducible refine Ext.alloc ?_ _) | (with_reducible refine Ext.drewN ?_ _) | (with_reducible refine Ext.setCell ?_ (by omega) _) | (with_reducible refine Ext.trans ?_ (by with_reducible assumption))))⟩
    | true =>
      have HL1' := Lib.hid (HL1.out rfl)
      have HL2' := Lib.hid (HL2.out rfl)
      clear HL0 HL1 HL2
      by_cases h1 : db < da
      · have d1 : decide (db < da) = true := decide_eq_true h1
        have d2 : decide (da < db) = false := decide_eq_false (by omega)
        have HE := Lib.hid (HL1'.out h1)
        clear HL1' HL2' HL3 h1
        go_wp2_with fail
        refine wp_region_quiet (C := Ext wb) (by kernel_rfl) (by kernel_rfl) (Ext.drew (by (repeat (first | exact Ext.refl _ | (with_reducible assumption) | (with_reducible refine Ext.drew ?_) | (with_reducible refine Ext.alloc ?_ _) | (with_reducible refine Ext.drewN ?_ _) | (with_reducible refine Ext.setCell ?_ (by omega) _) | (with_reducible refine Ext.trans ?_ (by with_reducible assumption)))))) ?_
        rw [show ∀ (l : List Oper), l.toArray.toList = l from fun l => rfl]
        repeat (first
          | go_big_quiet_skip
          | (go_big_quiet_want
             first
              | (go_big_quiet_op; go_big_quiet_on)
              | (apply Exists.intro
                 refine ⟨fun w' hxw => ?_, ?_⟩
                 focus (obtain ⟨⟨-, -, -, -, -, -, -, -, -, -, -, -, -, q13, q14, -, -, -, -⟩, -⟩ := HK.out w' (Ext.trans hxb hxw); have b1 := hxw.keep b1; go_simp; first | exact rfl | (first | (with_reducible refine (HF1.out w').mono ?_; exact fun e w'' h => ⟨h.1, h.2 ▸ hxw⟩) | (with_reducible refine (HF2.out w').mono ?_; exact fun e w'' h => ⟨h.1, h.2 ▸ hxw⟩)))
                 simp only [Act.put, List.setIfInBounds_toArray, List.set_cons_zero, List.set_cons_succ]
                 go_big_quiet_on)))
        refine wpQuiet_nil ?_
        intro w2 hx2
        obtain ⟨wc, hwc⟩ : ∃ x, x = w2 := ⟨_, rfl⟩
        have hxwc := hx2
        rw [← hwc] at hxwc
        subst hwc
        have XC := hxb.trans hxwc
        have b0' := hxwc.keep b0
        have b1' := hxwc.keep b1
        have b2' := hxwc.keep b2
        have bf' := fun o => (hxwc.frozen (o := o) hTl).trans (bf o)
        have XS := XC.setCell (o := 2) hTg (.int .i64 1)
        have b0s := sc_ne' (b' := T) (v := .int .i64 1) (.inr (show (0 : Nat) ≠ 2 by decide)) b0'
        have b1s := sc_ne' (b' := T) (v := .int .i64 1) (.inr (show (1 : Nat) ≠ 2 by decide)) b1'
        have b2s := sc_eq' (v := .int .i64 1) b2'
        go_wp2_with fail
        generalize wc.setCell ⟨T, 2, none⟩ (.int .i64 1) = ws at *
        go_wp2_with fail
        refine wp_region_quiet (C := Ext ws) (by kernel_rfl) (by kernel_rfl) (Ext.drew (by (repeat (first | exact Ext.refl _ | (with_reducible assumption) | (with_reducible refine Ext.drew ?_) | (with_reducible refine Ext.alloc ?_ _) | (with_reducible refine Ext.drewN ?_ _) | (with_reducible refine Ext.setCell ?_ (by omega) _) | (with_reducible refine Ext.trans ?_ (by with_reducible assumption)))))) ?_
        rw [show ∀ (l : List Oper), l.toArray.toList = l from fun l => rfl]
        repeat (first
          | go_big_quiet_skip
          | (go_big_quiet_want
             first
              | (go_big_quiet_op; go_big_quiet_on)
              | (apply Exists.intro
                 refine ⟨fun w' hxw => ?_, ?_⟩
                 focus (obtain ⟨⟨-, -, -, -, -, -, -, -, -, -, -, -, -, q13, q14, -, -, -, -⟩, -⟩ := HK.out w' (Ext.trans XS hxw); have b1 := hxw.keep b1s; go_simp; first | exact rfl | (first | (with_reducible refine (HF1.out w').mono ?_; exact fun e w'' h => ⟨h.1, h.2 ▸ hxw⟩) | (with_reducible refine (HF2.out w').mono ?_; exact fun e w'' h => ⟨h.1, h.2 ▸ hxw⟩)))
                 simp only [Act.put, List.setIfInBounds_toArray, List.set_cons_zero, List.set_cons_succ]
                 go_big_quiet_on)))
        refine wpQuiet_nil ?_
        intro w2 hx2
        obtain ⟨wd, hwd⟩ : ∃ x, x = w2 := ⟨_, rfl⟩
        have hxwd := hx2
        rw [← hwd] at hxwd
        subst hwd
        have XD := XS.trans hxwd
        have b0t := hxwd.keep b0s
        have b1t := hxwd.keep b1s
        have b2t := hxwd.keep b2s
        obtain ⟨⟨q0, q1, q2, q3, q4, q5, q6, q7, q8, q9, q10, q11, q12, q13, q14, q15, q16, q17, q18⟩, -⟩ := HK.out _ XD
        have hfz := fun o => (Ext.frozen XD (k := w.heap.size + 1 + 1 + 1) (o := o) (by omega)).trans (HF.out o)
        have XX := X2.trans XD
        clear HK HF
        go_wp2_with fail
        exact bodyPost_ret (v := .agg #[.int .i64 pc, .bool true, .int .i64 1]) (by simp [results, Tryz.results62, go_sem, q16, q17, q18]) rfl ⟨by rw [HV.out, HE.out], by (repeat (first | exact Ext.refl _ | (with_reducible assumption) | (with_reducible refine Ext.drew ?_) | (with_reducible refine Ext.alloc ?_ _) | (with_reducible refine Ext.drewN ?_ _) | (with_reducible refine Ext.setCell ?_ (by omega) _) | (with_reducible refine Ext.trans ?_ (by with_reducible assumption))))⟩
      · have d1 : decide (db < da) = false := decide_eq_false h1
        go_wp2_with fail
        refine wp_region_quiet (C := Ext wb) (by kernel_rfl) (by kernel_rfl) (Ext.drew (by (repeat (first | exact Ext.refl _ | (with_reducible assumption) | (with_reducible refine Ext.drew ?_) | (with_reducible refine Ext.alloc ?_ _) | (with_reducible refine Ext.drewN ?_ _) | (with_reducible refine Ext.setCell ?_ (by omega) _) | (with_reducible refine Ext.trans ?_ (by with_reducible assumption)))))) ?_
        rw [show ∀ (l : List Oper), l.toArray.toList = l from fun l => rfl]
        repeat (first
          | go_big_quiet_skip
          | (go_big_quiet_want
             first
              | (go_big_quiet_op; go_big_quiet_on)
              | (apply Exists.intro
                 refine ⟨fun w' hxw => ?_, ?_⟩
                 focus (obtain ⟨⟨-, -, -, -, -, -, -, -, -, -, -, -, -, q13, q14, -, -, -, -⟩, -⟩ := HK.out w' (Ext.trans hxb hxw); have b1 := hxw.keep b1; go_simp; first | exact rfl | (first | (with_reducible refine (HF1.out w').mono ?_; exact fun e w'' h => ⟨h.1, h.2 ▸ hxw⟩) | (with_reducible refine (HF2.out w').mono ?_; exact fun e w'' h => ⟨h.1, h.2 ▸ hxw⟩)))
                 simp only [Act.put, List.setIfInBounds_toArray, List.set_cons_zero, List.set_cons_succ]
                 go_big_quiet_on)))
        refine wpQuiet_nil ?_
        intro w2 hx2
        obtain ⟨wc, hwc⟩ : ∃ x, x = w2 := ⟨_, rfl⟩
        have hxwc := hx2
        rw [← hwc] at hxwc
        subst hwc
        have XC := hxb.trans hxwc
        have b0' := hxwc.keep b0
        have b1' := hxwc.keep b1
        have b2' := hxwc.keep b2
        have bf' := fun o => (hxwc.frozen (o := o) hTl).trans (bf o)
        by_cases h2 : da < db
        · have d2 : decide (da < db) = true := decide_eq_true h2
          have HE := Lib.hid (HL2'.out h2)
          clear HL1' HL2' HL3 h1 h2
          go_wp2_with fail
          refine wp_region_quiet (C := Ext wc) (by kernel_rfl) (by kernel_rfl) (Ext.drew (by (repeat (first | exact Ext.refl _ | (with_reducible assumption) | (with_reducible refine Ext.drew ?_) | (with_reducible refine Ext.alloc ?_ _) | (with_reducible refine Ext.drewN ?_ _) | (with_reducible refine Ext.setCell ?_ (by omega) _) | (with_reducible refine Ext.trans ?_ (by with_reducible assumption)))))) ?_
          rw [show ∀ (l : List Oper), l.toArray.toList = l from fun l => rfl]
          repeat (first
            | go_big_quiet_skip
            | (go_big_quiet_want
               first
                | (go_big_quiet_op; go_big_quiet_on)
                | (apply Exists.intro
                   refine ⟨fun w' hxw => ?_, ?_⟩
                   focus (obtain ⟨⟨-, -, -, -, -, -, -, -, -, -, -, -, -, q13, q14, -, -, -, -⟩, -⟩ := HK.out w' (Ext.trans XC hxw); have b1 := hxw.keep b1'; go_simp; first | exact rfl | (first | (with_reducible refine (HF1.out w').mono ?_; exact fun e w'' h => ⟨h.1, h.2 ▸ hxw⟩) | (with_reducible refine (HF2.out w').mono ?_; exact fun e w'' h => ⟨h.1, h.2 ▸ hxw⟩)))
                   simp only [Act.put, List.setIfInBounds_toArray, List.set_cons_zero, List.set_cons_succ]
                   go_big_quiet_on)))
          refine wpQuiet_nil ?_
          intro w2 hx2
          obtain ⟨wd, hwd⟩ : ∃ x, x = w2 := ⟨_, rfl⟩
          have hxwd := hx2
          rw [← hwd] at hxwd
          subst hwd
          have XD := XC.trans hxwd
          have b0s := sc_ne' (b' := T) (v := .int .i64 (-1)) (.inr (show (0 : Nat) ≠ 2 by decide)) (hxwd.keep b0')
          have b1s := sc_ne' (b' := T) (v := .int .i64 (-1)) (.inr (show (1 : Nat) ≠ 2 by decide)) (hxwd.keep b1')
          have b2t := hxwd.keep b2'
          have b2s := sc_eq' (v := .int .i64 (-1)) b2t
          have bf'' := fun o => (hxwd.frozen (o := o) (lt_of_cell b0')).trans (bf' o)
          obtain ⟨⟨-, -, -, -, -, -, -, -, -, -, -, -, -, -, -, -, q16', q17', q18'⟩, -⟩ := HK.out _ XD
          have hfz' := fun o => (Ext.frozen XD (k := w.heap.size + 1 + 1 + 1) (o := o) (by omega)).trans (HF.out o)
          have XS := XD.setCell (o := 2) hTg (.int .i64 (-1))
          obtain ⟨⟨q0, q1, q2, q3, q4, q5, q6, q7, q8, q9, q10, q11, q12, q13, q14, q15, q16, q17, q18⟩, -⟩ := HK.out _ XS
          have hfz := fun o => (Ext.frozen XS (k := w.heap.size + 1 + 1 + 1) (o := o) (by omega)).trans (HF.out o)
          have XX := X2.trans XS
          clear HK HF
          go_wp2_with fail
          exact bodyPost_ret (v := .agg #[.int .i64 pc, .bool true, .int .i64 (-1)]) (by simp [results, Tryz.results62, go_sem, q16, q17, q18]) rfl ⟨by rw [HV.out, HE.out], by (repeat (first | exact Ext.refl _ | (with_reducible assumption) | (with_reducible refine Ext.drew ?_) | (with_reducible refine Ext.alloc ?_ _) | (with_reducible refine Ext.drewN ?_ _) | (with_reducible refine Ext.setCell ?_ (by omega) _) | (with_reducible refine Ext.trans ?_ (by with_reducible assumption))))⟩
        · have d2 : decide (da < db) = false := decide_eq_false h2
          have HE := Lib.hid (HL3.out (by omega) (by omega))
          clear HL1' HL2' HL3 h1 h2
          go_wp2_with fail
          refine wp_region_quiet (C := Ext wc) (by kernel_rfl) (by kernel_rfl) (Ext.drew (by (repeat (first | exact Ext.refl _ | (with_reducible assumption) | (with_reducible refine Ext.drew ?_) | (with_reducible refine Ext.alloc ?_ _) | (with_reducible refine Ext.drewN ?_ _) | (with_reducible refine Ext.setCell ?_ (by omega) _) | (with_reducible refine Ext.trans ?_ (by with_reducible assumption)))))) ?_
          rw [show ∀ (l : List Oper), l.toArray.toList = l from fun l => rfl]
          repeat (first
            | go_big_quiet_skip
            | (go_big_quiet_want
               first
                | (go_big_quiet_op; go_big_quiet_on)
                | (apply Exists.intro
                   refine ⟨fun w' hxw => ?_, ?_⟩
                   focus (obtain ⟨⟨-, -, -, -, -, -, -, -, -, -, -, -, -, q13, q14, -, -, -, -⟩, -⟩ := HK.out w' (Ext.trans XC hxw); have b1 := hxw.keep b1'; go_simp; first | exact rfl | (first | (with_reducible refine (HF1.out w').mono ?_; exact fun e w'' h => ⟨h.1, h.2 ▸ hxw⟩) | (with_reducible refine (HF2.out w').mono ?_; exact fun e w'' h => ⟨h.1, h.2 ▸ hxw⟩)))
                   simp only [Act.put, List.setIfInBounds_toArray, List.set_cons_zero, List.set_cons_succ]
                   go_big_quiet_on)))
          refine wpQuiet_nil ?_
          intro w2 hx2
          obtain ⟨wd, hwd⟩ : ∃ x, x = w2 := ⟨_, rfl⟩
          have hxwd := hx2
          rw [← hwd] at hxwd
          subst hwd
          have XD := XC.trans hxwd
          have b0t := hxwd.keep b0'
          have b1t := hxwd.keep b1'
          have b2t := hxwd.keep b2'
          obtain ⟨⟨q0, q1, q2, q3, q4, q5, q6, q7, q8, q9, q10, q11, q12, q13, q14, q15, q16, q17, q18⟩, -⟩ := HK.out _ XD
          have hfz := fun o => (Ext.frozen XD (k := w.heap.size + 1 + 1 + 1) (o := o) (by omega)).trans (HF.out o)
          have XX := X2.trans XD
          clear HK HF
          go_wp2_with fail
          exact bodyPost_ret (v := .agg #[.int .i64 pc, .bool true, .int .i64 0]) (by simp [results, Tryz.results62, go_sem, q16, q17, q18]) rfl ⟨by rw [HV.out, HE.out], by (repeat (first | exact Ext.refl _ | (with_reducible assumption) | (with_reducible refine Ext.drew ?_) | (with_reducible refine Ext.alloc ?_ _) | (with_reducible refine Ext.drewN ?_ _) | (with_reducible refine Ext.setCell ?_ (by omega) _) | (with_reducible refine Ext.trans ?_ (by with_reducible assumption))))⟩
end Go.Proofs.YtedblocbcjoolaaGreat
