/- Contracts: what the laws and the reference say of a claim. -/
import Derived.Test.YtfjecbfcnngacaaAO
import Derived.Test.YtfjecbfcnngacaaX
namespace Go.Proofs.Ytfjecbfcnngacaa
open Go.RowKit Go.Hs
attribute [local irreducible] World.setCell World.alloc

/-- The error of what is asked of one claim. -/
def askS1 (l : List Tar) (c : Cla) : Int := if checkS l ≠ 0 then checkS l else if claimB l c then 0 else 2

set_option maxRecDepth 100000 in
theorem to_any (a b : Int) (w : World) : Calls Try.prog 33 #[.agg #[.int .i64 a, .int .i64 b]] w fun e w' => e = .returned (.agg #[.int .i64 a, .int .i64 b]) ∧ Ext w w' := by
  go_enter Try.func33, Try.ntmps33
  go_wp2_with fail
  exact bodyPost_ret (v := .agg #[.int .i64 a, .int .i64 b]) (by simp [results, Try.results33, go_sem]) rfl ⟨rfl, by (repeat (first | exact Ext.refl _ | (with_reducible assumption) | (with_reducible refine Ext.drew ?_) | (with_reducible refine Ext.alloc ?_ _) | (with_reducible refine Ext.drewN ?_ _) | (with_reducible refine Ext.setCell ?_ (by omega) _) | (with_reducible refine Ext.trans ?_ (by with_reducible assumption))))⟩

set_option maxRecDepth 100000 in
theorem Truth_any (a b : Int) (w : World) : Calls Try.prog 34 #[.agg #[.int .i64 a, .int .i64 b]] w fun e w' => e = .returned (.agg #[.int .i64 a, .int .i64 b]) ∧ Ext w w' := by
  go_enter Try.func34, Try.ntmps34
  go_wp2_with fail
  exact bodyPost_ret (v := .agg #[.int .i64 a, .int .i64 b]) (by simp [results, Try.results34, go_sem]) rfl ⟨rfl, by (repeat (first | exact Ext.refl _ | (with_reducible assumption) | (with_reducible refine Ext.drew ?_) | (with_reducible refine Ext.alloc ?_ _) | (with_reducible refine Ext.drewN ?_ _) | (with_reducible refine Ext.setCell ?_ (by omega) _) | (with_reducible refine Ext.trans ?_ (by with_reducible assumption))))⟩

set_option maxRecDepth 100000 in
set_option maxHeartbeats 1000000 in
theorem Claim_any (c : Cla) (w : World) : Calls Try.prog 28 #[c.u.val] w fun e w' => e = .returned c.u.val ∧ Ext w w' := by
  have HTO := Lib.hid to_any
  obtain ⟨cr, va, dl, dh, cl, ch⟩ := c
  go_enter Try.func28, Try.ntmps28
  go_wp2_with fail
  have F0 : Hid (∀ W', Ext ((w.alloc (.cells #[.int .i64 cr, .int .i64 va, .int .i64 dl, .int .i64 dh, .int .i64 cl, .int .i64 ch] 39)).alloc (.cells #[.int .i64 0, .int .i64 0, .int .i64 0, .int .i64 0, .int .i64 0, .int .i64 0] 44)) W' → Cell6 W' (w.heap.size) 0 ⟨.int .i64 cr, .int .i64 va, .int .i64 dl, .int .i64 dh, .int .i64 cl, .int .i64 ch⟩ ∧ Cell6 W' (w.heap.size + 1) 0 ⟨.int .i64 0, .int .i64 0, .int .i64 0, .int .i64 0, .int .i64 0, .int .i64 0⟩ ∧ (∀ o, W'.frozen? ⟨w.heap.size + 1, o, none⟩ = false)) :=
    fun W' hx => ⟨Cell6.ext hx _ _ _ (by simp [Cell6]), Cell6.ext hx _ _ _ (by simp [Cell6]), fun o => (hx.frozen (by simp)).trans (by simp)⟩
  have X : Ext w ((w.alloc (.cells #[.int .i64 cr, .int .i64 va, .int .i64 dl, .int .i64 dh, .int .i64 cl, .int .i64 ch] 39)).alloc (.cells #[.int .i64 0, .int .i64 0, .int .i64 0, .int .i64 0, .int .i64 0, .int .i64 0] 44)) := by (repeat (first | exact Ext.refl _ | (with_reducible assumption) | (with_reducible refine Ext.drew ?_) | (with_reducible refine Ext.alloc ?_ _) | (with_reducible refine Ext.drewN ?_ _) | (with_reducible refine Ext.setCell ?_ (by omega) _) | (with_reducible refine Ext.trans ?_ (by with_reducible assumption))))
  generalize ((w.alloc (.cells #[.int .i64 cr, .int .i64 va, .int .i64 dl, .int .i64 dh, .int .i64 cl, .int .i64 ch] 39)).alloc (.cells #[.int .i64 0, .int .i64 0, .int .i64 0, .int .i64 0, .int .i64 0, .int .i64 0] 44)) = W at *
  have hz := X.size
  have HS : Hid (∀ w', Ext W w' → (w'.cell? ⟨w.heap.size, 0, none⟩ = some (.int .i64 cr) ∧ w'.cell? ⟨w.heap.size, 1, none⟩ = some (.int .i64 va) ∧ w'.cell? ⟨w.heap.size, 2, none⟩ = some (.int .i64 dl) ∧ w'.cell? ⟨w.heap.size, 3, none⟩ = some (.int .i64 dh) ∧ w'.cell? ⟨w.heap.size, 4, none⟩ = some (.int .i64 cl) ∧ w'.cell? ⟨w.heap.size, 5, none⟩ = some (.int .i64 ch)) ∧ Ext w w') :=
    fun w' hx => by
      obtain ⟨q0, q1, q2, q3, q4, q5⟩ := (F0.out w' hx).1
      simp only [Nat.zero_add] at q0 q1 q2 q3 q4 q5
      exact ⟨⟨q0, q1, q2, q3, q4, q5⟩, X.trans hx⟩
  have HZ : Hid (∀ w', Ext W w' → (w'.cell? ⟨w.heap.size + 1, 0, none⟩ = some (.int .i64 0) ∧ w'.cell? ⟨w.heap.size + 1, 1, none⟩ = some (.int .i64 0) ∧ w'.cell? ⟨w.heap.size + 1, 2, none⟩ = some (.int .i64 0) ∧ w'.cell? ⟨w.heap.size + 1, 3, none⟩ = some (.int .i64 0) ∧ w'.cell? ⟨w.heap.size + 1, 4, none⟩ = some (.int .i64 0) ∧ w'.cell? ⟨w.heap.size + 1, 5, none⟩ = some (.int .i64 0)) ∧ (w'.frozen? ⟨w.heap.size + 1, 0, none⟩ = false ∧ w'.frozen? ⟨w.heap.size + 1, 1, none⟩ = false ∧ w'.frozen? ⟨w.heap.size + 1, 2, none⟩ = false ∧ w'.frozen? ⟨w.heap.size + 1, 3, none⟩ = false ∧ w'.frozen? ⟨w.heap.size + 1, 4, none⟩ = false ∧ w'.frozen? ⟨w.heap.size + 1, 5, none⟩ = false)) :=
    fun w' hx => by
      obtain ⟨q0, q1, q2, q3, q4, q5⟩ := (F0.out w' hx).2.1
      have f := (F0.out w' hx).2.2
      simp only [Nat.zero_add] at q0 q1 q2 q3 q4 q5
      exact ⟨⟨q0, q1, q2, q3, q4, q5⟩, f 0, f 1, f 2, f 3, f 4, f 5⟩
  go_region_held3 (fun w' => (w'.cell? ⟨w.heap.size, 0, none⟩ = some (.int .i64 cr) ∧ w'.cell? ⟨w.heap.size, 1, none⟩ = some (.int .i64 va) ∧ w'.cell? ⟨w.heap.size, 2, none⟩ = some (.int .i64 dl) ∧ w'.cell? ⟨w.heap.size, 3, none⟩ = some (.int .i64 dh) ∧ w'.cell? ⟨w.heap.size, 4, none⟩ = some (.int .i64 cl) ∧ w'.cell? ⟨w.heap.size, 5, none⟩ = some (.int .i64 ch)) ∧ Ext w w')
    ((first | (refine HS.out _ ?_; ((repeat (first | exact Ext.refl _ | (with_reducible assumption) | (with_reducible refine Ext.drew ?_) | (with_reducible refine Ext.alloc ?_ _) | (with_reducible refine Ext.drewN ?_ _) | (with_reducible refine Ext.setCell ?_ (by omega) _) | (with_reducible refine Ext.trans ?_ (by with_reducible assumption)))); done)) | (refine ⟨⟨?_, ?_, ?_, ?_, ?_, ?_⟩, ?_⟩ <;> first | (simp [go_sem, *]; done) | ((repeat (first | exact Ext.refl _ | (with_reducible assumption) | (with_reducible refine Ext.drew ?_) | (with_reducible refine Ext.alloc ?_ _) | (with_reducible refine Ext.drewN ?_ _) | (with_reducible refine Ext.setCell ?_ (by omega) _) | (with_reducible refine Ext.trans ?_ (by with_reducible assumption)))); done))))
    (first
      | (go_at_call 33; (with_reducible refine (HTO.out dl dh _).mono ?_); rintro e w2 ⟨rfl, hx2⟩)
      | (go_at_call 33; (with_reducible refine (HTO.out cl ch _).mono ?_); rintro e w3 ⟨rfl, hx3⟩; obtain ⟨⟨z0, z1, z2, z3, z4, z5⟩, f0, f1, f2, f3, f4, f5⟩ := HZ.out w3 (by (repeat (first | exact Ext.refl _ | (with_reducible assumption) | (with_reducible refine Ext.drew ?_) | (with_reducible refine Ext.alloc ?_ _) | (with_reducible refine Ext.drewN ?_ _) | (with_reducible refine Ext.setCell ?_ (by omega) _) | (with_reducible refine Ext.trans ?_ (by with_reducible assumption)))))))
  rename_i hSS
  obtain ⟨-, XX⟩ := hSS
  go_wp2_with fail
  exact bodyPost_ret (v := .agg #[.int .i64 cr, .int .i64 va, .int .i64 dl, .int .i64 dh, .int .i64 cl, .int .i64 ch]) (by simp [results, Try.results28, go_sem, *]) rfl ⟨rfl, XX⟩

theorem IsTruth_any (c : Cla) (d n : Int) (w : World) : Calls Try.prog 46 #[c.u.val, .agg #[.int .i64 d, .int .i64 n]] w fun e w' => e = .returned (.bool (inR d c.dlo c.dhi && inR n c.clo c.chi)) ∧ Ext w w' := by
  have HIN := Lib.hid In_any
  obtain ⟨cr, va, dl, dh, cl, ch⟩ := c
  have H1 := HIN.out d dl dh
  have H2 := HIN.out n cl ch
  show Calls Try.prog 46 _ w fun e w' => e = .returned (.bool (inR d dl dh && inR n cl ch)) ∧ Ext w w'
  cases h1 : inR d dl dh with
  | false =>
    rw [h1] at H1
    clear h1
    go_enter Try.func46, Try.ntmps46
    go_wp2_with fail
    (with_reducible refine (H1 _).mono ?_)
    rintro e w1 ⟨rfl, rfl⟩
    go_wp2_with fail
    go_ret
    exact ⟨rfl, by (repeat (first | exact Ext.refl _ | (with_reducible assumption) | (with_reducible refine Ext.drew ?_) | (with_reducible refine Ext.alloc ?_ _) | (with_reducible refine Ext.drewN ?_ _) | (with_reducible refine Ext.setCell ?_ (by omega) _) | (with_reducible refine Ext.trans ?_ (by with_reducible assumption))))⟩
  | true =>
    rw [h1] at H1
    clear h1
    generalize inR n cl ch = bn at *
    go_enter Try.func46, Try.ntmps46
    go_wp2_with fail
    (with_reducible refine (H1 _).mono ?_)
    rintro e w1 ⟨rfl, rfl⟩
    go_wp2_with fail
    (with_reducible refine (H2 _).mono ?_)
    rintro e w1 ⟨rfl, rfl⟩
    go_wp2_with fail
    go_ret
    exact ⟨ret_bool (by simp), by (repeat (first | exact Ext.refl _ | (with_reducible assumption) | (with_reducible refine Ext.drew ?_) | (with_reducible refine Ext.alloc ?_ _) | (with_reducible refine Ext.drewN ?_ _) | (with_reducible refine Ext.setCell ?_ (by omega) _) | (with_reducible refine Ext.trans ?_ (by with_reducible assumption))))⟩

set_option maxRecDepth 100000 in
set_option maxHeartbeats 1000000 in
theorem RefPay_any (v : Value) (l : List Tar) (c : Cla) (d n : Int) (w : World) (hv : TarsV w v l) (hl : ValidL l) (hc : ClaimOK l c) (hd : 0 ≤ d) (hn0 : 0 ≤ n) (hn1 : n ≤ 100) :
    Calls Try.prog 47 #[v, c.u.val, .agg #[.int .i64 d, .int .i64 n]] w fun e w' => e = .returned (.int .i64 (payS l c d n)) ∧ Ext w w' := by
  have HPT : Hid (∀ W, Ext w W → Calls Try.prog 26 #[v, .int .i64 c.crop, .int .i64 d, .int .i64 n] W fun e w' => e = .returned (.int .i64 (partS l c.crop d n)) ∧ Ext W w') :=
    fun W hx => RefPart_any v l c.crop d n W (hv.ext hx) hl hc.crop.1 hc.crop.2 hd hn0 hn1
  have hpb := partS_bd hl hc.crop.1 hc.crop.2 hd hn0 hn1
  have hvb := hc.value
  have HP : Hid (payS l c d n = payI c.value (partS l c.crop d n)) := rfl
  obtain ⟨a, k, rfl, -⟩ := hv
  obtain ⟨cr, va, dl, dh, cl, ch⟩ := c
  simp only at HPT hpb hvb HP
  have hm := pay_wrap hvb.1 hvb.2 hpb.1 hpb.2
  generalize partS l cr d n = ps at *
  have X : Ext w ((w.alloc (.cells #[.int .i64 cr, .int .i64 va, .int .i64 dl, .int .i64 dh, .int .i64 cl, .int .i64 ch] 39)).alloc (.cells #[.int .i64 d, .int .i64 n] 52)) := by (repeat (first | exact Ext.refl _ | (with_reducible assumption) | (with_reducible refine Ext.drew ?_) | (with_reducible refine Ext.alloc ?_ _) | (with_reducible refine Ext.drewN ?_ _) | (with_reducible refine Ext.setCell ?_ (by omega) _) | (with_reducible refine Ext.trans ?_ (by with_reducible assumption))))
  go_enter Try.func47, Try.ntmps47
  go_wp2_with fail
  have z0 : ((w.alloc (.cells #[.int .i64 cr, .int .i64 va, .int .i64 dl, .int .i64 dh, .int .i64 cl, .int .i64 ch] 39)).alloc (.cells #[.int .i64 d, .int .i64 n] 52)).cell? ⟨w.heap.size, 0, none⟩ = some (.int .i64 cr) := by simp
  have z1 : ((w.alloc (.cells #[.int .i64 cr, .int .i64 va, .int .i64 dl, .int .i64 dh, .int .i64 cl, .int .i64 ch] 39)).alloc (.cells #[.int .i64 d, .int .i64 n] 52)).cell? ⟨w.heap.size, 1, none⟩ = some (.int .i64 va) := by simp
  have z2 : ((w.alloc (.cells #[.int .i64 cr, .int .i64 va, .int .i64 dl, .int .i64 dh, .int .i64 cl, .int .i64 ch] 39)).alloc (.cells #[.int .i64 d, .int .i64 n] 52)).cell? ⟨w.heap.size + 1, 0, none⟩ = some (.int .i64 d) := by simp
  have z3 : ((w.alloc (.cells #[.int .i64 cr, .int .i64 va, .int .i64 dl, .int .i64 dh, .int .i64 cl, .int .i64 ch] 39)).alloc (.cells #[.int .i64 d, .int .i64 n] 52)).cell? ⟨w.heap.size + 1, 1, none⟩ = some (.int .i64 n) := by simp
  generalize ((w.alloc (.cells #[.int .i64 cr, .int .i64 va, .int .i64 dl, .int .i64 dh, .int .i64 cl, .int .i64 ch] 39)).alloc (.cells #[.int .i64 d, .int .i64 n] 52)) = W at *
  have g0 : ∀ w', Ext W w' → w'.cell? ⟨w.heap.size, 0, none⟩ = some (.int .i64 cr) := fun w' h => h.keep z0
  have g1 : ∀ w', Ext W w' → w'.cell? ⟨w.heap.size, 1, none⟩ = some (.int .i64 va) := fun w' h => h.keep z1
  have g2 : ∀ w', Ext W w' → w'.cell? ⟨w.heap.size + 1, 0, none⟩ = some (.int .i64 d) := fun w' h => h.keep z2
  have g3 : ∀ w', Ext W w' → w'.cell? ⟨w.heap.size + 1, 1, none⟩ = some (.int .i64 n) := fun w' h => h.keep z3
  refine wp_region_quiet (C := Ext W) (by kernel_rfl) (by kernel_rfl) (Ext.drew (by (repeat (first | exact Ext.refl _ | (with_reducible assumption) | (with_reducible refine Ext.drew ?_) | (with_reducible refine Ext.alloc ?_ _) | (with_reducible refine Ext.drewN ?_ _) | (with_reducible refine Ext.setCell ?_ (by omega) _) | (with_reducible refine Ext.trans ?_ (by with_reducible assumption)))))) ?_
  rw [show ∀ (l : List Oper), l.toArray.toList = l from fun l => rfl]
  repeat (first
    | go_big_quiet_skip
    | (go_big_quiet_want
       first
        | (go_big_quiet_op; go_big_quiet_on)
        | (apply Exists.intro
           refine ⟨fun w' hxw => ?_, ?_⟩
           focus (have q0 := g0 w' hxw; have q1 := g1 w' hxw; have q2 := g2 w' hxw; have q3 := g3 w' hxw; go_simp; first | exact rfl | exact (HPT.out w' (X.trans hxw)).mono (fun e w'' h => ⟨h.1, hxw.trans h.2⟩))
           simp only [Act.put, List.setIfInBounds_toArray, List.set_cons_zero, List.set_cons_succ]
           go_big_quiet_on)))
  refine wpQuiet_nil ?_
  intro w2 hx2
  go_wp2_with fail
  go_ret
  exact ⟨ret_int ((pay_fin hm.1 hm.2).trans HP.out.symm), X.trans hx2⟩

end Go.Proofs.Ytfjecbfcnngacaa
