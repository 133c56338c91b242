/- Contracts: a payment. -/
import Derived.Test.YtfjecbfcnngacaaW
namespace Go.Proofs.Ytfjecbfcnngacaa
open Go.RowKit Go.Hs
attribute [local irreducible] World.setCell World.alloc

def payS (l : List Tar) (c : Cla) (d n : Int) : Int := payI c.value (partS l c.crop d n)
/-- A claim that is valid, for a valid list. -/
structure ClaimOK (l : List Tar) (c : Cla) : Prop where
  crop : 0 ≤ c.crop ∧ c.crop < cropsN l
  value : 0 ≤ c.value ∧ c.value ≤ 100000
  day : 0 ≤ c.dlo ∧ c.dlo ≤ c.dhi ∧ c.dhi ≤ 120
  ten : c.dhi - c.dlo ≤ 10
  count : 0 ≤ c.clo ∧ c.clo ≤ c.chi ∧ c.chi ≤ 100
theorem claimB_iff {l : List Tar} {c : Cla} : claimB l c = true ↔ ClaimOK l c := by
  unfold claimB ofB
  simp only [Bool.and_eq_true, inR_iff, decide_eq_true_eq]
  constructor
  · rintro ⟨⟨⟨⟨h1, h2⟩, h3⟩, h4⟩, h5⟩
    exact ⟨⟨h1.1, by omega⟩, h2, by omega, h4, by omega⟩
  · rintro ⟨h1, h2, h3, h4, h5⟩
    exact ⟨⟨⟨⟨⟨h1.1, by omega⟩, h2⟩, by omega⟩, h4⟩, by omega⟩

theorem pay_fin {x : Int} (h0 : 0 ≤ x) (h1 : x ≤ 10000000) : IntKind.i64.wrap ((IntKind.i64.wrap x).tdiv 100) = x / 100 := by
  rw [IntWalk.i64_in x (by omega), Int.tdiv_eq_ediv_of_nonneg h0]
  exact IntWalk.i64_in _ (by omega)

set_option maxRecDepth 100000 in
set_option maxHeartbeats 1000000 in
theorem pay_any (l : List Tar) (hl : ValidL l) (c : Cla) (hc : ClaimOK l c) (d n : Int) (hd : 0 ≤ d) (hn0 : 0 ≤ n) (hn1 : n ≤ 100) (p r : Nat) (v : Value) (w : World) (hw : WorkAt l p r v w) :
    Calls Try.prog 73 #[.pointer (some ⟨p, 0, none⟩), c.u.val, .agg #[.int .i64 d, .int .i64 n]] w fun e w' => e = .returned (.int .i64 (payS l c d n)) ∧ ExtBut r w w' ∧ WorkAt l p r v w' := by
  have hpt : ∀ W', WorkAt l p r v W' → Calls Try.prog 62 #[.pointer (some ⟨p, 0, none⟩), spotV c.crop d n] W' fun e w' => e = .returned (.int .i64 (partS l c.crop d n)) ∧ ExtBut r W' w' ∧ WorkAt l p r v w' :=
    fun W' h => part_any l hl c.crop d n hc.crop.1 hc.crop.2 hd hn0 hn1 p r v W' h
  have hpb := partS_bd hl hc.crop.1 hc.crop.2 hd hn0 hn1
  have hvb := hc.value
  have HP : Hid (payS l c d n = payI c.value (partS l c.crop d n)) := rfl
  obtain ⟨cr, va, dl, dh, cl, ch⟩ := c
  simp only at hpt hpb hvb HP
  have hm := pay_wrap hvb.1 hvb.2 hpb.1 hpb.2
  generalize partS l cr d n = ps at *
  have X : Ext w ((w.alloc (.cells #[.int .i64 cr, .int .i64 va, .int .i64 dl, .int .i64 dh, .int .i64 cl, .int .i64 ch] 44)).alloc (.cells #[.int .i64 d, .int .i64 n] 47)) := by (repeat (first | exact Ext.refl _ | (with_reducible assumption) | (with_reducible refine Ext.drew ?_) | (with_reducible refine Ext.alloc ?_ _) | (with_reducible refine Ext.drewN ?_ _) | (with_reducible refine Ext.setCell ?_ (by omega) _) | (with_reducible refine Ext.trans ?_ (by with_reducible assumption))))
  have hw1 := hw.ext X
  go_enter Try.func73, Try.ntmps73
  go_wp2_with fail
  have z0 : ((w.alloc (.cells #[.int .i64 cr, .int .i64 va, .int .i64 dl, .int .i64 dh, .int .i64 cl, .int .i64 ch] 44)).alloc (.cells #[.int .i64 d, .int .i64 n] 47)).cell? ⟨w.heap.size, 0, none⟩ = some (.int .i64 cr) := by simp
  have z1 : ((w.alloc (.cells #[.int .i64 cr, .int .i64 va, .int .i64 dl, .int .i64 dh, .int .i64 cl, .int .i64 ch] 44)).alloc (.cells #[.int .i64 d, .int .i64 n] 47)).cell? ⟨w.heap.size, 1, none⟩ = some (.int .i64 va) := by simp
  have z2 : ((w.alloc (.cells #[.int .i64 cr, .int .i64 va, .int .i64 dl, .int .i64 dh, .int .i64 cl, .int .i64 ch] 44)).alloc (.cells #[.int .i64 d, .int .i64 n] 47)).cell? ⟨w.heap.size + 1, 0, none⟩ = some (.int .i64 d) := by simp
  have z3 : ((w.alloc (.cells #[.int .i64 cr, .int .i64 va, .int .i64 dl, .int .i64 dh, .int .i64 cl, .int .i64 ch] 44)).alloc (.cells #[.int .i64 d, .int .i64 n] 47)).cell? ⟨w.heap.size + 1, 1, none⟩ = some (.int .i64 n) := by simp
  generalize ((w.alloc (.cells #[.int .i64 cr, .int .i64 va, .int .i64 dl, .int .i64 dh, .int .i64 cl, .int .i64 ch] 44)).alloc (.cells #[.int .i64 d, .int .i64 n] 47)) = W at *
  have HS : Hid (∀ w', ExtBut r W w' → WorkAt l p r v w' → (w'.cell? ⟨w.heap.size, 0, none⟩ = some (.int .i64 cr) ∧ w'.cell? ⟨w.heap.size, 1, none⟩ = some (.int .i64 va) ∧ w'.cell? ⟨w.heap.size + 1, 0, none⟩ = some (.int .i64 d) ∧ w'.cell? ⟨w.heap.size + 1, 1, none⟩ = some (.int .i64 n)) ∧ ExtBut r W w' ∧ WorkAt l p r v w') :=
    fun w' hx hk => have k := hx.kc hw1.memo.noCells; ⟨⟨k _ _ _ z0, k _ _ _ z1, k _ _ _ z2, k _ _ _ z3⟩, hx, hk⟩
  have HPT := Lib.hid hpt; clear hpt
  have hw1d : WorkAt l p r v W.drew := hw1.ext (Ext.refl _).drew
  clear z0 z1 z2 z3
  go_region_held3 (fun w' => (w'.cell? ⟨w.heap.size, 0, none⟩ = some (.int .i64 cr) ∧ w'.cell? ⟨w.heap.size, 1, none⟩ = some (.int .i64 va) ∧ w'.cell? ⟨w.heap.size + 1, 0, none⟩ = some (.int .i64 d) ∧ w'.cell? ⟨w.heap.size + 1, 1, none⟩ = some (.int .i64 n)) ∧ ExtBut r W w' ∧ WorkAt l p r v w')
    (first | exact HS.out _ (ExtBut.refl r W).drew hw1d | exact HS.out _ ((ExtBut.refl r W).drew.trans hx2) hw2)
    (first | (go_at_call 62; (with_reducible refine (HPT.out _ hw1d).mono ?_); rintro e w2 ⟨rfl, hx2, hw2⟩))
  go_wp2_with fail
  go_ret
  exact ⟨ret_int ((pay_fin hm.1 hm.2).trans HP.out.symm), (X.drew.but r).trans hx2, hw2⟩
end Go.Proofs.Ytfjecbfcnngacaa
