/- Contracts: the payment on a claim in a truth. -/
import Derived.Test.YtfjecbfcnngacaaAB
import Derived.Test.YtfjecbfcnngacaaBB
namespace Go.Proofs.Ytfjecbfcnngacaa
open Go.RowKit Go.Hs
attribute [local irreducible] World.setCell World.alloc

theorem askS_one (l : List Tar) (c : Cla) : askS l [c] = askS1 l c := by
  have e : claimsB l [c] = claimB l c := by
    rw [Bool.eq_iff_iff]
    unfold claimsB
    rw [allB_iff]
    constructor
    · intro h; have := h 0 (by simp); simpa using this
    · intro h i hi
      have e : i = 0 := by simpa using hi
      subst e; simpa using h
  unfold askS askS1
  rw [e]
def truthB (c : Cla) (d n : Int) : Bool := inR d c.dlo c.dhi && inR n c.clo c.chi
def payN (l : List Tar) (c : Cla) (d n : Int) : Int := if askS1 l c = 0 then (if truthB c d n then payS l c d n else 0) else 0
def payE (l : List Tar) (c : Cla) (d n : Int) : Int := if askS1 l c = 0 then (if truthB c d n then 0 else 2) else askS1 l c

set_option maxRecDepth 100000 in
set_option maxHeartbeats 2000000 in
theorem Pay_any (v : Value) (l : List Tar) (c : Cla) (d n : Int) (w : World) (hv : TarsV w v l) :
    Calls Try.prog 43 #[v, c.u.val, .agg #[.int .i64 d, .int .i64 n]] w fun e w' => e = .returned (.tuple #[.int .i64 (payN l c d n), .int .i64 (payE l c d n)]) ∧ Ext w w' := by
  have HN : Hid (payN l c d n = if askS1 l c = 0 then (if truthB c d n then payS l c d n else 0) else 0) := rfl
  have HE : Hid (payE l c d n = if askS1 l c = 0 then (if truthB c d n then 0 else 2) else askS1 l c) := rfl
  have HT : Hid (truthB c d n = (inR d c.dlo c.dhi && inR n c.clo c.chi)) := rfl
  by_cases h : askS1 l c = 0
  · have h' : askS l [c] = 0 := by rw [askS_one]; exact h
    have hb : ∀ B k W, Ext w W → Cell6 W B 0 c.u → Calls Try.prog 69 #[v, .slice (some ⟨B, 0, none⟩) 1 k] W fun e w' => ∃ p r, e = .returned (.tuple #[.pointer (some ⟨p, 0, none⟩), .int .i64 0]) ∧ Ext W w' ∧ WorkAt l p r v w' ∧ W.heap.size ≤ r :=
      fun B k W hx hc => asked_good v l _ k [c] (by simp) W (hv.ext hx) (one_claim hc) h'
    obtain ⟨hl, hcl⟩ := ask_one h'
    have HPY : Hid (truthB c d n = true → ∀ p r W, WorkAt l p r v W → Calls Try.prog 73 #[.pointer (some ⟨p, 0, none⟩), c.u.val, .agg #[.int .i64 d, .int .i64 n]] W fun e w' => e = .returned (.int .i64 (payS l c d n)) ∧ ExtBut r W w' ∧ WorkAt l p r v w') :=
      fun ht p r W hw => by
        simp only [truthB, Bool.and_eq_true, inR_iff] at ht
        have := hcl.day
        have := hcl.count
        exact pay_any l hl c hcl d n (by omega) (by omega) (by omega) p r v W hw
    have HN' : Hid (payN l c d n = if truthB c d n then payS l c d n else 0) := by rw [HN.out, if_pos h]; exact Lib.hid rfl
    have HE' : Hid (payE l c d n = if truthB c d n then 0 else 2) := by rw [HE.out, if_pos h]; exact Lib.hid rfl
    have HHA := Lib.hid has_any
    clear HN HE h h' hl hcl
    generalize payN l c d n = pn at *
    generalize payE l c d n = pe at *
    generalize payS l c d n = ps at *
    generalize truthB c d n = tb at *
    obtain ⟨a, k, rfl, -⟩ := hv
    obtain ⟨cr, va, dl, dh, cl, ch⟩ := c
    simp only at HT
    go_enter Try.func43, Try.ntmps43
    go_wp2_with fail
    (with_reducible refine (hb _ _ _ ?hx ?hc).mono ?_)
    case hx => (repeat (first | exact Ext.refl _ | (with_reducible assumption) | (with_reducible refine Ext.drew ?_) | (with_reducible refine Ext.alloc ?_ _) | (with_reducible refine Ext.drewN ?_ _) | (with_reducible refine Ext.setCell ?_ (by omega) _) | (with_reducible refine Ext.trans ?_ (by with_reducible assumption))))
    case hc => refine ⟨?_, ?_, ?_, ?_, ?_, ?_⟩ <;> simp [go_sem]
    rintro e w1 ⟨p, r, rfl, hx1, hw1, hr1⟩
    have c0 := hx1.keep (k := w.heap.size) (o := 0) (v := .int .i64 cr) (by simp [go_sem])
    have c1 := hx1.keep (k := w.heap.size) (o := 1) (v := .int .i64 va) (by simp [go_sem])
    have c2 := hx1.keep (k := w.heap.size) (o := 2) (v := .int .i64 dl) (by simp [go_sem])
    have c3 := hx1.keep (k := w.heap.size) (o := 3) (v := .int .i64 dh) (by simp [go_sem])
    have c4 := hx1.keep (k := w.heap.size) (o := 4) (v := .int .i64 cl) (by simp [go_sem])
    have c5 := hx1.keep (k := w.heap.size) (o := 5) (v := .int .i64 ch) (by simp [go_sem])
    have t0 := hx1.keep (k := w.heap.size + 1) (o := 0) (v := .int .i64 d) (by simp [go_sem])
    have t1 := hx1.keep (k := w.heap.size + 1) (o := 1) (v := .int .i64 n) (by simp [go_sem])
    have XX : Ext w w1 := by (repeat (first | exact Ext.refl _ | (with_reducible assumption) | (with_reducible refine Ext.drew ?_) | (with_reducible refine Ext.alloc ?_ _) | (with_reducible refine Ext.drewN ?_ _) | (with_reducible refine Ext.setCell ?_ (by omega) _) | (with_reducible refine Ext.trans ?_ (by with_reducible assumption))))
    have hr : w.heap.size ≤ r := by simp at hr1; omega
    have K : Hid (∀ W, Ext w1 W → Cell6 W w.heap.size 0 ⟨.int .i64 cr, .int .i64 va, .int .i64 dl, .int .i64 dh, .int .i64 cl, .int .i64 ch⟩ ∧ W.cell? ⟨w.heap.size + 1, 0, none⟩ = some (.int .i64 d) ∧ W.cell? ⟨w.heap.size + 1, 1, none⟩ = some (.int .i64 n) ∧ WorkAt l p r (.slice a l.length k) W) :=
      fun W hx => ⟨by refine ⟨?_, ?_, ?_, ?_, ?_, ?_⟩ <;> simp only [Nat.zero_add] <;> first | exact hx.keep c0 | exact hx.keep c1 | exact hx.keep c2 | exact hx.keep c3 | exact hx.keep c4 | exact hx.keep c5, hx.keep t0, hx.keep t1, hw1.ext hx⟩
    have HR1 := Lib.hid hr1
    clear hb hx1 hw1 hr1
    cases h1 : inR d dl dh with
    | false =>
      have hab : tb = false := by rw [HT.out, h1]; rfl
      subst hab
      obtain rfl : pn = 0 := HN'.out
      obtain rfl : pe = 2 := HE'.out
      have hh := HHA.out d dl dh w1
      rw [h1] at hh
      clear h1 HPY HN' HE'
      go_wp2_with fail
      (with_reducible refine hh.mono ?_)
      rintro e w2 ⟨rfl, hx2⟩
      go_wp2_with fail
      go_ret2
      exact ⟨rfl, XX.trans hx2⟩
    | true =>
      have hh := HHA.out d dl dh w1
      rw [h1] at hh
      go_wp2_with fail
      (with_reducible refine hh.mono ?_)
      rintro e w2 ⟨rfl, hx2⟩
      obtain ⟨⟨d0, d1, d2, d3, d4, d5⟩, s0, s1, -⟩ := K.out w2 hx2
      simp only [Nat.zero_add] at d0 d1 d2 d3 d4 d5
      have hh2 := HHA.out n cl ch w2
      clear hh c0 c1 c2 c3 c4 c5 t0 t1
      cases h2 : inR n cl ch with
      | false =>
        have hab : tb = false := by rw [HT.out, h1, h2]; rfl
        subst hab
        obtain rfl : pn = 0 := HN'.out
        obtain rfl : pe = 2 := HE'.out
        rw [h2] at hh2
        clear h1 h2 HPY HN' HE'
        go_wp2_with fail
        (with_reducible refine hh2.mono ?_)
        rintro e w3 ⟨rfl, hx3⟩
        go_wp2_with fail
        go_ret2
        exact ⟨rfl, XX.trans (hx2.trans hx3)⟩
      | true =>
        have hab : tb = true := by rw [HT.out, h1, h2]; rfl
        subst hab
        obtain rfl : pn = ps := HN'.out
        obtain rfl : pe = 0 := HE'.out
        rw [h2] at hh2
        have HPY' := Lib.hid (HPY.out rfl)
        clear h1 h2 HPY HN' HE'
        go_wp2_with fail
        (with_reducible refine hh2.mono ?_)
        rintro e w3 ⟨rfl, hx3⟩
        clear hh2 d0 d1 d2 d3 d4 d5 s0 s1
        obtain ⟨⟨d0, d1, d2, d3, d4, d5⟩, s0, s1, hw3⟩ := K.out w3 (hx2.trans hx3)
        simp only [Nat.zero_add] at d0 d1 d2 d3 d4 d5
        have hpy := HPY'.out _ _ _ hw3
        clear hw3
        go_wp2_with fail
        (with_reducible refine hpy.mono ?_)
        rintro e w4 ⟨rfl, hx4, -⟩
        go_wp2_with fail
        go_ret2
        exact ⟨rfl, ExtBut.ext (XX.trans (hx2.trans hx3)) hr hx4⟩
  · have h' : askS l [c] ≠ 0 := by rw [askS_one]; exact h
    have hb : ∀ B k W, Ext w W → Cell6 W B 0 c.u → Calls Try.prog 69 #[v, .slice (some ⟨B, 0, none⟩) 1 k] W fun e w' => e = .returned (.tuple #[.pointer none, .int .i64 (askS1 l c)]) ∧ Ext W w' :=
      fun B k W hx hc => by
        rw [← askS_one]
        exact asked_bad v l _ k [c] (by simp) W (hv.ext hx) (one_claim hc) h'
    obtain e1 : payN l c d n = 0 := by rw [HN.out, if_neg h]
    obtain e2 : payE l c d n = askS1 l c := by rw [HE.out, if_neg h]
    rw [e1, e2]
    have hd : (askS1 l c != 0) = true := by simp [h]
    clear h h' e1 e2 HN HE HT
    generalize askS1 l c = ck at *
    obtain ⟨a, k, rfl, -⟩ := hv
    obtain ⟨cr, va, dl, dh, cl, ch⟩ := c
    go_enter Try.func43, Try.ntmps43
    go_wp2_with fail
    (with_reducible refine (hb _ _ _ ?hx ?hc).mono ?_)
    case hx => (repeat (first | exact Ext.refl _ | (with_reducible assumption) | (with_reducible refine Ext.drew ?_) | (with_reducible refine Ext.alloc ?_ _) | (with_reducible refine Ext.drewN ?_ _) | (with_reducible refine Ext.setCell ?_ (by omega) _) | (with_reducible refine Ext.trans ?_ (by with_reducible assumption))))
    case hc => refine ⟨?_, ?_, ?_, ?_, ?_, ?_⟩ <;> simp [go_sem]
    rintro e w1 ⟨rfl, hx1⟩
    go_wp2_with fail
    go_ret2
    exact ⟨rfl, by (repeat (first | exact Ext.refl _ | (with_reducible assumption) | (with_reducible refine Ext.drew ?_) | (with_reducible refine Ext.alloc ?_ _) | (with_reducible refine Ext.drewN ?_ _) | (with_reducible refine Ext.setCell ?_ (by omega) _) | (with_reducible refine Ext.trans ?_ (by with_reducible assumption))))⟩

set_option maxRecDepth 100000 in
theorem ProvePay_any (v : Value) (l : List Tar) (c : Cla) (d n pence : Int) (w : World) (hv : TarsV w v l) :
    Calls Try.prog 45 #[v, c.u.val, .agg #[.int .i64 d, .int .i64 n], .int .i64 pence] w fun e w' => e = .returned (.bool (payE l c d n == 0 && payN l c d n == pence)) ∧ Ext w w' := by
  have hp := fun W (hx : Ext w W) => Pay_any v l c d n W (hv.ext hx)
  have HP := Lib.hid hp
  clear hp
  generalize payN l c d n = pn at *
  generalize payE l c d n = pe at *
  obtain ⟨a, k, rfl, -⟩ := hv
  obtain ⟨cr, va, dl, dh, cl, ch⟩ := c
  by_cases h : pe = 0
  · subst h
    go_enter Try.func45, Try.ntmps45
    go_wp2_with fail
    (with_reducible refine (HP.out _ ?hx).mono ?_)
    case hx => (repeat (first | exact Ext.refl _ | (with_reducible assumption) | (with_reducible refine Ext.drew ?_) | (with_reducible refine Ext.alloc ?_ _) | (with_reducible refine Ext.drewN ?_ _) | (with_reducible refine Ext.setCell ?_ (by omega) _) | (with_reducible refine Ext.trans ?_ (by with_reducible assumption))))
    rintro e w1 ⟨rfl, hx1⟩
    go_wp2_with fail
    go_ret
    exact ⟨ret_bool (by simp), by (repeat (first | exact Ext.refl _ | (with_reducible assumption) | (with_reducible refine Ext.drew ?_) | (with_reducible refine Ext.alloc ?_ _) | (with_reducible refine Ext.drewN ?_ _) | (with_reducible refine Ext.setCell ?_ (by omega) _) | (with_reducible refine Ext.trans ?_ (by with_reducible assumption))))⟩
  · have hd : (pe == 0) = false := by simp [h]
    have HD := Lib.hid hd
    clear h
    go_enter Try.func45, Try.ntmps45
    go_wp2_with fail
    (with_reducible refine (HP.out _ ?hx).mono ?_)
    case hx => (repeat (first | exact Ext.refl _ | (with_reducible assumption) | (with_reducible refine Ext.drew ?_) | (with_reducible refine Ext.alloc ?_ _) | (with_reducible refine Ext.drewN ?_ _) | (with_reducible refine Ext.setCell ?_ (by omega) _) | (with_reducible refine Ext.trans ?_ (by with_reducible assumption))))
    rintro e w1 ⟨rfl, hx1⟩
    go_wp2_with fail
    go_ret
    exact ⟨ret_bool (by rw [HD.out]; rfl), by (repeat (first | exact Ext.refl _ | (with_reducible assumption) | (with_reducible refine Ext.drew ?_) | (with_reducible refine Ext.alloc ?_ _) | (with_reducible refine Ext.drewN ?_ _) | (with_reducible refine Ext.setCell ?_ (by omega) _) | (with_reducible refine Ext.trans ?_ (by with_reducible assumption))))⟩
end Go.Proofs.Ytfjecbfcnngacaa
