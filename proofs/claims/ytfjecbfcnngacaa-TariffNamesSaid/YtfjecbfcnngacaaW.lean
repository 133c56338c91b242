/- Contracts: Part, a payment, the claims. -/
import Derived.Test.YtfjecbfcnngacaaV
namespace Go.Proofs.Ytfjecbfcnngacaa
open Go.RowKit Go.Hs
attribute [local irreducible] World.setCell World.alloc

set_option maxHeartbeats 400000 in
theorem day_any (n : Int) (w : World) :
    Calls Try.prog 60 #[.int .i64 n] w fun e w' => e = .returned (.bool (inR n 0 120)) ∧ w = w' := by
  go_enter Try.func60, Try.ntmps60
  go_wp2_with (go_at_call 74; refine (within_any _ _ _ _).mono ?_; rintro e w' ⟨rfl, rfl⟩)
  go_ret
  exact ⟨rfl, rfl⟩
set_option maxHeartbeats 400000 in
theorem count_any (n : Int) (w : World) :
    Calls Try.prog 61 #[.int .i64 n] w fun e w' => e = .returned (.bool (inR n 0 100)) ∧ w = w' := by
  go_enter Try.func61, Try.ntmps61
  go_wp2_with (go_at_call 74; refine (within_any _ _ _ _).mono ?_; rintro e w' ⟨rfl, rfl⟩)
  go_ret
  exact ⟨rfl, rfl⟩

set_option maxHeartbeats 400000 in
theorem ocrop_any (v : Value) (l : List Tar) (hp : 0 < l.length) (n : Int) (w : World) (hv : TarsV w v l) :
    Calls Try.prog 59 #[.agg #[v], .int .i64 n] w fun e w' => e = .returned (.bool (inR n 0 ((cropsN l : Int) - 1))) ∧ Ext w w' := by
  obtain ⟨a, c, rfl, h1, h2, hr⟩ := hv
  obtain ⟨b, off, rfl, hta⟩ := hr 0 hp
  obtain ⟨a3, k3, a4, k4, a5, k5, -, -, -, -, -, x5, hT⟩ := hta.open
  have e0 : l[0] = l.getD 0 default := by simp [hp]
  rw [e0] at x5 hT
  simp only [Nat.zero_mul, Nat.add_zero] at x5
  have hl := hT.rates.len_le.2
  have hcn : (l.getD 0 default).rates.length = cropsN l := rfl
  rw [hcn] at x5 hl
  clear hta hT hcn e0 hr
  have hb : b < w.heap.size := lt_of_cell x5
  generalize cropsN l = m at *
  go_enter Try.func59, Try.ntmps59
  go_wp2_with (go_at_call 74; refine (within_any _ _ _ _).mono ?_; rintro e w' ⟨rfl, rfl⟩)
  go_ret
  exact ⟨rfl, (Ext.refl _).alloc _⟩

def askB (l : List Tar) (c d n : Int) : Bool := inR c 0 ((cropsN l : Int) - 1) && inR d 0 120 && inR n 0 100
def partR (l : List Tar) (c d n : Int) : Value :=
  if checkS l = 0 then (if askB l c d n then .tuple #[.int .i64 (partS l c d n), .int .i64 0] else .tuple #[.int .i64 0, .int .i64 2]) else .tuple #[.int .i64 0, .int .i64 (checkS l)]

set_option maxRecDepth 100000 in
set_option maxHeartbeats 1000000 in
theorem Part_any (v : Value) (l : List Tar) (c d n : Int) (w : World) (hv : TarsV w v l) :
    Calls Try.prog 20 #[v, .int .i64 c, .int .i64 d, .int .i64 n] w fun e w' => e = .returned (partR l c d n) ∧ Ext w w' := by
  have hck := check_any v l w hv
  by_cases h0 : checkS l = 0
  · have hR : partR l c d n = (if askB l c d n then .tuple #[.int .i64 (partS l c d n), .int .i64 0] else .tuple #[.int .i64 0, .int .i64 2]) := if_pos h0
    have HR := Lib.hid hR; clear hR
    have hl := validL_of h0
    rw [h0] at hck
    have H0 := Lib.hid h0; clear h0
    have hst : ∀ W', Ext w W' → Calls Try.prog 58 #[v] W' fun e w' => e = .returned (.pointer (some ⟨W'.heap.size + 1, 0, none⟩)) ∧ Ext W' w' ∧ WorkAt l (W'.heap.size + 1) W'.heap.size v w' := fun W' hx => start_any v l W' (hv.ext hx)
    have hoc : ∀ W', Ext w W' → Calls Try.prog 59 #[.agg #[v], .int .i64 c] W' fun e w' => e = .returned (.bool (inR c 0 ((cropsN l : Int) - 1))) ∧ Ext W' w' := fun W' hx => ocrop_any v l hl.pos c W' (hv.ext hx)
    have HA : Hid (∀ b, askB l c d n = b → Hid (askB l c d n = b)) := fun _ h => h
    by_cases hask : askB l c d n = true
    · have hps : ∀ p r W', WorkAt l p r v W' → Calls Try.prog 62 #[.pointer (some ⟨p, 0, none⟩), spotV c d n] W' fun e w' => e = .returned (.int .i64 (partS l c d n)) ∧ ExtBut r W' w' ∧ WorkAt l p r v w' := by
        unfold askB at hask
        simp only [Bool.and_eq_true, inR_iff] at hask
        exact fun p r W' hw => part_any l hl c d n hask.1.1.1 (by omega) hask.1.2.1 hask.2.1 hask.2.2 p r v W' hw
      have hRR := HR.out.trans (if_pos hask)
      unfold askB at hask
      simp only [Bool.and_eq_true] at hask
      obtain ⟨⟨b1, b2⟩, b3⟩ := hask
      have HRR := Lib.hid hRR; clear hRR
      rw [b1] at hoc
      go_enter Try.func20, Try.ntmps20
      go_wp2_with fail
      (with_reducible refine hck.mono ?_)
      rintro e w1 ⟨rfl, hx1⟩
      go_wp2_with fail
      (with_reducible refine (hst _ hx1).mono ?_)
      rintro e w2 ⟨rfl, hx2, hw2⟩
      have k0 := hw2.list
      go_wp2_with (first
        | (go_at_call 59; (with_reducible refine (hoc _ (hx1.trans hx2)).mono ?_); rintro e w3 ⟨rfl, hx3⟩)
        | (go_at_call 60; refine (day_any _ _).mono ?_; rintro e w' ⟨rfl, rfl⟩)
        | (go_at_call 61; refine (count_any _ _).mono ?_; rintro e w' ⟨rfl, rfl⟩)
        | (go_at_call 62; (with_reducible refine (hps _ _ _ (hw2.ext hx3)).mono ?_); rintro e w4 ⟨rfl, hx4, hw4⟩))
      go_ret2
      exact ⟨by rw [HRR.out]; rfl, ExtBut.ext (hx1.trans (hx2.trans hx3)) hx1.size hx4⟩
    · have hRR := HR.out.trans (if_neg hask)
      have HRR := Lib.hid hRR; clear hRR
      have HAF := Lib.hid hask
      clear hask
      go_enter Try.func20, Try.ntmps20
      go_wp2_with fail
      (with_reducible refine hck.mono ?_)
      rintro e w1 ⟨rfl, hx1⟩
      go_wp2_with fail
      (with_reducible refine (hst _ hx1).mono ?_)
      rintro e w2 ⟨rfl, hx2, hw2⟩
      have k0 := hw2.list
      go_wp2_with (first
        | (go_at_call 59; (with_reducible refine (hoc _ (hx1.trans hx2)).mono ?_); rintro e w3 ⟨rfl, hx3⟩)
        | (go_at_call 60; refine (day_any _ _).mono ?_; rintro e w' ⟨rfl, rfl⟩)
        | (go_at_call 61; refine (count_any _ _).mono ?_; rintro e w' ⟨rfl, rfl⟩))
      all_goals first
        | (have q1 : inR c 0 ((cropsN l : Int) - 1) = true := by assumption
           have q2 : inR d 0 120 = true := by assumption
           have q3 : (!inR n 0 100) = false := by assumption
           exfalso
           apply HAF.out
           simp only [Bool.not_eq_false'] at q3
           simp [askB, q1, q2, q3])
        | (go_ret2
           exact ⟨by rw [HRR.out]; rfl, by (repeat (first | exact Ext.refl _ | (with_reducible assumption) | (with_reducible refine Ext.drew ?_) | (with_reducible refine Ext.alloc ?_ _) | (with_reducible refine Ext.drewN ?_ _) | (with_reducible refine Ext.setCell ?_ (by omega) _) | (with_reducible refine Ext.trans ?_ (by with_reducible assumption))))⟩)
  · have hR : partR l c d n = .tuple #[.int .i64 0, .int .i64 (checkS l)] := if_neg h0
    have HR := Lib.hid hR; clear hR
    have hd : (checkS l != 0) = true := by simp [h0]
    clear h0
    generalize checkS l = ck at *
    go_enter Try.func20, Try.ntmps20
    go_wp2_with fail
    (with_reducible refine hck.mono ?_)
    rintro e w1 ⟨rfl, hx1⟩
    go_wp2_with fail
    go_ret2
    exact ⟨by rw [HR.out]; rfl, hx1⟩
/-- The values of a claim. -/
structure Cla where
  crop : Int
  value : Int
  dlo : Int
  dhi : Int
  clo : Int
  chi : Int
abbrev Cla.u (c : Cla) : V6 := ⟨.int .i64 c.crop, .int .i64 c.value, .int .i64 c.dlo, .int .i64 c.dhi, .int .i64 c.clo, .int .i64 c.chi⟩
def claimB (l : List Tar) (c : Cla) : Bool :=
  inR c.crop 0 ((cropsN l : Int) - 1) && inR c.value 0 100000 && ofB c.dlo c.dhi 120 && decide (c.dhi - c.dlo ≤ 10) && ofB c.clo c.chi 100

set_option maxRecDepth 100000 in
set_option maxHeartbeats 1000000 in
theorem claim_any (v : Value) (l : List Tar) (hp : 0 < l.length) (c : Cla) (w : World) (hv : TarsV w v l) :
    Calls Try.prog 90 #[.agg #[v], c.u.val] w fun e w' => e = .returned (.bool (claimB l c)) ∧ Ext w w' := by
  have hoc : ∀ W', Ext w W' → Calls Try.prog 59 #[.agg #[v], .int .i64 c.crop] W' fun e w' => e = .returned (.bool (inR c.crop 0 ((cropsN l : Int) - 1))) ∧ Ext W' w' := fun W' hx => ocrop_any v l hp c.crop W' (hv.ext hx)
  obtain ⟨a, cc, hve, -⟩ := id hv
  have HB : Hid (claimB l c = (inR c.crop 0 ((cropsN l : Int) - 1) && inR c.value 0 100000 && ofB c.dlo c.dhi 120 && decide (c.dhi - c.dlo ≤ 10) && ofB c.clo c.chi 100)) := rfl
  have HOF : Hid (∀ lo hi most, ofB lo hi most = true → 0 ≤ lo ∧ lo ≤ hi ∧ hi ≤ most) := fun lo hi most h => by simpa [ofB, and_assoc] using h
  obtain ⟨cr, va, dl, dh, cl, ch⟩ := c
  simp only at *
  subst hve
  have X : Ext w ((w.alloc (.cells #[.slice a l.length cc] 101)).alloc (.cells #[.int .i64 cr, .int .i64 va, .int .i64 dl, .int .i64 dh, .int .i64 cl, .int .i64 ch] 44)) := by (repeat (first | exact Ext.refl _ | (with_reducible assumption) | (with_reducible refine Ext.drew ?_) | (with_reducible refine Ext.alloc ?_ _) | (with_reducible refine Ext.drewN ?_ _) | (with_reducible refine Ext.setCell ?_ (by omega) _) | (with_reducible refine Ext.trans ?_ (by with_reducible assumption))))
  have f0 : ∀ W', Ext ((w.alloc (.cells #[.slice a l.length cc] 101)).alloc (.cells #[.int .i64 cr, .int .i64 va, .int .i64 dl, .int .i64 dh, .int .i64 cl, .int .i64 ch] 44)) W' → Cell6 W' (w.heap.size + 1) 0 ⟨.int .i64 cr, .int .i64 va, .int .i64 dl, .int .i64 dh, .int .i64 cl, .int .i64 ch⟩ := fun W' hx => Cell6.ext hx _ _ _ (by simp [Cell6])
  have F0 := Lib.hid f0; clear f0
  clear hv
  go_enter Try.func90, Try.ntmps90
  go_wp2_with (first
    | (go_at_call 59; (with_reducible refine (hoc _ X).mono ?_); rintro e w3 ⟨rfl, hx3⟩; obtain ⟨q0, q1, q2, q3, q4, q5⟩ := F0.out _ hx3; simp only [Nat.zero_add] at q0 q1 q2 q3 q4 q5)
    | (go_at_call 74; refine (within_any _ _ _ _).mono ?_; rintro e w' ⟨rfl, rfl⟩)
    | (go_at_call_of 107 (Value.int .i64 120); refine (of_any _ _ _ _).mono ?_; rintro e w4 ⟨rfl, hx4⟩; obtain ⟨r0, r1, r2, r3, r4, r5⟩ := F0.out _ (hx3.trans hx4); simp only [Nat.zero_add] at r0 r1 r2 r3 r4 r5)
    | (go_at_call_of 107 (Value.int .i64 100); refine (of_any _ _ _ _).mono ?_; rintro e w5 ⟨rfl, hx5⟩))
  all_goals
    go_ret
    refine ⟨ret_bool ?_, by (repeat (first | exact Ext.refl _ | (with_reducible assumption) | (with_reducible refine Ext.drew ?_) | (with_reducible refine Ext.alloc ?_ _) | (with_reducible refine Ext.drewN ?_ _) | (with_reducible refine Ext.setCell ?_ (by omega) _) | (with_reducible refine Ext.trans ?_ (by with_reducible assumption))))⟩
    rw [HB.out]
    first
    | (have q : ofB dl dh 120 = true := by assumption
       have h1 : wrap64 (dh - dl) ≤ 10 := by assumption
       have q' := HOF.out _ _ _ q
       rw [wrap64_id (by omega) (by omega)] at h1
       simp [*])
    | (have q : ofB dl dh 120 = true := by assumption
       have h1 : 10 < wrap64 (dh - dl) := by assumption
       have q' := HOF.out _ _ _ q
       rw [wrap64_id (by omega) (by omega)] at h1
       have h2 : ¬ (dh - dl ≤ 10) := by omega
       simp [h2])
    | simp [*]
end Go.Proofs.Ytfjecbfcnngacaa
