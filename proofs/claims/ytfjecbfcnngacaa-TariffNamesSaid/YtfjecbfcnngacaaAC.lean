/- Contracts: the least count. -/
import Derived.Test.YtfjecbfcnngacaaAB
namespace Go.Proofs.Ytfjecbfcnngacaa
open Go.RowKit Go.Hs
attribute [local irreducible] World.setCell World.alloc

/-- The first count with a part above 0, if there is one. -/
def leastS (l : List Tar) (c d : Int) : Option Nat := (List.range 101).find? (fun n => decide (0 < partS l c d n))
theorem leastS_some {l : List Tar} {c d : Int} {n : Nat} (hn : n < 101) (h : 0 < partS l c d n) (h0 : ∀ m : Nat, m < n → partS l c d m ≤ 0) : leastS l c d = some n := by
  unfold leastS
  rw [List.find?_range_eq_some]
  exact ⟨by simpa using h, by simpa using hn, fun m hm => by have := h0 m hm; simp; omega⟩
theorem leastS_none {l : List Tar} {c d : Int} (h0 : ∀ m : Nat, m < 101 → partS l c d m ≤ 0) : leastS l c d = none := by
  unfold leastS
  rw [List.find?_eq_none]
  intro m hm
  have := h0 m (by simpa using hm)
  simp; omega
def leastV (o : Option Nat) : Value := match o with
  | some n => .tuple #[.int .i64 n, .int .i64 0]
  | none => .tuple #[.int .i64 0, .int .i64 7]
/-- What 'Least' answers. -/
def leastR (l : List Tar) (c d : Int) : Value :=
  if checkS l = 0 then (if inR c 0 ((cropsN l : Int) - 1) && inR d 0 120 then (leastV (leastS l c d)) else .tuple #[.int .i64 0, .int .i64 2]) else .tuple #[.int .i64 0, .int .i64 (checkS l)]

theorem no_claims (l : List Tar) : askS l [] = checkS l := by
  unfold askS
  split
  · rfl
  · rename_i h
    have e : claimsB l [] = true := rfl
    rw [if_pos e]; omega

set_option maxRecDepth 100000 in
set_option maxHeartbeats 1000000 in
theorem Least_bad (v : Value) (l : List Tar) (c d : Int) (w : World) (hv : TarsV w v l) (h : checkS l ≠ 0) :
    Calls Try.prog 40 #[v, .int .i64 c, .int .i64 d] w fun e w' => e = .returned (.tuple #[.int .i64 0, .int .i64 (checkS l)]) ∧ Ext w w' := by
  have hb := asked_bad v l none 0 [] (by simp) w hv (fun i hi => absurd hi (by simp)) (by rw [no_claims]; exact h)
  rw [no_claims] at hb
  simp only [List.length_nil] at hb
  have hd : (checkS l != 0) = true := by simp [h]
  clear h
  generalize checkS l = ck at *
  go_enter Try.func40, Try.ntmps40
  go_wp2_with fail
  (with_reducible refine hb.mono ?_)
  rintro e w1 ⟨rfl, hx1⟩
  go_wp2_with fail
  go_ret2
  exact ⟨rfl, by (repeat (first | exact Ext.refl _ | (with_reducible assumption) | (with_reducible refine Ext.drew ?_) | (with_reducible refine Ext.alloc ?_ _) | (with_reducible refine Ext.drewN ?_ _) | (with_reducible refine Ext.setCell ?_ (by omega) _) | (with_reducible refine Ext.trans ?_ (by with_reducible assumption))))⟩

set_option maxRecDepth 100000 in
set_option maxHeartbeats 1000000 in
theorem Least_no (v : Value) (l : List Tar) (c d : Int) (w : World) (hv : TarsV w v l) (h : checkS l = 0) (hi : (inR c 0 ((cropsN l : Int) - 1) && inR d 0 120) = false) :
    Calls Try.prog 40 #[v, .int .i64 c, .int .i64 d] w fun e w' => e = .returned (.tuple #[.int .i64 0, .int .i64 2]) ∧ Ext w w' := by
  have hl := validL_of h
  have hb := asked_good v l none 0 [] (by simp) w hv (fun i hi => absurd hi (by simp)) (by rw [no_claims]; exact h)
  simp only [List.length_nil] at hb
  have hoc : ∀ W', Ext w W' → Calls Try.prog 59 #[.agg #[v], .int .i64 c] W' fun e w' => e = .returned (.bool (inR c 0 ((cropsN l : Int) - 1))) ∧ Ext W' w' := fun W' hx => ocrop_any v l hl.pos c W' (hv.ext hx)
  clear h hl
  have HI := Lib.hid hi
  clear hi
  go_enter Try.func40, Try.ntmps40
  go_wp2_with fail
  (with_reducible refine hb.mono ?_)
  rintro e w1 ⟨p, r, rfl, hx1, hw1, hr1⟩
  have k0 := hw1.list
  go_wp2_with (first
    | (go_at_call 59; (with_reducible refine (hoc _ hx1).mono ?_); rintro e w3 ⟨rfl, hx3⟩)
    | (go_at_call 60; refine (day_any _ _).mono ?_; rintro e w' ⟨rfl, rfl⟩))
  all_goals first
    | (go_ret2; exact ⟨rfl, by (repeat (first | exact Ext.refl _ | (with_reducible assumption) | (with_reducible refine Ext.drew ?_) | (with_reducible refine Ext.alloc ?_ _) | (with_reducible refine Ext.drewN ?_ _) | (with_reducible refine Ext.setCell ?_ (by omega) _) | (with_reducible refine Ext.trans ?_ (by with_reducible assumption))))⟩)
    | (exfalso
       have q1 : inR c 0 ((cropsN l : Int) - 1) = true := by assumption
       have q2 : (!inR d 0 120) = false := by assumption
       simp only [Bool.not_eq_false'] at q2
       have := HI.out
       simp [q1, q2] at this)

set_option maxRecDepth 100000 in
set_option maxHeartbeats 1000000 in
theorem Least_good (v : Value) (l : List Tar) (c d : Int) (w : World) (hv : TarsV w v l) (h : checkS l = 0) (h1 : inR c 0 ((cropsN l : Int) - 1) = true) (h2 : inR d 0 120 = true) :
    Calls Try.prog 40 #[v, .int .i64 c, .int .i64 d] w fun e w' => e = .returned (leastV (leastS l c d)) ∧ Ext w w' := by
  have hl := validL_of h
  have hb := asked_good v l none 0 [] (by simp) w hv (fun i hi => absurd hi (by simp)) (by rw [no_claims]; exact h)
  simp only [List.length_nil] at hb
  have hoc : ∀ W', Ext w W' → Calls Try.prog 59 #[.agg #[v], .int .i64 c] W' fun e w' => e = .returned (.bool (inR c 0 ((cropsN l : Int) - 1))) ∧ Ext W' w' := fun W' hx => ocrop_any v l hl.pos c W' (hv.ext hx)
  have hps : ∀ (n : Nat), n < 101 → ∀ p r W', WorkAt l p r v W' → Calls Try.prog 62 #[.pointer (some ⟨p, 0, none⟩), spotV c d n] W' fun e w' => e = .returned (.int .i64 (partS l c d n)) ∧ ExtBut r W' w' ∧ WorkAt l p r v w' := by
    rw [inR_iff] at h1 h2
    exact fun n hn p r W' hw => part_any l hl c d n h1.1 (by omega) h2.1 (by omega) (by omega) p r v W' hw
  have HS : Hid (∀ n : Nat, n < 101 → 0 < partS l c d n → (∀ m : Nat, m < n → partS l c d m ≤ 0) → leastS l c d = some n) := fun n hn h h0 => leastS_some hn h h0
  have HN : Hid ((∀ m : Nat, m < 101 → partS l c d m ≤ 0) → leastS l c d = none) := leastS_none
  rw [h1] at hoc
  have hdy := day_any d
  rw [h2] at hdy
  clear h hl h1 h2
  generalize leastS l c d = ls at *
  generalize partS l c d = f at *
  go_enter Try.func40, Try.ntmps40
  go_wp2_with fail
  (with_reducible refine hb.mono ?_)
  rintro e w1 ⟨p, r, rfl, hx1, hw1, hr1⟩
  have k0 := hw1.list
  go_wp2_with (first
    | (go_at_call 59; (with_reducible refine (hoc _ hx1).mono ?_); rintro e w3 ⟨rfl, hx3⟩)
    | (go_at_call 60; refine (hdy _).mono ?_; rintro e w' ⟨rfl, rfl⟩))
  go_loopw [6, 7, 10, 31] (fun _ _ _ i wr => ∃ k : Nat, k ≤ 101 ∧ i = .int .i64 k ∧ Hid (∀ m : Nat, m < k → f m ≤ 0) ∧ WorkAt l p r v wr ∧ ExtBut r w1 wr) (fun _ _ _ i _ => 101 - (intOf i).toNat)
  case atStart => exact ⟨0, by omega, rfl, fun m hm => absurd hm (Nat.not_lt_zero _), hw1.ext hx3, hx3.but r⟩
  case round =>
    obtain ⟨k, hk, rfl, H0, hwk, hxk⟩ := hrel
    by_cases hlt : k < 101
    · have hpk := hps k hlt
      by_cases hpos : 0 < f k
      · have HE := Lib.hid (HS.out k hlt hpos H0.out)
        go_wp2_with (go_at_call 62; (with_reducible refine (hpk _ _ _ hwk).mono ?_); rintro e w4 ⟨rfl, hx4, hw4⟩)
        go_ret2
        rw [HE.out]
        exact ⟨rfl, ExtBut.ext hx1 hr1 (hxk.trans hx4)⟩
      · go_wp2_with (go_at_call 62; (with_reducible refine (hpk _ _ _ hwk).mono ?_); rintro e w4 ⟨rfl, hx4, hw4⟩)
        go_roundw
        case rel => exact ⟨k + 1, by omega, by go_num, upTo_next H0.out (by omega), hw4, hxk.trans hx4⟩
        case measure => simp [intOf]; omega
    · have hk' : k = 101 := by omega
      subst hk'
      have HE := Lib.hid (HN.out H0.out)
      go_wp2_with fail
      go_ret2
      rw [HE.out]
      exact ⟨rfl, ExtBut.ext hx1 hr1 hxk⟩
end Go.Proofs.Ytfjecbfcnngacaa
namespace Go.Proofs.Ytfjecbfcnngacaa
open Go.RowKit Go.Hs
theorem Least_any (v : Value) (l : List Tar) (c d : Int) (w : World) (hv : TarsV w v l) :
    Calls Try.prog 40 #[v, .int .i64 c, .int .i64 d] w fun e w' => e = .returned (leastR l c d) ∧ Ext w w' := by
  by_cases h : checkS l = 0
  · cases h1 : (inR c 0 ((cropsN l : Int) - 1) && inR d 0 120) with
    | false =>
      have e : leastR l c d = .tuple #[.int .i64 0, .int .i64 2] := by unfold leastR; rw [if_pos h, h1]; rfl
      rw [e]; exact Least_no v l c d w hv h h1
    | true =>
      have e : leastR l c d = leastV (leastS l c d) := by unfold leastR; rw [if_pos h, h1]; rfl
      rw [e]
      simp only [Bool.and_eq_true] at h1
      exact Least_good v l c d w hv h h1.1 h1.2
  · have e : leastR l c d = .tuple #[.int .i64 0, .int .i64 (checkS l)] := if_neg h
    rw [e]; exact Least_bad v l c d w hv h
def boundsR (l : List Tar) (c : Cla) : Value := if askS l [c] = 0 then .tuple #[.agg #[.int .i64 (endsS l c).lo, .int .i64 (endsS l c).hi], .int .i64 0] else .tuple #[.agg #[.int .i64 0, .int .i64 0], .int .i64 (askS l [c])]
theorem Bounds_any (v : Value) (l : List Tar) (c : Cla) (w : World) (hv : TarsV w v l) :
    Calls Try.prog 27 #[v, c.u.val] w fun e w' => e = .returned (boundsR l c) ∧ Ext w w' := by
  by_cases h : askS l [c] = 0
  · rw [show boundsR l c = _ from if_pos h]; exact Bounds_good v l c w hv h
  · rw [show boundsR l c = _ from if_neg h]; exact Bounds_bad v l c w hv h
def showR (l : List Tar) (c : Cla) (high : Bool) : Value := if askS l [c] = 0 then .tuple #[.agg #[.int .i64 (if high then (endsS l c).hd else (endsS l c).ld), .int .i64 (if high then (endsS l c).hn else (endsS l c).ln)], .int .i64 0] else .tuple #[.agg #[.int .i64 0, .int .i64 0], .int .i64 (askS l [c])]
theorem Show_any (v : Value) (l : List Tar) (c : Cla) (high : Bool) (w : World) (hv : TarsV w v l) :
    Calls Try.prog 29 #[v, c.u.val, .bool high] w fun e w' => e = .returned (showR l c high) ∧ Ext w w' := by
  by_cases h : askS l [c] = 0
  · rw [show showR l c high = _ from if_pos h]; exact Show_good v l c high w hv h
  · rw [show showR l c high = _ from if_neg h]; exact Show_bad v l c high w hv h
def paidR (l : List Tar) (c : Cla) : Value := if askS l [c] = 0 then .tuple #[.int .i64 (verdictS (endsS l c).lo (endsS l c).hi), .int .i64 0] else .tuple #[.int .i64 0, .int .i64 (askS l [c])]
theorem Paid_any (v : Value) (l : List Tar) (c : Cla) (w : World) (hv : TarsV w v l) :
    Calls Try.prog 30 #[v, c.u.val] w fun e w' => e = .returned (paidR l c) ∧ Ext w w' := by
  by_cases h : askS l [c] = 0
  · rw [show paidR l c = _ from if_pos h]; exact Paid_good v l c w hv h
  · rw [show paidR l c = _ from if_neg h]; exact Paid_bad v l c w hv h
end Go.Proofs.Ytfjecbfcnngacaa
