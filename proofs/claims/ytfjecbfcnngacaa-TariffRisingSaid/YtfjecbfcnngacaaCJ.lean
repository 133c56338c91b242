/- Contracts: the misprints of rates, as the program answers. -/
import Derived.Test.YtfjecbfcnngacaaCI
import Derived.Test.YtfjecbfcnngacaaAC
import Derived.WalkMore
namespace Go.Proofs.Ytfjecbfcnngacaa
open Go.RowKit Go.Hs
attribute [local irreducible] World.setCell World.alloc

theorem try_any (wb : World) (R F L T : Nat) (vr : Value) (r : List Int) (hr : IntsV wb vr r) (h5 : r.length ≤ 5) (m : Nat) : TryC wb R F L T vr r m := by
  induction m with
  | zero =>
    intro fI mI start out vo f W h1 h2 hs ho hx _ _ hp
    subst h2
    have := try_zero wb R F L T vr r hr h5 fI out vo f W hs ho hx (hp.imp_right (fun h => h.1))
    exact this
  | succ m ih => exact try_succ wb R F L T vr r hr h5 m ih
/-- The rates that are asked for. -/
def misB (l : List Tar) (which crop week : Int) : Bool := inR which 0 ((l.length : Int) - 1) && (inR crop 0 ((cropsN l : Int) - 1) && inR week 0 (((l.getD which.toNat default).weeks.length : Int) - 1))
def ratesS (l : List Tar) (which crop week : Int) : List Int := ((l.getD which.toNat default).rates.getD crop.toNat []).getD week.toNat []
/-- The first set of them all. -/
def misS (r : List Int) : Option (List Nat) := scan (fun n => tryS r n [] 0) (r.length + 1) 0
theorem rates_ok {l : List Tar} (hl : ValidL l) {which crop week : Int} (h : misB l which crop week = true) :
    ∃ i j k : Nat, which = i ∧ crop = j ∧ week = k ∧ i < l.length ∧ j < (l.getD i default).rates.length ∧ j < cropsN l ∧ k < ((l.getD i default).rates.getD j []).length ∧ k < (l.getD i default).weeks.length ∧ RowOK (l.getD i default).counts.length (ratesS l which crop week) ∧ (l.getD i default).counts.length ≤ 5 ∧ 1 < (l.getD i default).counts.length := by
  unfold misB at h
  simp only [Bool.and_eq_true, inR_iff] at h
  obtain ⟨h1, h2, h3⟩ := h
  obtain ⟨i, rfl⟩ : ∃ i : Nat, which = i := ⟨which.toNat, by omega⟩
  obtain ⟨j, rfl⟩ : ∃ j : Nat, crop = j := ⟨crop.toNat, by omega⟩
  obtain ⟨k, rfl⟩ : ∃ k : Nat, week = k := ⟨week.toNat, by omega⟩
  simp only [Int.toNat_natCast] at h3
  have hi : i < l.length := by omega
  have v := validB_iff.1 (hl.valid i hi)
  have e := hl.crops i hi
  have hj : j < (l.getD i default).rates.length := by omega
  have hk : k < (l.getD i default).weeks.length := by omega
  have hrow := v.rows j hj
  have hf := hl.few i hi
  simp only [fewB, Bool.and_eq_true, decide_eq_true_eq] at hf
  refine ⟨i, j, k, rfl, rfl, rfl, hi, hj, by omega, by rw [hrow.1]; exact hk, hk, ?_, hf.1.2, v.two⟩
  unfold ratesS
  simp only [Int.toNat_natCast]
  exact hrow.2 k hk

set_option maxRecDepth 100000 in
set_option maxHeartbeats 1000000 in
theorem Mis_bad (v : Value) (l : List Tar) (which crop week : Int) (w : World) (hv : TarsV w v l) (h : checkS l ≠ 0) :
    Calls Try.prog 51 #[v, .int .i64 which, .int .i64 crop, .int .i64 week] w fun e w' => e = .returned (.tuple #[.slice none 0 0, .int .i64 (checkS l)]) ∧ Ext w w' := by
  have hb := asked_bad v l none 0 [] (by simp) w hv (fun i hi => absurd hi (by simp)) (by rw [no_claims]; exact h)
  rw [no_claims] at hb
  simp only [List.length_nil] at hb
  have hd : (checkS l != 0) = true := by simp [h]
  clear h
  generalize checkS l = ck at *
  go_enter Try.func51, Try.ntmps51
  go_wp2_with fail
  go_step3
  go_wp2_with fail
  (with_reducible refine hb.mono ?_)
  rintro e w1 ⟨rfl, hx1⟩
  go_wp2_with fail
  (try rw [Exit.noGoto_ret])
  go_ret2
  exact ⟨rfl, by (repeat (first | exact Ext.refl _ | (with_reducible assumption) | (with_reducible refine Ext.drew ?_) | (with_reducible refine Ext.alloc ?_ _) | (with_reducible refine Ext.drewN ?_ _) | (with_reducible refine Ext.setCell ?_ (by omega) _) | (with_reducible refine Ext.trans ?_ (by with_reducible assumption))))⟩

set_option maxRecDepth 100000 in
set_option maxHeartbeats 2000000 in
theorem Mis_no (v : Value) (l : List Tar) (which crop week : Int) (w : World) (hv : TarsV w v l) (h : checkS l = 0) (hm : misB l which crop week = false) :
    Calls Try.prog 51 #[v, .int .i64 which, .int .i64 crop, .int .i64 week] w fun e w' => e = .returned (.tuple #[.slice none 0 0, .int .i64 2]) ∧ Ext w w' := by
  have hl := validL_of h
  have hb := asked_good v l none 0 [] (by simp) w hv (fun i hi => absurd hi (by simp)) (by rw [no_claims]; exact h)
  simp only [List.length_nil] at hb
  have hoc : ∀ W', Ext w W' → Calls Try.prog 59 #[.agg #[v], .int .i64 crop] W' fun e w' => e = .returned (.bool (inR crop 0 ((cropsN l : Int) - 1))) ∧ Ext W' w' := fun W' hx => ocrop_any v l hl.pos crop W' (hv.ext hx)
  have HOC := Lib.hid hoc
  have h3 := hl.three
  have hw1 : IntKind.i64.wrap ((l.length : Int) - 1) = (l.length : Int) - 1 := IntWalk.i64_in _ (by omega)
  have HW1 : Hid (∀ W, Calls Try.prog 74 #[.int .i64 which, .int .i64 0, .int .i64 ((l.length : Int) - 1)] W fun e w' => e = .returned (.bool (inR which 0 ((l.length : Int) - 1))) ∧ W = w') := fun W => within_any _ _ _ W
  unfold misB at hm
  by_cases a1 : inR which 0 ((l.length : Int) - 1) = true
  · rw [a1] at HW1
    by_cases a2 : inR crop 0 ((cropsN l : Int) - 1) = true
    · rw [a2] at HOC
      rw [a1, a2] at hm
      simp only [Bool.true_and] at hm
      rw [inR_iff] at a1
      obtain ⟨i, rfl⟩ : ∃ i : Nat, which = i := ⟨which.toNat, by omega⟩
      simp only [Int.toNat_natCast] at hm
      have hi : i < l.length := by omega
      have hf := hl.few i hi
      simp only [fewB, Bool.and_eq_true, decide_eq_true_eq] at hf
      have hW2 : ∀ W, Calls Try.prog 74 #[.int .i64 week, .int .i64 0, .int .i64 (((l.getD i default).weeks.length : Int) - 1)] W fun e w' => e = .returned (.bool (inR week 0 (((l.getD i default).weeks.length : Int) - 1))) ∧ W = w' := fun W => within_any _ _ _ W
      rw [hm] at hW2
      have HW2 := Lib.hid hW2
      have hw2 : IntKind.i64.wrap (((l.getD i default).weeks.length : Int) - 1) = ((l.getD i default).weeks.length : Int) - 1 := IntWalk.i64_in _ (by omega)
      obtain ⟨a, c, rfl, g1, g2, hr⟩ := hv
      obtain ⟨b, off, rfl, hta⟩ := hr i hi
      obtain ⟨a3, k3, a4, k4, a5, k5, m0, m1, m2, m3, m4, m5, mc⟩ := TarAt.open hta
      have e1 : l[i] = l.getD i default := by simp [hi]
      rw [e1] at m3
      have HM := Lib.hid m3
      have hi0 : (0 : Int) ≤ (i : Int) := by omega
      have hi1 : (i : Int) < (l.length : Int) := by omega
      clear hr hta m0 m1 m2 m3 m4 m5 mc e1 h hl hm hoc hf hW2
      generalize (l.getD i default).weeks.length = wn at *
      generalize l.length = n at *
      go_enter Try.func51, Try.ntmps51
      go_wp2_with fail
      go_step3
      go_wp2_with fail
      (with_reducible refine hb.mono ?_)
      rintro e w1 ⟨p, r, rfl, hx1, hw1', hr1⟩
      have k0 := hw1'.list
      clear hb
      go_wp2_with fail
      (with_reducible refine (HW1.out _).mono ?_)
      rintro e w2 ⟨rfl, hw⟩
      subst hw
      go_wp2_with fail
      (with_reducible refine (HOC.out _ hx1).mono ?_)
      rintro e w3 ⟨rfl, hx3⟩
      have m3 := (hx1.trans hx3).keep HM.out
      go_wp2_with fail
      (with_reducible refine (HW2.out _).mono ?_)
      rintro e w4 ⟨rfl, hw⟩
      subst hw
      go_wp2_with fail
      (try rw [Exit.noGoto_ret])
      go_ret2
      exact ⟨rfl, hx1.trans hx3⟩
    · have a2' : inR crop 0 ((cropsN l : Int) - 1) = false := by simpa using a2
      rw [a2'] at HOC
      obtain ⟨a, c, rfl, g1, g2, hr⟩ := hv
      clear hr hm h hl a1 a2 a2' hoc
      generalize l.length = n at *
      go_enter Try.func51, Try.ntmps51
      go_wp2_with fail
      go_step3
      go_wp2_with fail
      (with_reducible refine hb.mono ?_)
      rintro e w1 ⟨p, r, rfl, hx1, hw1', hr1⟩
      have k0 := hw1'.list
      clear hb
      go_wp2_with fail
      (with_reducible refine (HW1.out _).mono ?_)
      rintro e w2 ⟨rfl, hw⟩
      subst hw
      go_wp2_with fail
      (with_reducible refine (HOC.out _ hx1).mono ?_)
      rintro e w3 ⟨rfl, hx3⟩
      go_wp2_with fail
      (try rw [Exit.noGoto_ret])
      go_ret2
      exact ⟨rfl, hx1.trans hx3⟩
  · have a1' : inR which 0 ((l.length : Int) - 1) = false := by simpa using a1
    rw [a1'] at HW1
    obtain ⟨a, c, rfl, g1, g2, hr⟩ := hv
    clear hr hm h hl a1 a1' hoc HOC
    generalize l.length = n at *
    go_enter Try.func51, Try.ntmps51
    go_wp2_with fail
    go_step3
    go_wp2_with fail
    (with_reducible refine hb.mono ?_)
    rintro e w1 ⟨p, r, rfl, hx1, hw1', hr1⟩
    clear hb
    go_wp2_with fail
    (with_reducible refine (HW1.out _).mono ?_)
    rintro e w2 ⟨rfl, hw⟩
    subst hw
    go_wp2_with fail
    (try rw [Exit.noGoto_ret])
    go_ret2
    exact ⟨rfl, hx1⟩
end Go.Proofs.Ytfjecbfcnngacaa
