/- The walk of TariffParts. -/
import Derived.Test.YtfjecbfcnngacaaAO
import Derived.Test.YtfjecbfcnngacaaAH
import Derived.Test.YtfjecbfcnngacaaAE
namespace Go.Proofs.Ytfjecbfcnngacaa
open Go.RowKit Go.Hs
def partN (l : List Tar) (c d n : Int) : Int := if checkS l = 0 then (if askB l c d n then partS l c d n else 0) else 0
def partE (l : List Tar) (c d n : Int) : Int := if checkS l = 0 then (if askB l c d n then 0 else 2) else checkS l
theorem partR_eq (l : List Tar) (c d n : Int) : partR l c d n = .tuple #[.int .i64 (partN l c d n), .int .i64 (partE l c d n)] := by
  unfold partR partN partE
  split
  · split <;> rfl
  · rfl
attribute [local irreducible] World.setCell World.alloc

set_option maxRecDepth 100000 in
set_option maxHeartbeats 2000000 in
theorem walk_TariffParts (v : Value) (l : List Tar) (crop day count : Int) (w : World) (hv : TarsW w v l) (_ : (Lit.int .i64 crop).wf = true) (_ : (Lit.int .i64 day).wf = true) (_ : (Lit.int .i64 count).wf = true) :
    Calls Try.prog 3 #[v, .int .i64 crop, .int .i64 day, .int .i64 count] w fun e w' => e = .returned (.bool true) ∧ Ext w w' := by
  have hth := Thin_any v l w hv
  have HAW : Hid (∀ W, Calls Try.prog 19 #[] W fun e w' => e = .returned (.bool true) ∧ Ext W w') := awake_any

  cases ht : thinB l with
  | false =>
    rw [ht] at hth
    obtain ⟨a, c, rfl, -⟩ := hv
    clear ht
    go_enter Try.func3, Try.ntmps3
    go_wp2_with fail
    (with_reducible refine hth.mono ?_)
    rintro e w1 ⟨rfl, rfl⟩
    go_wp2_with fail
    (with_reducible refine (HAW.out _).mono ?_)
    rintro e w2 ⟨rfl, hx2⟩
    go_wp2_with fail
    go_ret
    exact ⟨rfl, hx2⟩
  | true =>
    rw [ht] at hth
    have hvv := hv.toV ht
    have HV := Lib.hid hvv
    have HTA : Hid (∀ W, Ext w W → Calls Try.prog 21 #[v] W fun e w' => ∃ v', e = .returned v' ∧ TarsV w' v' l ∧ Ext W w') := fun W hx => Tariffs_any v l W (hvv.ext hx) ht
    have HPA : Hid (∀ v' W, TarsV W v' l → Calls Try.prog 20 #[v', .int .i64 crop, .int .i64 day, .int .i64 count] W fun e w' => e = .returned (.tuple #[.int .i64 (partN l crop day count), .int .i64 (partE l crop day count)]) ∧ Ext W w') := fun v' W h => by rw [← partR_eq]; exact Part_any v' l crop day count W h
    have HCK : Hid (∀ v' W, TarsV W v' l → Calls Try.prog 23 #[v'] W fun e w' => e = .returned (.int .i64 (checkS l)) ∧ Ext W w') := fun v' W h => check_any v' l W h
    have HFA : Hid (∀ W, Ext w W → Calls Try.prog 22 #[v] W fun e w' => e = .returned (.int .i64 (checkS l)) ∧ Ext W w') := fun W hx => fault_any v l W (hvv.ext hx)
    have HCR : Hid (checkS l = 0 → ∀ W, Ext w W → Calls Try.prog 25 #[v] W fun e w' => e = .returned (.int .i64 (cropsN l)) ∧ W = w') := fun h W hx => Crops_any v l W (hvv.ext hx) (validL_of h).pos
    have HIN : Hid (∀ x lo hi W, Calls Try.prog 24 #[.int .i64 x, .int .i64 lo, .int .i64 hi] W fun e w' => e = .returned (.bool (inR x lo hi)) ∧ W = w') := In_any
    have HRP : Hid (checkS l = 0 → askB l crop day count = true → ∀ W, Ext w W → Calls Try.prog 26 #[v, .int .i64 crop, .int .i64 day, .int .i64 count] W fun e w' => e = .returned (.int .i64 (partS l crop day count)) ∧ Ext W w') := fun h ha W hx => by
      simp only [askB, Bool.and_eq_true, inR_iff] at ha
      exact RefPart_any v l crop day count W (hvv.ext hx) (validL_of h) ha.1.1.1 (by omega) ha.1.2.1 ha.2.1 ha.2.2
    have HPN : Hid (partN l crop day count = if checkS l = 0 then (if askB l crop day count then partS l crop day count else 0) else 0) := rfl
    have HPE : Hid (partE l crop day count = if checkS l = 0 then (if askB l crop day count then 0 else 2) else checkS l) := rfl
    have HAB : Hid (askB l crop day count = (inR crop 0 ((cropsN l : Int) - 1) && inR day 0 120 && inR count 0 100)) := rfl
    have hcl : (cropsN l : Int) ≤ 140737488351232 := by
      simp only [thinB, Bool.and_eq_true, decide_eq_true_eq, allB_iff] at ht
      unfold cropsN
      by_cases h0 : 0 < l.length
      · have := ht.2 0 h0
        simp only [thinT, Bool.and_eq_true, decide_eq_true_eq] at this
        omega
      · have e : l = [] := List.eq_nil_of_length_eq_zero (by omega)
        subst e
        exact by decide
    clear hvv ht
    obtain ⟨a, c, rfl, -⟩ := hv
    generalize partN l crop day count = pn at *
    generalize partE l crop day count = pe at *
    generalize partS l crop day count = ps at *
    generalize askB l crop day count = ab at *
    generalize checkS l = r at *
    generalize cropsN l = cn at *
    have hsub : IntKind.i64.wrap ((cn : Int) - 1) = (cn : Int) - 1 := IntWalk.i64_in _ (by omega)
    go_enter Try.func3, Try.ntmps3
    go_wp2_with fail
    (with_reducible refine hth.mono ?_)
    rintro e w1 ⟨rfl, rfl⟩
    clear hth
    go_wp2_with fail
    (with_reducible refine (HTA.out _ (Ext.refl _)).mono ?_)
    rintro e w1 ⟨v1, rfl, hv1, hx1⟩
    go_wp2_with fail
    (with_reducible refine (HPA.out _ _ hv1).mono ?_)
    rintro e w2 ⟨rfl, hx2⟩
    have X2 := hx1.trans hx2
    clear hv1 hx1 hx2
    go_wp2_with fail
    (with_reducible refine (HFA.out _ X2).mono ?_)
    rintro e w3 ⟨rfl, hx3⟩
    have X3 := X2.trans hx3
    clear X2 hx3
    go_wp2_with fail
    (with_reducible refine (HTA.out _ X3).mono ?_)
    rintro e w4 ⟨v4, rfl, hv4, hx4⟩
    go_wp2_with fail
    (with_reducible refine (HCK.out _ _ hv4).mono ?_)
    rintro e w5 ⟨rfl, hx5⟩
    have X5 := X3.trans (hx4.trans hx5)
    clear X3 hx4 hx5 hv4
    by_cases h0 : r = 0
    · subst h0
      have hcr := HCR.out rfl w5 X5
      have HPN' : Hid (pn = if ab then ps else 0) := by rw [HPN.out]; exact Lib.hid rfl
      have HPE' : Hid (pe = if ab then 0 else 2) := by rw [HPE.out]; exact Lib.hid rfl
      have HRP' := Lib.hid (HRP.out rfl)
      clear HPN HPE HRP
      go_wp2_with fail
      (with_reducible refine hcr.mono ?_)
      rintro e w6 ⟨rfl, rfl⟩
      clear hcr
      cases h1 : inR crop 0 ((cn : Int) - 1) with
      | false =>
        have hab : ab = false := by rw [HAB.out, h1]; rfl
        subst hab
        obtain rfl : pn = 0 := HPN'.out
        obtain rfl : pe = 2 := HPE'.out
        have hi1 := HIN.out crop 0 ((cn : Int) - 1) w5
        rw [h1] at hi1
        clear h1 HPN' HPE' HRP'
        go_wp2_with fail
        (with_reducible refine hi1.mono ?_)
        rintro e w7 ⟨rfl, rfl⟩
        clear hi1
        go_wp2_with fail
        (with_reducible refine (HAW.out _).mono ?_)
        rintro e w8 ⟨rfl, hx8⟩
        go_wp2_with fail
        go_ret
        exact ⟨rfl, X5.trans hx8⟩
      | true =>
        have hi1 := HIN.out crop 0 ((cn : Int) - 1) w5
        rw [h1] at hi1
        go_wp2_with fail
        (with_reducible refine hi1.mono ?_)
        rintro e w7 ⟨rfl, rfl⟩
        clear hi1
        cases h2 : inR day 0 120 with
        | false =>
          have hab : ab = false := by rw [HAB.out, h1, h2]; rfl
          subst hab
          obtain rfl : pn = 0 := HPN'.out
          obtain rfl : pe = 2 := HPE'.out
          have hi1 := HIN.out day 0 120 w5
          rw [h2] at hi1
          clear h1 h2 HPN' HPE' HRP'
          go_wp2_with fail
          (with_reducible refine hi1.mono ?_)
          rintro e w7 ⟨rfl, rfl⟩
          clear hi1
          go_wp2_with fail
          (with_reducible refine (HAW.out _).mono ?_)
          rintro e w8 ⟨rfl, hx8⟩
          go_wp2_with fail
          go_ret
          exact ⟨rfl, X5.trans hx8⟩
        | true =>
          have hi1 := HIN.out day 0 120 w5
          rw [h2] at hi1
          go_wp2_with fail
          (with_reducible refine hi1.mono ?_)
          rintro e w7 ⟨rfl, rfl⟩
          clear hi1
          cases h3 : inR count 0 100 with
          | false =>
            have hab : ab = false := by rw [HAB.out, h1, h2, h3]; rfl
            subst hab
            obtain rfl : pn = 0 := HPN'.out
            obtain rfl : pe = 2 := HPE'.out
            have hi1 := HIN.out count 0 100 w5
            rw [h3] at hi1
            clear h1 h2 h3 HPN' HPE' HRP'
            go_wp2_with fail
            (with_reducible refine hi1.mono ?_)
            rintro e w7 ⟨rfl, rfl⟩
            clear hi1
            go_wp2_with fail
            (with_reducible refine (HAW.out _).mono ?_)
            rintro e w8 ⟨rfl, hx8⟩
            go_wp2_with fail
            go_ret
            exact ⟨rfl, X5.trans hx8⟩
          | true =>
            have hab : ab = true := by rw [HAB.out, h1, h2, h3]; rfl
            subst hab
            obtain rfl : pn = ps := HPN'.out
            obtain rfl : pe = 0 := HPE'.out
            have hi1 := HIN.out count 0 100 w5
            rw [h3] at hi1
            have hrp := HRP'.out rfl w5 X5
            clear h1 h2 h3 HPN' HPE' HRP'
            go_wp2_with fail
            (with_reducible refine hi1.mono ?_)
            rintro e w7 ⟨rfl, rfl⟩
            clear hi1
            go_wp2_with fail
            (with_reducible refine hrp.mono ?_)
            rintro e w7 ⟨rfl, hx7⟩
            clear hrp
            go_wp2_with fail
            (with_reducible refine (HAW.out _).mono ?_)
            rintro e w8 ⟨rfl, hx8⟩
            go_wp2_with fail
            go_ret
            exact ⟨rfl, X5.trans (hx7.trans hx8)⟩
    · obtain rfl : pn = 0 := by rw [HPN.out, if_neg h0]
      obtain rfl : pe = r := by rw [HPE.out, if_neg h0]
      have hb1 : (pe == 0) = false := by rw [beq_eq_false_iff_ne]; exact h0
      have hb2 : (pe != 0) = true := by rw [bne_iff_ne]; exact h0
      clear HPN HPE HRP HCR h0
      go_wp2_with fail
      (with_reducible refine (HAW.out _).mono ?_)
      rintro e w8 ⟨rfl, hx8⟩
      go_wp2_with fail
      go_ret
      exact ⟨rfl, X5.trans hx8⟩
end Go.Proofs.Ytfjecbfcnngacaa
