/- The walk of TariffMisprints. -/
import Derived.Test.YtfjecbfcnngacaaCK
import Derived.Test.YtfjecbfcnngacaaCP
import Derived.Test.YtfjecbfcnngacaaAG
import Derived.Test.YtfjecbfcnngacaaAL
import Derived.Test.YtfjecbfcnngacaaAE
import Derived.Test.YtfjecbfcnngacaaAH
namespace Go.Proofs.Ytfjecbfcnngacaa
open Go.RowKit Go.Hs
attribute [local irreducible] World.setCell World.alloc

/-- What lies where the rates that are asked for lie. -/
theorem rates_at {w : World} {v : Value} {l : List Tar} (hv : TarsV w v l) {i j k : Nat} (hi : i < l.length) (hj : j < (l.getD i default).rates.length) (hk : k < ((l.getD i default).rates.getD j []).length) :
    ∃ b off c b5 o5 k5 b6 o6 c6 a7 c7 e3 k3, v = .slice (some ⟨b, off, none⟩) l.length c ∧ w.cell? ⟨b, off + i * 6 + 3, none⟩ = some (.slice e3 (l.getD i default).weeks.length k3) ∧ w.cell? ⟨b, off + i * 6 + 5, none⟩ = some (.slice (some ⟨b5, o5, none⟩) (l.getD i default).rates.length k5) ∧
      w.cell? ⟨b5, o5 + j, none⟩ = some (.slice (some ⟨b6, o6, none⟩) ((l.getD i default).rates.getD j []).length c6) ∧ w.cell? ⟨b6, o6 + k, none⟩ = some (.slice a7 (((l.getD i default).rates.getD j []).getD k []).length c7) ∧
      IntsV w (.slice a7 (((l.getD i default).rates.getD j []).getD k []).length c7) (((l.getD i default).rates.getD j []).getD k []) := by
  obtain ⟨a, c, rfl, g1, g2, hr⟩ := hv
  obtain ⟨b, off, rfl, hta⟩ := hr i hi
  obtain ⟨e3, k3, e4, k4, e5, k5, m0, m1, m2, m3, m4, m5, mc⟩ := TarAt.open hta
  have e1 : l[i] = l.getD i default := by simp [hi]
  rw [e1] at m3 m5 mc
  generalize l.getD i default = t at *
  obtain ⟨a5, c5, he5, -, -, hr5⟩ := mc.rates
  cases he5
  obtain ⟨b5, o5, rfl, v6, q5, h6⟩ := hr5 j hj
  obtain ⟨a6, c6, rfl, -, -, hr6⟩ := h6
  have e6 : t.rates[j] = t.rates.getD j [] := by simp [hj]
  rw [e6] at q5 hr6
  generalize t.rates.getD j [] = zz at *
  obtain ⟨b6, o6, rfl, v7, q6, h7⟩ := hr6 k hk
  have e7 : zz[k] = zz.getD k [] := by simp [hk]
  rw [e7] at h7
  rw [Nat.mul_one] at q5 q6
  have h7' := h7
  obtain ⟨a7, c7, rfl, -, -, -⟩ := h7
  exact ⟨b, off, c, b5, o5, _, b6, o6, c6, a7, c7, e3, k3, rfl, m3, m5, q5, q6, h7'⟩

set_option maxRecDepth 100000 in
set_option maxHeartbeats 4000000 in
theorem walk_TariffMisprints (v : Value) (l : List Tar) (which crop week : Int) (w : World) (hv : TarsW w v l) (_ : (Lit.int .i64 which).wf = true) (_ : (Lit.int .i64 crop).wf = true) (_ : (Lit.int .i64 week).wf = true) :
    Calls Try.prog 15 #[v, .int .i64 which, .int .i64 crop, .int .i64 week] w fun e w' => e = .returned (.bool true) ∧ Ext w w' := by
  have HAW : Hid (∀ W, Calls Try.prog 19 #[] W fun e w' => e = .returned (.bool true) ∧ Ext W w') := awake_any
  have hth := Thin_any v l w hv
  cases ht : thinB l with
  | false =>
    rw [ht] at hth
    obtain ⟨a, k, rfl, -⟩ := hv
    clear ht
    go_enter Try.func15, Try.ntmps15
    go_wp2_with fail
    (with_reducible refine hth.mono ?_)
    rintro e w1 ⟨rfl, hw1⟩
    subst hw1
    go_wp2_with fail
    (with_reducible refine (HAW.out _).mono ?_)
    rintro e w2 ⟨rfl, hx2⟩
    go_wp2_with fail
    go_ret
    exact ⟨rfl, hx2⟩
  | true =>
    rw [ht] at hth
    have hvv := hv.toV ht
    have HTA : Hid (∀ W, Ext w W → Calls Try.prog 21 #[v] W fun e w' => ∃ v', e = .returned v' ∧ TarsV w' v' l ∧ Ext W w') := fun W hx => Tariffs_any v l W (hvv.ext hx) ht
    have HFA : Hid (∀ W, Ext w W → Calls Try.prog 22 #[v] W fun e w' => e = .returned (.int .i64 (checkS l)) ∧ Ext W w') := fun W hx => fault_any v l W (hvv.ext hx)
    by_cases h0 : checkS l = 0
    · have hl := validL_of h0
      rw [h0] at HFA
      have hlen := hl.three
      have hw1 : IntKind.i64.wrap ((l.length : Int) - 1) = (l.length : Int) - 1 := IntWalk.i64_in _ (by omega)
      have hcn : (1 : Int) ≤ cropsN l ∧ (cropsN l : Int) ≤ 3 := by
        have h1 : 0 < cropsN l := (validB_iff.1 (hl.valid 0 hl.pos)).crops
        have h2 := hl.few 0 hl.pos
        simp only [fewB, Bool.and_eq_true, decide_eq_true_eq] at h2
        have h3 : cropsN l ≤ 3 := h2.2
        omega
      have hw2 : IntKind.i64.wrap ((cropsN l : Int) - 1) = (cropsN l : Int) - 1 := IntWalk.i64_in _ (by omega)
      have HCR : Hid (∀ W, Ext w W → Calls Try.prog 25 #[v] W fun e w' => e = .returned (.int .i64 (cropsN l)) ∧ Ext W w') := fun W hx => (Crops_any v l W (hvv.ext hx) hl.pos).mono fun e w' h => ⟨h.1, h.2 ▸ Ext.refl _⟩
      have HI1 : Hid (∀ W, Calls Try.prog 24 #[.int .i64 which, .int .i64 0, .int .i64 ((l.length : Int) - 1)] W fun e w' => e = .returned (.bool (inR which 0 ((l.length : Int) - 1))) ∧ Ext W w') := fun W => (In_any _ _ _ W).mono fun e w' h => ⟨h.1, h.2 ▸ Ext.refl _⟩
      have HI2 : Hid (∀ W, Calls Try.prog 24 #[.int .i64 crop, .int .i64 0, .int .i64 ((cropsN l : Int) - 1)] W fun e w' => e = .returned (.bool (inR crop 0 ((cropsN l : Int) - 1))) ∧ Ext W w') := fun W => (In_any _ _ _ W).mono fun e w' h => ⟨h.1, h.2 ▸ Ext.refl _⟩
      have HI3 : Hid (∀ W, Calls Try.prog 24 #[.int .i64 week, .int .i64 0, .int .i64 (((l.getD which.toNat default).weeks.length : Int) - 1)] W fun e w' => e = .returned (.bool (inR week 0 (((l.getD which.toNat default).weeks.length : Int) - 1))) ∧ Ext W w') := fun W => (In_any _ _ _ W).mono fun e w' h => ⟨h.1, h.2 ▸ Ext.refl _⟩
      cases hm : misB l which crop week with
      | true =>
        obtain ⟨i, j, k, rfl, rfl, rfl, hi, hj, hjc, hk, hkw, hrow, hc5, -⟩ := rates_ok hl hm
        have hrl : (ratesS l i j k).length ≤ 5 := by rw [hrow.len]; exact hc5
        have hr0 : ∀ x, x < (ratesS l i j k).length → 0 ≤ (ratesS l i j k).getD x 0 := fun x hx => (hrow.bound x hx).1
        obtain ⟨x, hx, hmx⟩ := mis_some hrl hr0
        have hxe : x = refMis (ratesS l i j k) := hmx.unique hrl (ref_mis hrl)
        have HMI : Hid (∀ v' W, TarsV W v' l → Calls Try.prog 51 #[v', .int .i64 i, .int .i64 j, .int .i64 k] W fun e w' => ∃ vx, e = .returned (.tuple #[vx, .int .i64 0]) ∧ IntsV w' vx (ints x) ∧ Ext W w') := fun v' W h => Mis_good v' l i j k x W h h0 hm hx
        unfold misB at hm
        simp only [Bool.and_eq_true] at hm
        obtain ⟨a1, a2, a3⟩ := hm
        rw [a1] at HI1
        rw [a2] at HI2
        rw [a3] at HI3
        simp only [Int.toNat_natCast] at HI3
        have hww := hl.few i hi
        simp only [fewB, Bool.and_eq_true, decide_eq_true_eq] at hww
        have hw3 : IntKind.i64.wrap (((l.getD i default).weeks.length : Int) - 1) = ((l.getD i default).weeks.length : Int) - 1 := IntWalk.i64_in _ (by omega)
        unfold ratesS at hxe hrl
        simp only [Int.toNat_natCast] at hxe hrl
        obtain ⟨b, off, c, b5, o5, k5, b6, o6, c6, a7, c7, e3, k3, rfl, m3, m5, q5, q6, h7⟩ := rates_at hvv hi hj hk
        have HM3 := Lib.hid m3
        have HM5 := Lib.hid m5
        have HQ5 := Lib.hid q5
        have HQ6 := Lib.hid q6
        have HRM : Hid (∀ W, Ext w W → Calls Try.prog 53 #[.slice a7 (((l.getD i default).rates.getD j []).getD k []).length c7] W fun e w' => ∃ v', e = .returned v' ∧ IntsV w' v' (ints x) ∧ Ext W w') := Lib.hid (fun W hx => by
          rw [hxe]; exact RefMis_any _ _ W (h7.ext hx) hrl)
        have HSA : Hid (∀ v1 v2 W, IntsV W v1 (ints x) → IntsV W v2 (ints x) → Calls Try.prog 52 #[v1, v2] W fun e w' => e = .returned (.bool true) ∧ Ext W w') := Lib.hid (fun v1 v2 W h1 h2 => by
          have hb : x.length ≤ 1000 := by
            rw [hxe]; have := bestTo_len (((l.getD i default).rates.getD j []).getD k []) (2 ^ (((l.getD i default).rates.getD j []).getD k []).length)
            unfold refMis; omega
          have := Same_any v1 v2 x x W h1 h2 hb hb
          rw [same_self] at this; exact this)
        have hi0 : (0 : Int) ≤ (i : Int) := by omega
        have hi1 : (i : Int) < (l.length : Int) := by omega
        have hj0 : (0 : Int) ≤ (j : Int) := by omega
        have hj1 : (j : Int) < ((l.getD i default).rates.length : Int) := by omega
        have hk0 : (0 : Int) ≤ (k : Int) := by omega
        have hk1 : (k : Int) < (((l.getD i default).rates.getD j []).length : Int) := by omega
        clear m3 m5 q5 q6 h7 hxe hmx hx hr0 hrow a1 a2 a3 hww hvv hv ht h0 hl hrl hc5 hcn
        generalize (((l.getD i default).rates.getD j []).getD k []).length = rn at *
        generalize ((l.getD i default).rates.getD j []).length = qn at *
        generalize (l.getD i default).rates.length = tn at *
        generalize (l.getD i default).weeks.length = wn at *
        generalize cropsN l = cn at *
        generalize l.length = n at *
        go_enter Try.func15, Try.ntmps15
        go_wp2_with fail
        (with_reducible refine hth.mono ?_)
        rintro e w1 ⟨rfl, hw⟩
        subst hw
        clear hth
        go_wp2_with fail
        (with_reducible refine (HTA.out _ (Ext.refl _)).mono ?_)
        rintro e w2 ⟨v2, rfl, hv2, hx2⟩
        go_wp2_with fail
        (with_reducible refine (HMI.out _ _ hv2).mono ?_)
        rintro e w3 ⟨vx, rfl, hvx, hx3⟩
        have X3 := hx2.trans hx3
        have HVX := Lib.hid hvx
        clear hv2 hx2 hx3 hvx
        go_wp2_with fail
        (with_reducible refine (HFA.out _ X3).mono ?_)
        rintro e w4 ⟨rfl, hx4⟩
        go_wp2_with fail
        (with_reducible refine (HI1.out _).mono ?_)
        rintro e w5 ⟨rfl, hx5⟩
        have X5 := X3.trans (hx4.trans hx5)
        go_wp2_with fail
        (with_reducible refine (HCR.out _ X5).mono ?_)
        rintro e w6 ⟨rfl, hx6⟩
        go_wp2_with fail
        (with_reducible refine (HI2.out _).mono ?_)
        rintro e w7 ⟨rfl, hx7⟩
        have X7 := X5.trans (hx6.trans hx7)
        have m3 := X7.keep HM3.out
        go_wp2_with fail
        (with_reducible refine (HI3.out _).mono ?_)
        rintro e w8 ⟨rfl, hx8⟩
        have X8 := X7.trans hx8
        have Y8 := hx4.trans (hx5.trans (hx6.trans (hx7.trans hx8)))
        clear m3 hx4 hx5 hx6 hx7 hx8 X3 X5 X7
        have m5 := X8.keep HM5.out
        have q5 := X8.keep HQ5.out
        have q6 := X8.keep HQ6.out
        go_wp2_with fail
        (with_reducible refine (HRM.out _ X8).mono ?_)
        rintro e w9 ⟨vy, rfl, hvy, hx9⟩
        go_wp2_with fail
        (with_reducible refine (HSA.out _ _ _ (HVX.out.ext (Y8.trans hx9)) hvy).mono ?_)
        rintro e w10 ⟨rfl, hx10⟩
        go_wp2_with fail
        (with_reducible refine (HAW.out _).mono ?_)
        rintro e w11 ⟨rfl, hx11⟩
        go_wp2_with fail
        go_ret
        exact ⟨rfl, X8.trans (hx9.trans (hx10.trans hx11))⟩
      | false =>
        have HMI : Hid (∀ v' W, TarsV W v' l → Calls Try.prog 51 #[v', .int .i64 which, .int .i64 crop, .int .i64 week] W fun e w' => e = .returned (.tuple #[.slice none 0 0, .int .i64 2]) ∧ Ext W w') := fun v' W h => Mis_no v' l which crop week W h h0 hm
        unfold misB at hm
        by_cases a1 : inR which 0 ((l.length : Int) - 1) = true
        · rw [a1] at HI1 hm
          by_cases a2 : inR crop 0 ((cropsN l : Int) - 1) = true
          · rw [a2] at HI2 hm
            simp only [Bool.true_and] at hm
            rw [hm] at HI3
            rw [inR_iff] at a1
            obtain ⟨i, rfl⟩ : ∃ i : Nat, which = i := ⟨which.toNat, by omega⟩
            simp only [Int.toNat_natCast] at HI3
            have hi : i < l.length := by omega
            have hww := hl.few i hi
            simp only [fewB, Bool.and_eq_true, decide_eq_true_eq] at hww
            have hw3 : IntKind.i64.wrap (((l.getD i default).weeks.length : Int) - 1) = ((l.getD i default).weeks.length : Int) - 1 := IntWalk.i64_in _ (by omega)
            obtain ⟨a, c, rfl, g1, g2, hr⟩ := hvv
            obtain ⟨b, off, rfl, hta⟩ := hr i hi
            obtain ⟨e3, k3, e4, k4, e5, k5, m0, m1, m2, m3, m4, m5, mc⟩ := TarAt.open hta
            have e1 : l[i] = l.getD i default := by simp [hi]
            rw [e1] at m3
            have HM3 := Lib.hid m3
            have hi0 : (0 : Int) ≤ (i : Int) := by omega
            have hi1 : (i : Int) < (l.length : Int) := by omega
            clear hr hta m0 m1 m2 m3 m4 m5 mc e1 h0 hl hm hww hv ht a1 a2 hcn
            generalize (l.getD i default).weeks.length = wn at *
            generalize cropsN l = cn at *
            generalize l.length = n at *
            go_enter Try.func15, Try.ntmps15
            go_wp2_with fail
            (with_reducible refine hth.mono ?_)
            rintro e w1 ⟨rfl, hw⟩
            subst hw
            clear hth
            go_wp2_with fail
            (with_reducible refine (HTA.out _ (Ext.refl _)).mono ?_)
            rintro e w2 ⟨v2, rfl, hv2, hx2⟩
            go_wp2_with fail
            (with_reducible refine (HMI.out _ _ hv2).mono ?_)
            rintro e w3 ⟨rfl, hx3⟩
            have X3 := hx2.trans hx3
            go_wp2_with fail
            (with_reducible refine (HFA.out _ X3).mono ?_)
            rintro e w4 ⟨rfl, hx4⟩
            go_wp2_with fail
            (with_reducible refine (HI1.out _).mono ?_)
            rintro e w5 ⟨rfl, hx5⟩
            have X5 := X3.trans (hx4.trans hx5)
            go_wp2_with fail
            (with_reducible refine (HCR.out _ X5).mono ?_)
            rintro e w6 ⟨rfl, hx6⟩
            go_wp2_with fail
            (with_reducible refine (HI2.out _).mono ?_)
            rintro e w7 ⟨rfl, hx7⟩
            have X7 := X5.trans (hx6.trans hx7)
            have m3 := X7.keep HM3.out
            go_wp2_with fail
            (with_reducible refine (HI3.out _).mono ?_)
            rintro e w8 ⟨rfl, hx8⟩
            go_wp2_with fail
            (with_reducible refine (HAW.out _).mono ?_)
            rintro e w11 ⟨rfl, hx11⟩
            go_wp2_with fail
            go_ret
            exact ⟨rfl, X7.trans (hx8.trans hx11)⟩
          · have a2' : inR crop 0 ((cropsN l : Int) - 1) = false := by simpa using a2
            rw [a2'] at HI2
            obtain ⟨a, c, rfl, -⟩ := hvv
            clear h0 hl hm hv ht a1 a2 a2' HI3 hcn
            generalize cropsN l = cn at *
            generalize l.length = n at *
            go_enter Try.func15, Try.ntmps15
            go_wp2_with fail
            (with_reducible refine hth.mono ?_)
            rintro e w1 ⟨rfl, hw⟩
            subst hw
            clear hth
            go_wp2_with fail
            (with_reducible refine (HTA.out _ (Ext.refl _)).mono ?_)
            rintro e w2 ⟨v2, rfl, hv2, hx2⟩
            go_wp2_with fail
            (with_reducible refine (HMI.out _ _ hv2).mono ?_)
            rintro e w3 ⟨rfl, hx3⟩
            have X3 := hx2.trans hx3
            go_wp2_with fail
            (with_reducible refine (HFA.out _ X3).mono ?_)
            rintro e w4 ⟨rfl, hx4⟩
            go_wp2_with fail
            (with_reducible refine (HI1.out _).mono ?_)
            rintro e w5 ⟨rfl, hx5⟩
            have X5 := X3.trans (hx4.trans hx5)
            go_wp2_with fail
            (with_reducible refine (HCR.out _ X5).mono ?_)
            rintro e w6 ⟨rfl, hx6⟩
            go_wp2_with fail
            (with_reducible refine (HI2.out _).mono ?_)
            rintro e w7 ⟨rfl, hx7⟩
            have X7 := X5.trans (hx6.trans hx7)
            go_wp2_with fail
            (with_reducible refine (HAW.out _).mono ?_)
            rintro e w11 ⟨rfl, hx11⟩
            go_wp2_with fail
            go_ret
            exact ⟨rfl, X7.trans hx11⟩
        · have a1' : inR which 0 ((l.length : Int) - 1) = false := by simpa using a1
          rw [a1'] at HI1
          obtain ⟨a, c, rfl, -⟩ := hvv
          clear h0 hl hm hv ht a1 a1' HI3 HI2 HCR hcn
          generalize l.length = n at *
          go_enter Try.func15, Try.ntmps15
          go_wp2_with fail
          (with_reducible refine hth.mono ?_)
          rintro e w1 ⟨rfl, hw⟩
          subst hw
          clear hth
          go_wp2_with fail
          (with_reducible refine (HTA.out _ (Ext.refl _)).mono ?_)
          rintro e w2 ⟨v2, rfl, hv2, hx2⟩
          go_wp2_with fail
          (with_reducible refine (HMI.out _ _ hv2).mono ?_)
          rintro e w3 ⟨rfl, hx3⟩
          have X3 := hx2.trans hx3
          go_wp2_with fail
          (with_reducible refine (HFA.out _ X3).mono ?_)
          rintro e w4 ⟨rfl, hx4⟩
          go_wp2_with fail
          (with_reducible refine (HI1.out _).mono ?_)
          rintro e w5 ⟨rfl, hx5⟩
          have X5 := X3.trans (hx4.trans hx5)
          go_wp2_with fail
          (with_reducible refine (HAW.out _).mono ?_)
          rintro e w11 ⟨rfl, hx11⟩
          go_wp2_with fail
          go_ret
          exact ⟨rfl, X5.trans hx11⟩
    · have HMI : Hid (∀ v' W, TarsV W v' l → Calls Try.prog 51 #[v', .int .i64 which, .int .i64 crop, .int .i64 week] W fun e w' => e = .returned (.tuple #[.slice none 0 0, .int .i64 (checkS l)]) ∧ Ext W w') := fun v' W h => Mis_bad v' l which crop week W h h0
      have hn1 : (checkS l != 0) = true := by rw [bne_iff_ne]; exact h0
      have hn2 : (checkS l == 0) = false := by rw [beq_eq_false_iff_ne]; exact h0
      obtain ⟨a, c, rfl, -⟩ := hvv
      clear hv ht h0
      generalize checkS l = r at *
      generalize l.length = n at *
      go_enter Try.func15, Try.ntmps15
      go_wp2_with fail
      (with_reducible refine hth.mono ?_)
      rintro e w1 ⟨rfl, hw⟩
      subst hw
      clear hth
      go_wp2_with fail
      (with_reducible refine (HTA.out _ (Ext.refl _)).mono ?_)
      rintro e w2 ⟨v2, rfl, hv2, hx2⟩
      go_wp2_with fail
      (with_reducible refine (HMI.out _ _ hv2).mono ?_)
      rintro e w3 ⟨rfl, hx3⟩
      have X3 := hx2.trans hx3
      go_wp2_with fail
      (with_reducible refine (HFA.out _ X3).mono ?_)
      rintro e w4 ⟨rfl, hx4⟩
      go_wp2_with fail
      (with_reducible refine (HAW.out _).mono ?_)
      rintro e w11 ⟨rfl, hx11⟩
      go_wp2_with fail
      go_ret
      exact ⟨rfl, X3.trans (hx4.trans hx11)⟩
end Go.Proofs.Ytfjecbfcnngacaa
