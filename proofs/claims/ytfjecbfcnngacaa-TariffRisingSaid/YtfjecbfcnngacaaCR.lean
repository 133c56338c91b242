/- The walk of TariffRising. -/
import Derived.Test.YtfjecbfcnngacaaCQ
import Derived.Test.YtfjecbfcnngacaaBC
import Derived.Laws.Entries
set_option pp.deepTerms true
set_option pp.maxSteps 10000000
namespace Go.Hs
open Go.RowKit
theorem or_closed : ∀ S : Nat, S < 32 → ∀ e, e < 5 → bits .or .i64 (S : Int) ((2 ^ e : Nat) : Int) = ((S ||| 2 ^ e : Nat) : Int) := by decide +kernel
theorem c_or : ∀ n, n < 6 → ∀ x, x ∈ allC n → ∀ k, k < x.length → setOf (x.take k) < 32 ∧ setOf (x.take k) ||| 2 ^ (x.getD k 0) = setOf (x.take (k + 1)) := by decide +kernel
theorem nil_mis {r : List Int} {x : List Nat} (hl : r.length ≤ 5) (h : MisP r x) : (x.length = 0 → riseS r (tb 0) = true) ∧ (x.length ≠ 0 → riseS r (tb 0) = false) := by
  have hp := pow_bd hl
  have e0 : bitsL 0 = [] := by decide
  constructor
  · intro h0
    have : x = [] := List.eq_nil_of_length_eq_zero h0
    subst this
    rw [← marks_rise hl (by omega), e0]; exact h.rise
  · intro h0
    cases hr : riseS r (tb 0) with
    | false => rfl
    | true =>
      have := h.least 0 (by omega) hr
      rw [e0] at this
      cases x with
      | nil => exact absurd rfl h0
      | cons a x => simp [shorterB] at this
theorem allC_len : ∀ n, n < 6 → ∀ x, x ∈ allC n → x.length ≤ 5 := by decide +kernel
theorem tmod_nat {a : Int} {b : Nat} (ha : 0 ≤ a) (hb : 0 < b) : ∃ i : Nat, a.tmod (b : Int) = (i : Int) ∧ a % (b : Int) = (i : Int) ∧ i < b := by
  refine ⟨(a % (b : Int)).toNat, ?_, ?_, ?_⟩
  · rw [Int.tmod_eq_emod_of_nonneg ha]; have := Int.emod_nonneg a (show (b : Int) ≠ 0 by omega); omega
  · have := Int.emod_nonneg a (show (b : Int) ≠ 0 by omega); omega
  · have := Int.emod_nonneg a (show (b : Int) ≠ 0 by omega); have := Int.emod_lt_of_pos a (show (0 : Int) < b by omega); omega
end Go.Hs
namespace Go.Proofs.Ytfjecbfcnngacaa
open Go.RowKit Go.Hs
attribute [local irreducible] World.setCell World.alloc

set_option maxRecDepth 100000 in
set_option maxHeartbeats 4000000 in
theorem walk_TariffRising (v : Value) (l : List Tar) (which crop week bts : Int) (w : World) (hv : TarsW w v l) (w1 : (Lit.int .u8 which).wf = true) (w2 : (Lit.int .u8 crop).wf = true) (w3 : (Lit.int .u8 week).wf = true) (w4 : (Lit.int .u8 bts).wf = true) :
    Calls Try.prog 16 #[v, .int .u8 which, .int .u8 crop, .int .u8 week, .int .u8 bts] w fun e w' => e = .returned (.bool true) ∧ Ext w w' := by
  have hre := ready_any v l w hv
  have HAW : Hid (∀ W, Calls Try.prog 19 #[] W fun e w' => e = .returned (.bool true) ∧ Ext W w') := awake_any
  have b1 := bounds_u8 w1
  have b2 := bounds_u8 w2
  have b3 := bounds_u8 w3
  have b4 := bounds_u8 w4
  clear w1 w2 w3 w4
  cases ht : readyB l with
  | false =>
    rw [ht] at hre
    obtain ⟨a, c, rfl, -⟩ := hv
    clear ht
    go_enter Try.func16, Try.ntmps16
    go_wp2_with fail
    (with_reducible refine hre.mono ?_)
    rintro e w1 ⟨rfl, hx1⟩
    go_wp2_with fail
    (with_reducible refine (HAW.out _).mono ?_)
    rintro e w2 ⟨rfl, hx2⟩
    go_wp2_with fail
    go_ret
    exact ⟨rfl, hx1.trans hx2⟩
  | true =>
    rw [ht] at hre
    obtain ⟨hth, hl⟩ := ready_of ht
    have hvv := hv.toV hth
    have hlen := hl.three
    have hpos := hl.pos
    have hcp : 0 < cropsN l := (validB_iff.1 (hl.valid 0 hl.pos)).crops
    have hc3 : cropsN l ≤ 3 := by
      have := hl.few 0 hl.pos
      simp only [fewB, Bool.and_eq_true, decide_eq_true_eq] at this
      exact this.2
    obtain ⟨i, hi1, hi2, hi⟩ := tmod_nat (a := which) (b := l.length) (by omega) hpos
    obtain ⟨j, hj1, hj2, hjc⟩ := tmod_nat (a := crop) (b := cropsN l) (by omega) hcp
    have hvi := validB_iff.1 (hl.valid i hi)
    have hfi := hl.few i hi
    simp only [fewB, Bool.and_eq_true, decide_eq_true_eq] at hfi
    have hwp : 0 < (l.getD i default).weeks.length := by
      have := hvi.weeks.pos
      exact this
    obtain ⟨k, hk1, hk2, hkw⟩ := tmod_nat (a := week) (b := (l.getD i default).weeks.length) (by omega) hwp
    have hm : misB l i j k = true := by
      unfold misB
      simp only [Bool.and_eq_true, inR_iff, Int.toNat_natCast]
      omega
    obtain ⟨i', j', k', e1, e2, e3, -, hj, -, hk, -, hrow, hc5, -⟩ := rates_ok hl hm
    obtain rfl : i = i' := by omega
    obtain rfl : j = j' := by omega
    obtain rfl : k = k' := by omega
    clear e1 e2 e3
    have hrl : (ratesS l i j k).length ≤ 5 := by rw [hrow.len]; exact hc5
    have hr0 : ∀ x, x < (ratesS l i j k).length → 0 ≤ (ratesS l i j k).getD x 0 := fun x hx => (hrow.bound x hx).1
    obtain ⟨x, hx, hmx⟩ := mis_some hrl hr0
    have HMI : Hid (∀ v' W, TarsV W v' l → Calls Try.prog 51 #[v', .int .i64 i, .int .i64 j, .int .i64 k] W fun e w' => ∃ vx, e = .returned (.tuple #[vx, .int .i64 0]) ∧ IntsV w' vx (ints x) ∧ Ext W w') := fun v' W h => Mis_good v' l i j k x W h hl.check hm hx
    have HTA : Hid (∀ W, Ext w W → Calls Try.prog 21 #[v] W fun e w' => ∃ v', e = .returned v' ∧ TarsV w' v' l ∧ Ext W w') := fun W hx => Tariffs_any v l W (hvv.ext hx) hth
    have HCR : Hid (∀ W, Ext w W → Calls Try.prog 25 #[v] W fun e w' => e = .returned (.int .i64 (cropsN l)) ∧ Ext W w') := fun W hx => (Crops_any v l W (hvv.ext hx) hl.pos).mono fun e w' h => ⟨h.1, h.2 ▸ Ext.refl _⟩
    unfold ratesS at hmx hrl
    simp only [Int.toNat_natCast] at hmx hrl
    obtain ⟨b, off, c, b5, o5, k5, b6, o6, c6, a7, c7, e3, k3, rfl, m3, m5, q5, q6, h7⟩ := rates_at hvv hi hj hk
    have HM3 := Lib.hid m3
    have HM5 := Lib.hid m5
    have HQ5 := Lib.hid q5
    have HQ6 := Lib.hid q6
    have H7 := Lib.hid h7
    have hn6 : (((l.getD i default).rates.getD j []).getD k []).length < 6 := by omega
    have hxm := hmx.mem
    have hxl := allC_len _ hn6 x hxm
    have HRI := Lib.hid (c_rises _ hn6 x hxm)
    have HOR := Lib.hid (c_or _ hn6 x hxm)
    obtain ⟨hs1, hs2⟩ := c_set _ hn6 x hxm
    have hpb := pow_bd hrl
    obtain ⟨hz1, hz2⟩ := nil_mis hrl hmx
    have hset : riseS (((l.getD i default).rates.getD j []).getD k []) (tb (setOf x)) = true := by
      rw [← marks_rise hrl hs1, hs2]; exact hmx.rise
    have HLE := Lib.hid hmx.least
    have HSET := Lib.hid hset
    have HZ := Lib.hid (And.intro hz1 hz2)
    have HS1 := Lib.hid (show setOf x < 32 by omega)
    obtain ⟨N, hN⟩ : ∃ N, N = 2 ^ (((l.getD i default).rates.getD j []).getD k []).length := ⟨_, rfl⟩
    rw [← hN] at HLE hpb
    obtain ⟨m, hmt1, hmt2, hml⟩ := tmod_nat (a := bts) (b := N) (by omega) (by omega)
    have hNp : (2 : Int) ^ (((l.getD i default).rates.getD j []).getD k []).length = (N : Int) := by rw [hN]; simp
    have hNw : IntKind.i64.wrap (N : Int) = (N : Int) := IntWalk.i64_in _ (by omega)
    have hbw : IntKind.i64.wrap bts = bts := IntWalk.i64_in _ (by omega)
    have hmw : IntKind.i64.wrap (m : Int) = (m : Int) := IntWalk.i64_in _ (by omega)
    have hlr0 : (0 : Int) ≤ ((((l.getD i default).rates.getD j []).getD k []).length : Int) := by omega
    have hlr6 : ((((l.getD i default).rates.getD j []).getD k []).length : Int) ≤ 64 := by omega
    have hNz : ¬ (N : Int) = 0 := by omega
    have hNz2 : ¬ N = 0 := by omega
    have HRS : Hid (∀ (q : Nat) W, q < 32 → Ext w W → Calls Try.prog 38 #[.slice a7 (((l.getD i default).rates.getD j []).getD k []).length c7, .int .i64 (q : Int)] W fun e w' => e = .returned (.bool (riseS (((l.getD i default).rates.getD j []).getD k []) (tb q))) ∧ Ext W w') := Lib.hid (fun q W hq hx => RiseM_any _ _ q W (h7.ext hx) hrl hq)
    have HR0 : Hid (∀ W, Ext w W → Calls Try.prog 38 #[.slice a7 (((l.getD i default).rates.getD j []).getD k []).length c7, .int .i64 0] W fun e w' => e = .returned (.bool (riseS (((l.getD i default).rates.getD j []).getD k []) (tb 0))) ∧ Ext W w') := Lib.hid (fun W hx => RiseM_any _ _ 0 W (h7.ext hx) hrl (by omega))
    have HBI : Hid (∀ W, Calls Try.prog 55 #[.int .i64 (m : Int)] W fun e w' => ∃ v, e = .returned v ∧ IntsV w' v (ints (bitsL m)) ∧ Ext W w') := Lib.hid (fun W => Bits_any m (by omega) W)
    have HSH : Hid (∀ x1 x2 W, IntsV W x1 (ints (bitsL m)) → IntsV W x2 (ints x) → Calls Try.prog 54 #[x1, x2] W fun e w' => e = .returned (.bool (shorterB (bitsL m) x)) ∧ Ext W w') := Lib.hid (fun x1 x2 W h1 h2 => Shorter_any x1 x2 (bitsL m) x W h1 h2 (by have := bitsL_len m; omega) (by omega))
    have hww : IntKind.i64.wrap which = which := IntWalk.i64_in _ (by omega)
    have hcw : IntKind.i64.wrap crop = crop := IntWalk.i64_in _ (by omega)
    have hkw' : IntKind.i64.wrap week = week := IntWalk.i64_in _ (by omega)
    have hiw : IntKind.i64.wrap (i : Int) = (i : Int) := IntWalk.i64_in _ (by omega)
    have hjw : IntKind.i64.wrap (j : Int) = (j : Int) := IntWalk.i64_in _ (by omega)
    have hkkw : IntKind.i64.wrap (k : Int) = (k : Int) := IntWalk.i64_in _ (by omega)
    have hlz : ¬ (l.length : Int) = 0 := by omega
    have hlz2 : ¬ l.length = 0 := by omega
    have hlz3 : ((l.length : Int) == 0) = false := by rw [beq_eq_false_iff_ne]; omega
    have hcz : ¬ (cropsN l : Int) = 0 := by omega
    have hcz2 : ¬ cropsN l = 0 := by omega
    have hcz3 : ((cropsN l : Int) == 0) = false := by rw [beq_eq_false_iff_ne]; omega
    have hwz : ¬ ((l.getD i default).weeks.length : Int) = 0 := by omega
    have hwz2 : ¬ (l.getD i default).weeks.length = 0 := by omega
    have hi0 : (0 : Int) ≤ (i : Int) := by omega
    have hi1' : (i : Int) < (l.length : Int) := by omega
    have hj0 : (0 : Int) ≤ (j : Int) := by omega
    have hj1' : (j : Int) < ((l.getD i default).rates.length : Int) := by omega
    have hk0 : (0 : Int) ≤ (k : Int) := by omega
    have hk1' : (k : Int) < (((l.getD i default).rates.getD j []).length : Int) := by omega
    clear m3 m5 q5 q6 h7 hmx hx hr0 hrow hvv hv ht hl hth hvi hfi hm hxm hs1 hs2 hz1 hz2 hset hN hc5
    generalize ((l.getD i default).rates.getD j []).getD k [] = rr at *
    generalize ((l.getD i default).rates.getD j []).length = qn at *
    generalize (l.getD i default).rates.length = tn at *
    generalize (l.getD i default).weeks.length = wn at *
    generalize cropsN l = cn at *
    generalize l.length = n at *
    go_enter Try.func16, Try.ntmps16
    go_wp2_with fail
    (with_reducible refine hre.mono ?_)
    rintro e w1 ⟨rfl, hx1⟩
    clear hre
    go_upto_region 3 with fail
    refine wp_region_quiet (C := Ext w1) (by kernel_rfl) (by kernel_rfl) (Ext.drew (by (repeat (first | exact Ext.refl _ | (with_reducible assumption) | (with_reducible refine Ext.drew ?_) | (with_reducible refine Ext.alloc ?_ _) | (with_reducible refine Ext.drewN ?_ _) | (with_reducible refine Ext.setCell ?_ (by omega) _) | (with_reducible refine Ext.trans ?_ (by with_reducible assumption)))))) ?_
    rw [show ∀ (l : List Oper), l.toArray.toList = l from fun l => rfl]
    repeat (first
      | go_big_quiet_skip
      | (go_big_quiet_want
         first
          | (go_big_quiet_op; go_big_quiet_on)
          | (apply Exists.intro
             refine ⟨fun w' hxw => ?_, ?_⟩
             focus (skip; go_simp; first | exact rfl | exact (HCR.out w' (hx1.trans hxw)).mono (fun e w'' h => ⟨h.1, hxw.trans h.2⟩))
             simp only [Act.put, List.setIfInBounds_toArray, List.set_cons_zero, List.set_cons_succ]
             go_big_quiet_on)))
    refine wpQuiet_nil ?_
    intro w2 hx2
    have X2 := hx1.trans hx2
    have m3 := X2.keep HM3.out
    have m5 := X2.keep HM5.out
    have q5 := X2.keep HQ5.out
    have q6 := X2.keep HQ6.out
    clear hx1 hx2 HCR HM3 HM5 HQ5 HQ6
    go_wp2_with fail
    (with_reducible refine (HTA.out _ X2).mono ?_)
    rintro e w3 ⟨v3, rfl, hv3, hx3⟩
    go_wp2_with fail
    (with_reducible refine (HMI.out _ _ hv3).mono ?_)
    rintro e w4 ⟨vx, rfl, hvx, hx4⟩
    have X4 := X2.trans (hx3.trans hx4)
    have HVX := Lib.hid hvx
    obtain ⟨px, cx, rfl, hcx, hrx⟩ := hvx.natcells
    have HRX := Lib.hid hrx
    clear hrx hvx hv3 hx3 hx4 X2 m3 m5 q5 q6 HMI HTA hi1 hi2 hj1 hj2 hk1 hk2 hww hcw hkw' hiw hjw hkkw hlz hlz2 hlz3 hcz hcz2 hcz3 hwz hwz2 hi0 hi1' hj0 hj1' hk0 hk1'
    have HIN : Hid (∀ (e : Nat) W, e < rr.length → Calls Try.prog 24 #[.int .i64 (e : Int), .int .i64 0, .int .i64 ((rr.length : Int) - 1)] W fun e' w' => e' = .returned (.bool true) ∧ Ext W w') := Lib.hid (fun e W he => by
      have h : inR (e : Int) 0 ((rr.length : Int) - 1) = true := inR_iff.2 (by omega)
      exact (In_any _ _ _ W).mono fun e' w' g => ⟨by rw [← h]; exact g.1, g.2 ▸ Ext.refl _⟩)
    have hlw : IntKind.i64.wrap ((rr.length : Int) - 1) = (rr.length : Int) - 1 := IntWalk.i64_in _ (by omega)
    obtain ⟨xn, hxn⟩ : ∃ xn, xn = x.length := ⟨_, rfl⟩
    have HXN := Lib.hid hxn
    rw [← hxn] at HOR HRI HZ HRX hxl hcx HVX
    rw [← hxn]
    clear hxn
    go_wp2_with fail
    go_loopw [17, 18] (fun s17 s18 wr => ∃ q : Nat, q ≤ xn ∧ s18 = .int .i64 q ∧ s17 = .int .i64 (setOf (x.take q) : Nat) ∧ Ext w4 wr) (fun _ s _ => xn - (intOf s).toNat)
    case atStart => exact ⟨0, Nat.zero_le _, rfl, rfl, Ext.refl _⟩
    case round =>
      obtain ⟨q, hq, rfl, rfl, hxr⟩ := hrel
      obtain ⟨wo, rfl⟩ : ∃ x, x = wr := ⟨_, rfl⟩
      by_cases hqt : q < xn
      · obtain ⟨bx, ox, rfl, c1⟩ := HRX.out q hqt
        replace c1 := hxr.keep c1
        obtain ⟨hr1, hr2⟩ := HRI.out q hqt
        obtain ⟨ho1, ho2⟩ := HOR.out q hqt
        obtain ⟨B, hB⟩ : ∃ B, B = 2 ^ x.getD q 0 := ⟨_, rfl⟩
        have hBp : (2 : Int) ^ x.getD q 0 = (B : Int) := by rw [hB]; simp
        have hB32 : B ≤ 32 := by rw [hB]; exact (pow_bd (by omega)).2
        have hBw : IntKind.i64.wrap (B : Int) = (B : Int) := IntWalk.i64_in _ (by omega)
        have hor : bits .or .i64 (setOf (x.take q) : Nat) (B : Int) = ((setOf (x.take (q + 1)) : Nat) : Int) := by
          rw [← ho2, hB]; exact or_closed _ ho1 _ (by omega)
        have hin := HIN.out (x.getD q 0) 
        have hq0 : (0 : Int) ≤ (q : Int) := by omega
        have hq1 : (q : Int) < (xn : Int) := by omega
        have HQ : Hid (q = 0 ∨ ∃ q' y, q = q' + 1 ∧ wo.cell? ⟨bx, ox + q', none⟩ = some (.int .i64 (y : Nat)) ∧ y < x.getD q 0) := Lib.hid (by
          rcases Nat.eq_zero_or_pos q with h | h
          · exact .inl h
          · obtain ⟨bx', ox', e', c0⟩ := HRX.out (q - 1) (by omega)
            cases e'
            exact .inr ⟨q - 1, x.getD (q - 1) 0, by omega, hxr.keep c0, hr2 h⟩)
        clear hr2 ho1 ho2 hB hB32
        have hin := fun W => HIN.out (x.getD q 0) W hr1
        have HINE := Lib.hid hin
        clear hin
        obtain ⟨S2, hS2⟩ : ∃ S2, S2 = setOf (x.take (q + 1)) := ⟨_, rfl⟩
        rw [← hS2] at hor
        have HS2 := Lib.hid hS2
        clear hS2
        generalize setOf (x.take q) = S at *
        generalize x.getD q 0 = e at *
        have he0 : (0 : Int) ≤ (e : Int) := by omega
        have he6 : (e : Int) ≤ 64 := by omega
        have G1 : Hid (∀ w', Ext wo w' → w'.cell? ⟨bx, ox + q, none⟩ = some (.int .i64 (e : Nat))) := fun w' h => h.keep c1
        rcases HQ.out with hqz | ⟨q', y, hqe, c0, hy⟩
        · have hgt : decide ((0 : Int) < (q : Int)) = false := decide_eq_false (by omega)
          have hgt' : decide (0 < q) = false := decide_eq_false (by omega)
          clear HQ hqz
          go_upto_region 13 with fail
          refine wp_region_quiet (C := Ext wo) (by kernel_rfl) (by kernel_rfl) (Ext.drew (by (repeat (first | exact Ext.refl _ | (with_reducible assumption) | (with_reducible refine Ext.drew ?_) | (with_reducible refine Ext.alloc ?_ _) | (with_reducible refine Ext.drewN ?_ _) | (with_reducible refine Ext.setCell ?_ (by omega) _) | (with_reducible refine Ext.trans ?_ (by with_reducible assumption)))))) ?_
          rw [show ∀ (l : List Oper), l.toArray.toList = l from fun l => rfl]
          repeat (first
            | go_big_quiet_skip
            | (go_big_quiet_want
               first
                | (go_big_quiet_op; go_big_quiet_on)
                | (apply Exists.intro
                   refine ⟨fun w' hxw => ?_, ?_⟩
                   focus (have c1 := G1.out w' hxw; go_simp; first | exact rfl | exact (HINE.out w').mono (fun e w'' h => ⟨h.1, hxw.trans h.2⟩))
                   simp only [Act.put, List.setIfInBounds_toArray, List.set_cons_zero, List.set_cons_succ]
                   go_big_quiet_on)))
          refine wpQuiet_nil ?_
          intro w2 hx2
          have c1 := G1.out w2 hx2
          go_wp2_with fail
          go_roundw
          case rel => exact ⟨q + 1, by omega, by go_num, by rw [HS2.out], hxr.trans hx2⟩
          case measure => simp [intOf]; omega
        · have G0 : Hid (∀ w', Ext wo w' → w'.cell? ⟨bx, ox + q', none⟩ = some (.int .i64 (y : Nat))) := fun w' h => h.keep c0
          have hqw1 : IntKind.i64.wrap ((q : Int) - 1) = (q' : Int) := by rw [IntWalk.i64_in _ (by omega)]; omega
          have hq3 : (0 : Int) ≤ (q' : Int) := by omega
          have hq4 : (q' : Int) < (xn : Int) := by omega
          have hle : decide ((e : Int) ≤ (y : Int)) = false := decide_eq_false (by omega)
          have hgt : decide ((0 : Int) < (q : Int)) = true := decide_eq_true (by omega)
          have hgt3 : (0 : Int) < (q : Int) := by omega
          have hgt' : decide (0 < q) = true := decide_eq_true (by omega)
          have hle' : decide (e ≤ y) = false := decide_eq_false (by omega)
          clear HQ hqe
          go_upto_region 13 with fail
          refine wp_region_quiet (C := Ext wo) (by kernel_rfl) (by kernel_rfl) (Ext.drew (by (repeat (first | exact Ext.refl _ | (with_reducible assumption) | (with_reducible refine Ext.drew ?_) | (with_reducible refine Ext.alloc ?_ _) | (with_reducible refine Ext.drewN ?_ _) | (with_reducible refine Ext.setCell ?_ (by omega) _) | (with_reducible refine Ext.trans ?_ (by with_reducible assumption)))))) ?_
          rw [show ∀ (l : List Oper), l.toArray.toList = l from fun l => rfl]
          repeat (first
            | go_big_quiet_skip
            | (go_big_quiet_want
               first
                | (go_big_quiet_op; go_big_quiet_on)
                | (apply Exists.intro
                   refine ⟨fun w' hxw => ?_, ?_⟩
                   focus (have c1 := G1.out w' hxw; have c0 := G0.out w' hxw; go_simp; first | exact rfl | exact (HINE.out w').mono (fun e w'' h => ⟨h.1, hxw.trans h.2⟩))
                   simp only [Act.put, List.setIfInBounds_toArray, List.set_cons_zero, List.set_cons_succ]
                   go_big_quiet_on)))
          refine wpQuiet_nil ?_
          intro w2 hx2
          have c1 := G1.out w2 hx2
          go_wp2_with fail
          go_roundw
          case rel => exact ⟨q + 1, by omega, by go_num, by rw [HS2.out], hxr.trans hx2⟩
          case measure => simp [intOf]; omega
      · have eq : q = xn := by omega
        subst eq
        have X5 : Ext w wo := X4.trans hxr
        have hst : x.take q = x := by rw [HXN.out]; exact List.take_length
        rw [hst]
        have hri1 := HRS.out (setOf x) wo HS1.out X5
        rw [HSET.out] at hri1
        have HV5 := Lib.hid (HVX.out.ext hxr)
        clear HOR HRI HIN HRX HSET HS1 hst hlw
        generalize setOf x = S at *
        go_wp2_with fail
        (refine hri1.mono ?_)
        rintro e w6 ⟨rfl, hx6⟩
        have X6 := X5.trans hx6
        have HV6 := Lib.hid (HV5.out.ext hx6)
        clear hri1 HV5 hx6
        have hri2 := HRS.out m w6 (by omega) X6
        have HM := Lib.hid (HLE.out m hml)
        generalize riseS rr (tb m) = r1 at *
        generalize riseS rr (tb 0) = r0 at *
        generalize shorterB (bitsL m) x = sh at *
        have HZ0 : Hid (((q : Int) == 0) = r0) := Lib.hid (by
          by_cases hq0 : q = 0
          · rw [HZ.out.1 hq0]; simp [hq0]
          · rw [HZ.out.2 hq0]; rw [beq_eq_false_iff_ne]; omega)
        have hz0 := HZ0.out
        clear HLE HZ HRS
        go_wp2_with fail
        (refine hri2.mono ?_)
        rintro e w7 ⟨rfl, hx7⟩
        have X7 := X6.trans hx7
        have HV7 := Lib.hid (HV6.out.ext hx7)
        clear hri2 HV6 hx7
        cases r1 with
        | true =>
          have hsh := HM.out rfl
          subst hsh
          go_wp2_with fail
          (refine (HBI.out _).mono ?_)
          rintro e w8 ⟨v8, rfl, hv8, hx8⟩
          go_wp2_with fail
          (refine (HSH.out _ _ _ hv8 (HV7.out.ext hx8)).mono ?_)
          rintro e w9 ⟨rfl, hx9⟩
          have X9 := X7.trans (hx8.trans hx9)
          clear hv8 hx8 hx9
          go_wp2_with fail
          (refine (HR0.out _ X9).mono ?_)
          rintro e w10 ⟨rfl, hx10⟩
          go_wp2_with fail
          (with_reducible refine (HAW.out _).mono ?_)
          rintro e w11 ⟨rfl, hx11⟩
          go_wp2_with fail
          go_ret
          exact ⟨rfl, X9.trans (hx10.trans hx11)⟩
        | false =>
          go_wp2_with fail
          (refine (HR0.out _ X7).mono ?_)
          rintro e w10 ⟨rfl, hx10⟩
          go_wp2_with fail
          (with_reducible refine (HAW.out _).mono ?_)
          rintro e w11 ⟨rfl, hx11⟩
          go_wp2_with fail
          go_ret
          exact ⟨rfl, X7.trans (hx10.trans hx11)⟩
end Go.Proofs.Ytfjecbfcnngacaa
