/- The walk of TariffMore. -/
import Derived.Test.YtfjecbfcnngacaaBD
import Derived.Test.YtfjecbfcnngacaaBQ
namespace Go.Hs
open Go.RowKit
def riseD (r : List Int) : Bool := allB r.length (fun b => allB b (fun a => decide (r.getD a 0 ≤ r.getD b 0)))
theorem riseD_iff {r : List Int} : riseD r = true ↔ riseP r := by
  unfold riseD riseP
  simp only [allB_iff, decide_eq_true_eq]
  exact ⟨fun h a b hab hb => h b hb a hab, fun h b hb a hab => h a b hab hb⟩
theorem RiseB.eq {r : List Int} {b : Bool} (h : RiseB r b) : b = riseD r := by
  rw [Bool.eq_iff_iff]
  exact h.trans riseD_iff.symm
end Go.Hs
namespace Go.Proofs.Ytfjecbfcnngacaa
open Go.RowKit Go.Hs
attribute [local irreducible] World.setCell World.alloc

theorem RiseD_any (v : Value) (r : List Int) (w : World) (hv : IntsV w v r) (hl : r.length ≤ 1000) :
    Calls Try.prog 38 #[v, .int .i64 0] w fun e w' => e = .returned (.bool (riseD r)) ∧ Ext w w' :=
  (Rise_any v r w hv hl).mono fun _ _ ⟨⟨_, he, hb⟩, hx⟩ => ⟨by rw [he, hb.eq], hx⟩
theorem LeastOK_any (v : Value) (l : List Tar) (c d : Int) (w : World) (hv : TarsV w v l) (hl : ValidL l) (h0 : 0 ≤ c) (h1 : c < cropsN l) (hd0 : 0 ≤ d) (hd1 : d ≤ 120) :
    Calls Try.prog 40 #[v, .int .i64 c, .int .i64 d] w fun e w' => e = .returned (leastV (leastS l c d)) ∧ Ext w w' := by
  have e : leastR l c d = leastV (leastS l c d) := by
    have ha : (inR c 0 ((cropsN l : Int) - 1) && inR d 0 120) = true := by
      simp only [Bool.and_eq_true, inR_iff]
      exact ⟨⟨h0, by omega⟩, hd0, hd1⟩
    unfold leastR
    rw [if_pos hl.check, if_pos ha]
  rw [← e]
  exact Least_any v l c d w hv
theorem run_min_i64' {x y z : Int} (h : z = if y < x then y else x) (ats : Array TypeId) (ty : TypeId) (w : World) : (Builtin.min_ ats ty #[.int .i64 x, .int .i64 y]).run Try.prog w = .ok (.int .i64 z) w := by
  rw [h]; rfl
/-- How the least count bounds the counts that are paid. -/
theorem least_cases {l : List Tar} {c d n : Int} (hl : ValidL l) (hc0 : 0 ≤ c) (hc : c < cropsN l) (hd : 0 ≤ d) (h0 : 0 ≤ n) (h1 : n ≤ 100) (hr : riseP (rowS l c d)) :
    (∃ k : Nat, leastS l c d = some k ∧ (k : Int) ≤ n ∧ 0 < partS l c d n) ∨ (∃ k : Nat, leastS l c d = some k ∧ n < (k : Int) ∧ partS l c d n ≤ 0) ∨ (leastS l c d = none ∧ partS l c d n ≤ 0) := by
  cases hk : leastS l c d with
  | none =>
    refine .inr (.inr ⟨rfl, ?_⟩)
    unfold leastS at hk
    rw [List.find?_eq_none] at hk
    have := hk n.toNat (by simp; omega)
    simp only [decide_eq_true_eq] at this
    have e : ((n.toNat : Nat) : Int) = n := by omega
    rw [e] at this; omega
  | some k =>
    unfold leastS at hk
    rw [List.find?_range_eq_some] at hk
    obtain ⟨g1, g2, g3⟩ := hk
    simp only [decide_eq_true_eq] at g1
    simp at g2
    by_cases hkn : (k : Int) ≤ n
    · refine .inl ⟨k, rfl, hkn, ?_⟩
      have := part_mono hl hc0 hc hd (show 0 ≤ (k : Int) by omega) hkn h1 hr
      omega
    · refine .inr (.inl ⟨k, rfl, by omega, ?_⟩)
      have := g3 n.toNat (by omega)
      have e : ((n.toNat : Nat) : Int) = n := by omega
      simp only [Bool.not_eq_true', decide_eq_false_iff_not, e] at this
      omega

set_option maxRecDepth 100000 in
set_option maxHeartbeats 4000000 in
theorem walk_TariffMore (v : Value) (l : List Tar) (crop day count more : Int) (w : World) (hv : TarsW w v l) (w1 : (Lit.int .u8 crop).wf = true) (w2 : (Lit.int .u8 day).wf = true) (w3 : (Lit.int .u8 count).wf = true) (w4 : (Lit.int .u8 more).wf = true) :
    Calls Try.prog 6 #[v, .int .u8 crop, .int .u8 day, .int .u8 count, .int .u8 more] w fun e w' => e = .returned (.bool true) ∧ Ext w w' := by
  have hre := ready_any v l w hv
  have HAW : Hid (∀ W, Calls Try.prog 19 #[] W fun e w' => e = .returned (.bool true) ∧ Ext W w') := awake_any
  obtain ⟨b1, b2⟩ := u8_bounds w1
  obtain ⟨b3, b4⟩ := u8_bounds w2
  obtain ⟨b5, b6⟩ := u8_bounds w3
  obtain ⟨b7, b8⟩ := u8_bounds w4
  clear w1 w2 w3 w4
  cases ht : readyB l with
  | false =>
    rw [ht] at hre
    obtain ⟨a, c, rfl, -⟩ := hv
    clear ht
    go_enter Try.func6, Try.ntmps6
    go_wp2_with fail
    (with_reducible refine hre.mono ?_)
    rintro e w1 ⟨rfl, hx1⟩
    go_wp2_with fail
    (with_reducible refine (HAW.out _).mono ?_)
    rintro e w2 ⟨rfl, hx2⟩
    go_wp2_with fail
    go_ret
    exact ⟨rfl, hx1.trans hx2⟩
  | true =>
    rw [ht] at hre
    obtain ⟨hth, hl⟩ := ready_of ht
    have hvv := hv.toV hth
    have hlen := hl.three
    have hcp : 0 < cropsN l := (validB_iff.1 (hl.valid 0 hl.pos)).crops
    have hc3 : cropsN l ≤ 3 := by
      have := hl.few 0 hl.pos
      simp only [fewB, Bool.and_eq_true, decide_eq_true_eq] at this
      exact this.2
    obtain ⟨c0, hc0, hc1, hc2⟩ : ∃ c0, crop.tmod (cropsN l : Int) = c0 ∧ 0 ≤ c0 ∧ c0 < (cropsN l : Int) := ⟨_, rfl, tmod_bd b1 (by omega)⟩
    obtain ⟨d0, hd0, hd1, hd2⟩ : ∃ d0, day.tmod 121 = d0 ∧ 0 ≤ d0 ∧ d0 < 121 := ⟨_, rfl, tmod_bd b3 (by omega)⟩
    obtain ⟨n0, hn0, hn1, hn2⟩ : ∃ n0, count.tmod 101 = n0 ∧ 0 ≤ n0 ∧ n0 < 101 := ⟨_, rfl, tmod_bd b5 (by omega)⟩
    have hc0' : crop % (cropsN l : Int) = c0 := by rw [← hc0, Int.tmod_eq_emod_of_nonneg b1]
    have hd0' : day % 121 = d0 := by rw [← hd0, Int.tmod_eq_emod_of_nonneg b3]
    have hn0' : count % 101 = n0 := by rw [← hn0, Int.tmod_eq_emod_of_nonneg b5]
    obtain ⟨m0, hm0, hm1, hm2⟩ : ∃ m0, m0 = (if n0 + more < 100 then n0 + more else 100) ∧ n0 ≤ m0 ∧ m0 ≤ 100 := ⟨_, rfl, by split <;> omega, by split <;> omega⟩
    have HCR : Hid (∀ W, Ext w W → Calls Try.prog 25 #[v] W fun e w' => e = .returned (.int .i64 (cropsN l)) ∧ Ext W w') := fun W hx => (Crops_any v l W (hvv.ext hx) hl.pos).mono fun e w' h => ⟨h.1, h.2 ▸ Ext.refl _⟩
    have HOF : Hid (∀ W, Ext w W → Calls Try.prog 37 #[v, .int .i64 d0] W fun e w' => ∃ u : V6, e = .returned u.val ∧ TarU W u (atS l d0) ∧ Ext W w') := fun W hx => Of_any v l d0 W (hvv.ext hx) hl hd1
    have HTA : Hid (∀ W, Ext w W → Calls Try.prog 21 #[v] W fun e w' => ∃ v', e = .returned v' ∧ TarsV w' v' l ∧ Ext W w') := fun W hx => Tariffs_any v l W (hvv.ext hx) hth
    have HPA : Hid (∀ v' n' W, TarsV W v' l → 0 ≤ n' → n' ≤ 100 → Calls Try.prog 20 #[v', .int .i64 c0, .int .i64 d0, .int .i64 n'] W fun e w' => e = .returned (.tuple #[.int .i64 (partS l c0 d0 n'), .int .i64 0]) ∧ Ext W w') := fun v' n' W h g0 g1 => PartOK_any v' l c0 d0 n' W h hl hc1 hc2 hd1 (by omega) g0 g1
    have HLE : Hid (∀ v' W, TarsV W v' l → Calls Try.prog 40 #[v', .int .i64 c0, .int .i64 d0] W fun e w' => e = .returned (leastV (leastS l c0 d0)) ∧ Ext W w') := fun v' W h => LeastOK_any v' l c0 d0 W h hl hc1 hc2 hd1 (by omega)
    have HMO : Hid (riseP (rowS l c0 d0) → partS l c0 d0 n0 ≤ partS l c0 d0 m0) := fun h => part_mono hl hc1 hc2 hd1 hn1 hm1 hm2 h
    have HLC := Lib.hid (least_cases hl hc1 hc2 hd1 hn1 (by omega : n0 ≤ 100))
    obtain ⟨hva, hcr⟩ := hl.at hd1
    have hrows := hva.rows c0.toNat (by omega)
    have hwk := hva.week_lt d0
    have hwu := hva.weeks.up hd1
    have hro := hrows.2 _ hwk
    have HRO : Hid (rowS l c0 d0 = ((atS l d0).rates.getD c0.toNat []).getD (weekTo (atS l d0).weeks d0 (atS l d0).weeks.length) []) := rfl
    have hrl : (((atS l d0).rates.getD c0.toNat []).getD (weekTo (atS l d0).weeks d0 (atS l d0).weeks.length) []).length ≤ 1000 := by
      have h5 : (atS l d0).counts.length ≤ 5 := by
        obtain ⟨i, hi, he⟩ := atS_mem hl.pos (by rw [hl.first]; exact hd1)
        rw [he]
        have := hl.few i hi
        simp only [fewB, Bool.and_eq_true, decide_eq_true_eq] at this
        exact this.1.2
      rw [hro.len]; omega
    have hcz : c0.toNat < (atS l d0).rates.length := by omega
    have hwz : weekTo (atS l d0).weeks d0 (atS l d0).weeks.length < ((atS l d0).rates.getD c0.toNat []).length := by rw [hrows.1]; exact hwk
    obtain ⟨a, k, rfl, -⟩ := hvv
    have hz1 : ¬ (cropsN l : Int) = 0 := by omega
    have hz2 : ¬ cropsN l = 0 := by omega
    clear hl hth hv ht hva hcr hrows hwk hro
    generalize cropsN l = cn at *
    go_enter Try.func6, Try.ntmps6
    go_wp2_with fail
    (with_reducible refine hre.mono ?_)
    rintro e w1 ⟨rfl, hx1⟩
    clear hre
    go_wp2_with fail
    (with_reducible refine (HCR.out _ hx1).mono ?_)
    rintro e w2 ⟨rfl, hx2⟩
    have X2 := hx1.trans hx2
    clear hx1 hx2
    go_wp2_with fail
    clear hc0 hd0 hn0 hc0' hd0' hn0' hz1 hz2
    (with_reducible refine (HOF.out _ X2).mono ?_)
    rintro e w3 ⟨u, rfl, hu, hx3⟩
    obtain ⟨a3, k3, a4, k4, a5, k5, rfl⟩ := hu.slices
    obtain ⟨-, -, -, hC⟩ := hu
    simp only at hC
    dsimp only [V6.val]
    obtain ⟨cc, rfl⟩ := Int.eq_ofNat_of_zero_le hc1
    simp only [Int.toNat_natCast] at hcz hwz hrl HRO
    have hr5 := hC.rates.len_le.2
    obtain ⟨b5, o5, a6, c6, rfl, hc5, hv6⟩ := hC.rates.get cc hcz
    obtain ⟨b6, o6, a7, c7, rfl, hc6, hv7⟩ := hv6.get _ hwz
    have hr6 := hv6.len_le.2
    have HWV := Lib.hid hC.weeks
    have HRV := Lib.hid hv7
    have HUP := Lib.hid hwu
    have HLR := Lib.hid hrl
    clear hC hv6 hv7 hwu hrl
    generalize hT : atS l d0 = t at *
    clear hT
    have HLA : Hid (∀ W, Ext w2 W → Calls Try.prog 39 #[.slice a3 t.weeks.length k3, .int .i64 d0] W fun e w' => e = .returned (.int .i64 (weekTo t.weeks d0 t.weeks.length : Nat)) ∧ Ext W w') := fun W hx => (LastUp_any _ _ d0 W (HWV.out.ext hx) HUP.out).mono fun e w' h => ⟨h.1, h.2 ▸ Ext.refl _⟩
    generalize weekTo t.weeks d0 t.weeks.length = wk at *
    have HRI : Hid (∀ W, Ext w2 W → Calls Try.prog 38 #[.slice a7 ((t.rates.getD cc []).getD wk []).length c7, .int .i64 0] W fun e w' => e = .returned (.bool (riseD ((t.rates.getD cc []).getD wk []))) ∧ Ext W w') := fun W hx => RiseD_any _ _ W (HRV.out.ext hx) HLR.out
    rw [← HRO.out] at HRI hc6
    clear HRO HLR HRV HWV HUP
    generalize (t.rates.getD cc []).length = nr at *
    generalize hrow : rowS l (cc : Int) d0 = row at *
    clear hrow
    go_wp2_with fail
    generalize hW : w3.alloc (.cells #[.int .i64 t.start, .bool t.whole, .int .i64 t.least, .slice a3 t.weeks.length k3, .slice a4 t.counts.length k4, .slice (some ⟨b5, o5, none⟩) t.rates.length k5] 62) = W at *
    have XW : Ext w2 W := by rw [← hW]; (repeat (first | exact Ext.refl _ | (with_reducible assumption) | (with_reducible refine Ext.drew ?_) | (with_reducible refine Ext.alloc ?_ _) | (with_reducible refine Ext.drewN ?_ _) | (with_reducible refine Ext.setCell ?_ (by omega) _) | (with_reducible refine Ext.trans ?_ (by with_reducible assumption))))
    have t3 : W.cell? ⟨w3.heap.size, 3, none⟩ = some (.slice a3 t.weeks.length k3) := by rw [← hW]; simp
    have t5 : W.cell? ⟨w3.heap.size, 5, none⟩ = some (.slice (some ⟨b5, o5, none⟩) t.rates.length k5) := by rw [← hW]; simp
    have m5 := XW.keep hc5
    have m6 := XW.keep hc6
    clear hW hc5 hc6
    have g3 : ∀ w', Ext W w' → w'.cell? ⟨w3.heap.size, 3, none⟩ = some (.slice a3 t.weeks.length k3) := fun w' h => h.keep t3
    have g5 : ∀ w', Ext W w' → w'.cell? ⟨w3.heap.size, 5, none⟩ = some (.slice (some ⟨b5, o5, none⟩) t.rates.length k5) := fun w' h => h.keep t5
    have g6 : ∀ w', Ext W w' → w'.cell? ⟨b5, o5 + cc, none⟩ = some (.slice (some ⟨b6, o6, none⟩) nr c6) := fun w' h => h.keep m5
    have g7 : ∀ w', Ext W w' → w'.cell? ⟨b6, o6 + wk, none⟩ = some (.slice a7 row.length c7) := fun w' h => h.keep m6
    clear t3 t5 m5 m6 hx3
    cases hrb : riseD row with
    | false =>
      rw [hrb] at HRI
      clear hrb HMO HLC
      refine wp_region_quiet (C := Ext W) (by kernel_rfl) (by kernel_rfl) (Ext.drew (by (repeat (first | exact Ext.refl _ | (with_reducible assumption) | (with_reducible refine Ext.drew ?_) | (with_reducible refine Ext.alloc ?_ _) | (with_reducible refine Ext.drewN ?_ _) | (with_reducible refine Ext.setCell ?_ (by omega) _) | (with_reducible refine Ext.trans ?_ (by with_reducible assumption)))))) ?_
      rw [show ∀ (l : List Oper), l.toArray.toList = l from fun l => rfl]
      repeat (first
        | go_big_quiet_skip
        | (go_big_quiet_want
           first
            | (go_big_quiet_op; go_big_quiet_on)
            | (apply Exists.intro
               refine ⟨fun w' hxw => ?_, ?_⟩
               focus (have q3 := g3 w' hxw; have q5 := g5 w' hxw; have q6 := g6 w' hxw; have q7 := g7 w' hxw; go_simp; first | exact rfl | (first | (go_at_call 39; exact (HLA.out w' (XW.trans hxw)).mono (fun e w'' h => ⟨h.1, hxw.trans h.2⟩)) | (go_at_call 38; exact (HRI.out w' (XW.trans hxw)).mono (fun e w'' h => ⟨h.1, hxw.trans h.2⟩))))
               simp only [Act.put, List.setIfInBounds_toArray, List.set_cons_zero, List.set_cons_succ]
               go_big_quiet_on)))
      refine wpQuiet_nil ?_
      intro w2 hx2
      go_wp2_with fail

      (with_reducible refine (HAW.out _).mono ?_)
      rintro e w5 ⟨rfl, hx5⟩
      go_wp2_with fail
      go_ret
      exact ⟨rfl, X2.trans (XW.trans (hx2.trans hx5))⟩
    | true =>
      have hrp := riseD_iff.1 hrb
      rw [hrb] at HRI
      have hmo := HMO.out hrp
      have hlc := HLC.out hrp
      have hbb : decide (partS l (cc : Int) d0 m0 < partS l (cc : Int) d0 n0) = false := decide_eq_false (by omega)
      have hk1 : IntKind.i64.wrap more = more := IntWalk.i64_in _ (by omega)
      have hk2 : IntKind.i64.wrap (n0 + more) = n0 + more := IntWalk.i64_in _ (by omega)
      have hmin : ∀ (w : World), (Builtin.min_ #[3, 3] 3 #[.int .i64 100, .int .i64 (n0 + more)]).run Try.prog w = .ok (.int .i64 m0) w := run_min_i64' hm0 _ _
      clear hrb HMO HLC hrp hm0 hmo
      refine wp_region_quiet (C := Ext W) (by kernel_rfl) (by kernel_rfl) (Ext.drew (by (repeat (first | exact Ext.refl _ | (with_reducible assumption) | (with_reducible refine Ext.drew ?_) | (with_reducible refine Ext.alloc ?_ _) | (with_reducible refine Ext.drewN ?_ _) | (with_reducible refine Ext.setCell ?_ (by omega) _) | (with_reducible refine Ext.trans ?_ (by with_reducible assumption)))))) ?_
      rw [show ∀ (l : List Oper), l.toArray.toList = l from fun l => rfl]
      repeat (first
        | go_big_quiet_skip
        | (go_big_quiet_want
           first
            | (go_big_quiet_op; go_big_quiet_on)
            | (apply Exists.intro
               refine ⟨fun w' hxw => ?_, ?_⟩
               focus (have q3 := g3 w' hxw; have q5 := g5 w' hxw; have q6 := g6 w' hxw; have q7 := g7 w' hxw; go_simp; first | exact rfl | (first | (go_at_call 39; exact (HLA.out w' (XW.trans hxw)).mono (fun e w'' h => ⟨h.1, hxw.trans h.2⟩)) | (go_at_call 38; exact (HRI.out w' (XW.trans hxw)).mono (fun e w'' h => ⟨h.1, hxw.trans h.2⟩))))
               simp only [Act.put, List.setIfInBounds_toArray, List.set_cons_zero, List.set_cons_succ]
               go_big_quiet_on)))
      refine wpQuiet_nil ?_
      intro w2 hx2
      clear g3 g5 g6 g7 HLA HRI
      go_wp2_with fail
      (with_reducible refine (HTA.out _ (X2.trans (XW.trans hx2))).mono ?_)
      rintro e y1 ⟨z1, rfl, hz1, hy1⟩
      go_wp2_with fail
      (with_reducible refine (HPA.out _ _ _ hz1 hn1 (by omega)).mono ?_)
      rintro e y2 ⟨rfl, hy2⟩
      have Y2 := (X2.trans (XW.trans hx2)).trans (hy1.trans hy2)
      clear hz1 hy1 hy2 hmin
      go_wp2_with fail
      (with_reducible refine (HTA.out _ Y2).mono ?_)
      rintro e y3 ⟨z3, rfl, hz3, hy3⟩
      go_wp2_with fail
      (with_reducible refine (HPA.out _ _ _ hz3 (by omega) hm2).mono ?_)
      rintro e y4 ⟨rfl, hy4⟩
      have Y4 := Y2.trans (hy3.trans hy4)
      clear hz3 hy3 hy4 Y2
      go_wp2_with fail
      (with_reducible refine (HTA.out _ Y4).mono ?_)
      rintro e y5 ⟨z5, rfl, hz5, hy5⟩
      have hle := HLE.out _ _ hz5
      clear HLE HTA HPA
      generalize partS l (cc : Int) d0 n0 = A at *
      generalize partS l (cc : Int) d0 m0 = B at *
      rcases hlc with ⟨k, hk, g1, g2⟩ | ⟨k, hk, g1, g2⟩ | ⟨hk, g2⟩
      · rw [hk] at hle
        simp only [leastV] at hle
        clear hk
        go_wp2_with fail
        (with_reducible refine hle.mono ?_)
        rintro e y6 ⟨rfl, hy6⟩
        go_wp2_with fail
        (with_reducible refine (HAW.out _).mono ?_)
        rintro e y7 ⟨rfl, hy7⟩
        go_wp2_with fail
        go_ret
        exact ⟨rfl, Y4.trans (hy5.trans (hy6.trans hy7))⟩
      · rw [hk] at hle
        simp only [leastV] at hle
        have d1 : decide ((k : Int) ≤ n0) = false := decide_eq_false (by omega)
        have d2 : decide (0 < A) = false := decide_eq_false (by omega)
        clear hk
        go_wp2_with fail
        (with_reducible refine hle.mono ?_)
        rintro e y6 ⟨rfl, hy6⟩
        go_wp2_with fail
        (with_reducible refine (HAW.out _).mono ?_)
        rintro e y7 ⟨rfl, hy7⟩
        go_wp2_with fail
        go_ret
        exact ⟨rfl, Y4.trans (hy5.trans (hy6.trans hy7))⟩
      · rw [hk] at hle
        simp only [leastV] at hle
        have d2 : decide (0 < A) = false := decide_eq_false (by omega)
        clear hk
        go_wp2_with fail
        (with_reducible refine hle.mono ?_)
        rintro e y6 ⟨rfl, hy6⟩
        go_wp2_with fail
        (with_reducible refine (HAW.out _).mono ?_)
        rintro e y7 ⟨rfl, hy7⟩
        go_wp2_with fail
        go_ret
        exact ⟨rfl, Y4.trans (hy5.trans (hy6.trans hy7))⟩
end Go.Proofs.Ytfjecbfcnngacaa
