/- The walk of TariffLater. -/
import Derived.Test.YtfjecbfcnngacaaBC
import Derived.Test.YtfjecbfcnngacaaAG
namespace Go.Hs
open Go.RowKit
theorem init_get {l : List Tar} {k i : Nat} (h : i < k) : (l.take k).getD i default = l.getD i default := by
  simp [List.getD_eq_getElem?_getD, h]
theorem ValidL.init {l : List Tar} (h : ValidL l) (h2 : 2 ≤ l.length) : ValidL (l.take (l.length - 1)) := by
  have hl : (l.take (l.length - 1)).length = l.length - 1 := by simp
  refine ⟨by omega, by have := h.three; omega, ?_, fun i hi => ?_, fun i hi => ?_, fun i hi => ?_⟩
  · rw [init_get (by omega)]; exact h.first
  · rw [init_get (by omega)]; exact h.few i (by omega)
  · rw [init_get (by omega)]; exact h.valid i (by omega)
  · have := h.link i (by omega)
    unfold linkB at this ⊢
    rw [init_get (by omega), init_get (by omega), init_get (by omega)]; exact this
theorem init_crops {l : List Tar} (h2 : 2 ≤ l.length) : cropsN (l.take (l.length - 1)) = cropsN l := by
  unfold cropsN
  rw [init_get (by omega)]
theorem init_at {l : List Tar} (h2 : 2 ≤ l.length) {d : Int} (hd : d < (l.getD (l.length - 1) default).start) : atS (l.take (l.length - 1)) d = atS l d := by
  have h := atS_take (l := l) (k := l.length - 1) (by omega) d
  rw [show l.length - 1 + 1 = l.length by omega, List.take_length] at h
  rw [h, if_neg]
  have e : l[l.length - 1]'(by omega) = l.getD (l.length - 1) default := by simp [show l.length - 1 < l.length by omega]
  rw [e]; omega
theorem init_part {l : List Tar} (h2 : 2 ≤ l.length) {c d n : Int} (hd : d < (l.getD (l.length - 1) default).start) : partS (l.take (l.length - 1)) c d n = partS l c d n := by
  unfold partS lossS rowS
  rw [init_at h2 hd]
theorem init_thin {l : List Tar} (h : thinB l = true) : thinB (l.take (l.length - 1)) = true := by
  simp only [thinB, Bool.and_eq_true, decide_eq_true_eq, allB_iff] at h ⊢
  have hl : (l.take (l.length - 1)).length = l.length - 1 := by simp
  refine ⟨by omega, fun i hi => ?_⟩
  rw [init_get (by omega)]; exact h.2 i (by omega)
theorem TarsV.init {w : World} {a : Option Addr} {n c : Nat} {l : List Tar} (h : TarsV w (.slice a n c) l) : TarsV w (.slice a (l.length - 1) c) (l.take (l.length - 1)) := by
  have hr := SliceV.rows h
  have hl := SliceV.len_le h
  refine ⟨a, c, by simp, by simp; omega, by simp; omega, fun i hi => ?_⟩
  simp at hi
  obtain ⟨b, o, he, ht⟩ := hr i (by omega)
  exact ⟨b, o, he, by simpa using ht⟩
theorem ValidL.start_pos {l : List Tar} (h : ValidL l) {i : Nat} (hi : i < l.length) (h0 : 0 < i) : 0 < (l.getD i default).start := by
  have up := h.up (d := 0) (Int.le_refl _)
  have := up.strict 0 i h0 (by simpa using hi)
  rw [starts_get l 0 h.pos, starts_get l i hi, h.first] at this; exact this
theorem u8_bounds {n : Int} (h : (Lit.int .u8 n).wf = true) : 0 ≤ n ∧ n ≤ 255 := by
  have := bounds_u8 h; omega
theorem tmod_bd {a b : Int} (ha : 0 ≤ a) (hb : 0 < b) : 0 ≤ a.tmod b ∧ a.tmod b < b := by
  rw [Int.tmod_eq_emod_of_nonneg ha]
  exact ⟨Int.emod_nonneg _ (by omega), Int.emod_lt_of_pos _ hb⟩
end Go.Hs
namespace Go.Proofs.Ytfjecbfcnngacaa
open Go.RowKit Go.Hs
attribute [local irreducible] World.setCell World.alloc

set_option maxRecDepth 100000 in
set_option maxHeartbeats 2000000 in
theorem walk_TariffLater (v : Value) (l : List Tar) (crop day count : Int) (w : World) (hv : TarsW w v l) (w1 : (Lit.int .u8 crop).wf = true) (w2 : (Lit.int .u8 day).wf = true) (w3 : (Lit.int .u8 count).wf = true) :
    Calls Try.prog 5 #[v, .int .u8 crop, .int .u8 day, .int .u8 count] w fun e w' => e = .returned (.bool true) ∧ Ext w w' := by
  have hre := ready_any v l w hv
  have HAW : Hid (∀ W, Calls Try.prog 19 #[] W fun e w' => e = .returned (.bool true) ∧ Ext W w') := awake_any
  obtain ⟨b1, b2⟩ := u8_bounds w1
  obtain ⟨b3, b4⟩ := u8_bounds w2
  obtain ⟨b5, b6⟩ := u8_bounds w3
  clear w1 w2 w3
  cases ht : readyB l with
  | false =>
    rw [ht] at hre
    obtain ⟨a, c, rfl, -⟩ := hv
    clear ht
    go_enter Try.func5, Try.ntmps5
    go_wp2_with fail
    (with_reducible refine hre.mono ?_)
    rintro e w1 ⟨rfl, hx1⟩
    go_wp2_with fail
    (with_reducible refine (HAW.out _).mono ?_)
    rintro e w2 ⟨rfl, hx2⟩
    go_wp2_with fail
    go_ret
    exact ⟨rfl, hx1.trans hx2⟩
  | true =>
    rw [ht] at hre
    obtain ⟨hth, hl⟩ := ready_of ht
    have hvv := hv.toV hth
    have HV := Lib.hid hvv
    by_cases h2 : 2 ≤ l.length
    · have hlen := hl.three
      have hcp : 0 < cropsN l := by
        have := (validB_iff.1 (hl.valid 0 hl.pos)).crops
        exact this
      have hc3 : cropsN l ≤ 3 := by
        have := hl.few 0 hl.pos
        simp only [fewB, Bool.and_eq_true, decide_eq_true_eq] at this
        exact this.2
      have hsp := hl.start_pos (i := l.length - 1) (by omega) (by omega)
      have hsb := (validB_iff.1 (hl.valid (l.length - 1) (by omega))).start.2
      have HTA : Hid (∀ W, Ext w W → Calls Try.prog 21 #[v] W fun e w' => ∃ v', e = .returned v' ∧ TarsV w' v' l ∧ Ext W w') := fun W hx => Tariffs_any v l W (hvv.ext hx) hth
      have HPA : Hid (∀ v' c d n W, TarsV W v' l → 0 ≤ c → c < (cropsN l : Int) → 0 ≤ d → d ≤ 120 → 0 ≤ n → n ≤ 100 → Calls Try.prog 20 #[v', .int .i64 c, .int .i64 d, .int .i64 n] W fun e w' => e = .returned (.tuple #[.int .i64 (partS l c d n), .int .i64 0]) ∧ Ext W w') := fun v' c d n W h => PartOK_any v' l c d n W h hl
      have HCR : Hid (∀ W, Ext w W → Calls Try.prog 25 #[v] W fun e w' => e = .returned (.int .i64 (cropsN l)) ∧ Ext W w') := fun W hx => (Crops_any v l W (hvv.ext hx) hl.pos).mono fun e w' h => ⟨h.1, h.2 ▸ Ext.refl _⟩
      obtain ⟨a, k, rfl, h3, h4, hr⟩ := hvv
      have HTB : Hid (∀ W, Ext w W → Calls Try.prog 21 #[.slice a (l.length - 1) k] W fun e w' => ∃ v', e = .returned v' ∧ TarsV w' v' (l.take (l.length - 1)) ∧ Ext W w') := fun W hx => Tariffs_any _ _ W (HV.out.init.ext hx) (init_thin hth)
      have HPB : Hid (∀ v' c d n W, TarsV W v' (l.take (l.length - 1)) → 0 ≤ c → c < (cropsN l : Int) → 0 ≤ d → d ≤ 120 → 0 ≤ n → n ≤ 100 → d < (l.getD (l.length - 1) default).start → Calls Try.prog 20 #[v', .int .i64 c, .int .i64 d, .int .i64 n] W fun e w' => e = .returned (.tuple #[.int .i64 (partS l c d n), .int .i64 0]) ∧ Ext W w') := fun v' c d n W h g0 g1 g2 g3 g4 g5 g6 => by
        rw [← init_part h2 g6]
        exact PartOK_any v' _ c d n W h (hl.init h2) g0 (by rw [init_crops h2]; exact g1) g2 g3 g4 g5
      obtain ⟨b, off, rfl, hta⟩ := hr (l.length - 1) (by omega)
      obtain ⟨a3, k3, a4, k4, a5, k5, m0, m1, m2, m3, m4, m5, mc⟩ := TarAt.open hta
      have e1 : l[l.length - 1]'(by omega) = l.getD (l.length - 1) default := by simp [show l.length - 1 < l.length by omega]
      rw [e1] at m0 m1 m2 m3 m4 m5
      have HM : Hid (∀ W, Ext w W → Cell6 W b (off + (l.length - 1) * 6) ⟨.int .i64 (l.getD (l.length - 1) default).start, .bool (l.getD (l.length - 1) default).whole, .int .i64 (l.getD (l.length - 1) default).least, .slice a3 (l.getD (l.length - 1) default).weeks.length k3, .slice a4 (l.getD (l.length - 1) default).counts.length k4, .slice a5 (l.getD (l.length - 1) default).rates.length k5⟩) :=
        fun W hx => ⟨hx.keep m0, hx.keep m1, hx.keep m2, hx.keep m3, hx.keep m4, hx.keep m5⟩
      clear hta mc e1 hr hl hth hv ht HV m0 m1 m2 m3 m4 m5
      generalize l.getD (l.length - 1) default = t at *
      generalize cropsN l = cn at *
      generalize hm : l.length = m at *
      have hm1 : IntKind.i64.wrap ((m : Int) - 1) = ((m - 1 : Nat) : Int) := by rw [IntWalk.i64_in _ (by omega)]; omega
      have hm2 : ((m : Int) - 1) = ((m - 1 : Nat) : Int) := by omega
      have hm3 : (0 : Int) ≤ ((m - 1 : Nat) : Int) := by omega
      have hm4 : ((m - 1 : Nat) : Int) < (m : Int) := by omega
      have HM2 := Lib.hid hm2
      clear hm2
      go_enter Try.func5, Try.ntmps5
      go_wp2_with fail
      (with_reducible refine hre.mono ?_)
      rintro e w1 ⟨rfl, hx1⟩
      obtain ⟨q0, q1, q2, q3, q4, q5⟩ := HM.out w1 hx1
      go_wp2_with fail
      generalize hW : w1.alloc (.cells #[.int .i64 t.start, .bool t.whole, .int .i64 t.least, .slice a3 t.weeks.length k3, .slice a4 t.counts.length k4, .slice a5 t.rates.length k5] 62) = W at *
      have t0 : W.cell? ⟨w1.heap.size, 0, none⟩ = some (.int .i64 t.start) := by rw [← hW]; simp
      have X : Ext w W := by rw [← hW]; (repeat (first | exact Ext.refl _ | (with_reducible assumption) | (with_reducible refine Ext.drew ?_) | (with_reducible refine Ext.alloc ?_ _) | (with_reducible refine Ext.drewN ?_ _) | (with_reducible refine Ext.setCell ?_ (by omega) _) | (with_reducible refine Ext.trans ?_ (by with_reducible assumption))))
      have g0 : ∀ w', Ext W w' → w'.cell? ⟨w1.heap.size, 0, none⟩ = some (.int .i64 t.start) := fun w' h => h.keep t0
      obtain ⟨c0, hc0, hc1, hc2⟩ : ∃ c0, crop.tmod (cn : Int) = c0 ∧ 0 ≤ c0 ∧ c0 < (cn : Int) := ⟨_, rfl, tmod_bd b1 (by omega)⟩
      obtain ⟨d0, hd0, hd1, hd2⟩ : ∃ d0, day.tmod t.start = d0 ∧ 0 ≤ d0 ∧ d0 < t.start := ⟨_, rfl, tmod_bd b3 (by omega)⟩
      obtain ⟨n0, hn0, hn1, hn2⟩ : ∃ n0, count.tmod 101 = n0 ∧ 0 ≤ n0 ∧ n0 < 101 := ⟨_, rfl, tmod_bd b5 (by omega)⟩
      have hk1 : IntKind.i64.wrap crop = crop := IntWalk.i64_in _ (by omega)
      have hk2 : IntKind.i64.wrap day = day := IntWalk.i64_in _ (by omega)
      have hk3 : IntKind.i64.wrap count = count := IntWalk.i64_in _ (by omega)
      have hcw : IntKind.i64.wrap c0 = c0 := IntWalk.i64_in _ (by omega)
      have hdw : IntKind.i64.wrap d0 = d0 := IntWalk.i64_in _ (by omega)
      have hnw : IntKind.i64.wrap n0 = n0 := IntWalk.i64_in _ (by omega)
      have hz1 : ((cn : Int) == 0) = false := by rw [beq_eq_false_iff_ne]; omega
      have hz2 : (t.start == 0) = false := by rw [beq_eq_false_iff_ne]; omega
      have hz3 : ¬ (cn : Int) = 0 := by omega
      have hz4 : ¬ t.start = 0 := by omega
      have hz5 : ¬ cn = 0 := by omega
      clear hW q0 q1 q2 q3 q4 q5 t0
      refine wp_region_quiet (C := Ext W) (by kernel_rfl) (by kernel_rfl) (Ext.drew (by (repeat (first | exact Ext.refl _ | (with_reducible assumption) | (with_reducible refine Ext.drew ?_) | (with_reducible refine Ext.alloc ?_ _) | (with_reducible refine Ext.drewN ?_ _) | (with_reducible refine Ext.setCell ?_ (by omega) _) | (with_reducible refine Ext.trans ?_ (by with_reducible assumption)))))) ?_
      rw [show ∀ (l : List Oper), l.toArray.toList = l from fun l => rfl]
      repeat (first
        | go_big_quiet_skip
        | (go_big_quiet_want
           first
            | (go_big_quiet_op; go_big_quiet_on)
            | (apply Exists.intro
               refine ⟨fun w' hxw => ?_, ?_⟩
               focus (have q0 := g0 w' hxw; go_simp; first | exact rfl | exact (HCR.out w' (X.trans hxw)).mono (fun e w'' h => ⟨h.1, hxw.trans h.2⟩))
               simp only [Act.put, List.setIfInBounds_toArray, List.set_cons_zero, List.set_cons_succ]
               go_big_quiet_on)))
      refine wpQuiet_nil ?_
      intro w2 hx2
      clear hc0 hd0 hn0 hcw hdw hnw g0 hk1 hk2 hk3
      have X2 := X.trans hx2
      clear X hx2
      go_wp2_with fail
      (with_reducible refine (HTA.out _ X2).mono ?_)
      rintro e w3 ⟨v3, rfl, hv3, hx3⟩
      go_wp2_with fail
      (with_reducible refine (HPA.out _ _ _ _ _ hv3 hc1 hc2 hd1 (by omega) hn1 (by omega)).mono ?_)
      rintro e w4 ⟨rfl, hx4⟩
      have X4 := X2.trans (hx3.trans hx4)
      clear X2 hx3 hx4 hv3
      go_wp2_with fail
      (with_reducible refine (HTB.out _ X4).mono ?_)
      rintro e w5 ⟨v5, rfl, hv5, hx5⟩
      go_wp2_with fail
      (with_reducible refine (HPB.out _ _ _ _ _ hv5 hc1 hc2 hd1 (by omega) hn1 (by omega) hd2).mono ?_)
      rintro e w6 ⟨rfl, hx6⟩
      have X6 := X4.trans (hx5.trans hx6)
      clear X4 hx5 hx6 hv5
      go_wp2_with fail
      (with_reducible refine (HAW.out _).mono ?_)
      rintro e w7 ⟨rfl, hx7⟩
      go_wp2_with fail
      go_ret
      exact ⟨rfl, X6.trans hx7⟩
    · obtain ⟨a, k, rfl, -⟩ := hvv
      clear ht hl hth hv HV
      have hlt : l.length < 2 := by omega
      generalize l.length = m at *
      go_enter Try.func5, Try.ntmps5
      go_wp2_with fail
      (with_reducible refine hre.mono ?_)
      rintro e w1 ⟨rfl, hx1⟩
      go_wp2_with fail
      (with_reducible refine (HAW.out _).mono ?_)
      rintro e w2 ⟨rfl, hx2⟩
      go_wp2_with fail
      go_ret
      exact ⟨rfl, hx1.trans hx2⟩
end Go.Proofs.Ytfjecbfcnngacaa
