/- Contracts: the misprints of rates, where the program finds them. -/
import Derived.Test.YtfjecbfcnngacaaCJ
namespace Go.Proofs.Ytfjecbfcnngacaa
open Go.RowKit Go.Hs
attribute [local irreducible] World.setCell World.alloc

theorem alloc_at {w : World} {b i : Nat} {cs : Array Value} {t : TypeId} {u : Value} (h : b = w.heap.size) (hu : cs[i]? = some u) : (w.alloc (.cells cs t)).cell? ⟨b, i, none⟩ = some u := by
  subst h; simp [hu]
theorem alloc_fz {w : World} {b i : Nat} {cs : Array Value} {t : TypeId} (h : b = w.heap.size) : (w.alloc (.cells cs t)).frozen? ⟨b, i, none⟩ = false := by
  subst h; simp
theorem trySt_start (wb : World) (vr : Value) (t1 t2 t3 t4 : TypeId) : TrySt wb wb.heap.size (wb.heap.size + 1) (wb.heap.size + 1 + 1) (wb.heap.size + 1 + 1 + 1) vr (fun _ => false)
    ((((wb.alloc (.cells #[vr] t1)).alloc (.cells #[.slice none 0 0] t2)).alloc (.cells #[.bool false, .bool false, .bool false, .bool false, .bool false] t3)).alloc (.cells #[tryV wb.heap.size (wb.heap.size + 1) (wb.heap.size + 1 + 1) (wb.heap.size + 1 + 1 + 1)] t4)) := by
  have h1 : ∀ o, (wb.alloc o).heap.size = wb.heap.size + 1 := fun o => by simp
  have h2 : ∀ o o', ((wb.alloc o).alloc o').heap.size = wb.heap.size + 1 + 1 := fun o o' => by simp
  have h3 : ∀ o o' o'', (((wb.alloc o).alloc o').alloc o'').heap.size = wb.heap.size + 1 + 1 + 1 := fun o o' o'' => by simp
  have x1 : ∀ (w : World) o, Ext w (w.alloc o) := fun w o => (Ext.refl w).alloc o
  have x2 : ∀ (w : World) o o', Ext w ((w.alloc o).alloc o') := fun w o o' => (x1 w o).alloc o'
  have x3 : ∀ (w : World) o o' o'', Ext w (((w.alloc o).alloc o').alloc o'') := fun w o o' o'' => (x2 w o o').alloc o''
  refine ⟨(x3 _ _ _ _).alloc _, (x3 _ _ _ _).keep (alloc_at rfl rfl), alloc_at (h3 _ _ _).symm rfl, ⟨_, (x2 _ _ _).keep (alloc_at (h1 _).symm rfl)⟩, fun j hj => (x1 _ _).keep (alloc_at (h2 _ _).symm ?_), ?_, fun o => ?_, Nat.le_refl _, rfl, rfl, rfl⟩
  · rcases j with _ | _ | _ | _ | _ | j <;> first | rfl | omega
  · rw [(x2 _ _ _).frozen (by rw [h2]; omega)]; exact alloc_fz (h1 _).symm
  · rw [(x1 _ _).frozen (by rw [h3]; omega)]; exact alloc_fz (h2 _ _).symm
theorem nil_ints (w : World) : IntsV w (.slice none 0 0) (ints []) := ⟨none, 0, rfl, Nat.le_refl _, by simp [ints], fun i h => absurd h (by simp [ints])⟩

set_option maxRecDepth 100000 in
set_option maxHeartbeats 4000000 in
theorem Mis_good (v : Value) (l : List Tar) (which crop week : Int) (x : List Nat) (w : World) (hv : TarsV w v l) (h : checkS l = 0) (hm : misB l which crop week = true) (hx : misS (ratesS l which crop week) = some x) :
    Calls Try.prog 51 #[v, .int .i64 which, .int .i64 crop, .int .i64 week] w fun e w' => ∃ vx, e = .returned (.tuple #[vx, .int .i64 0]) ∧ IntsV w' vx (ints x) ∧ Ext w w' := by
  have hl := validL_of h
  have hb := asked_good v l none 0 [] (by simp) w hv (fun i hi => absurd hi (by simp)) (by rw [no_claims]; exact h)
  simp only [List.length_nil] at hb
  have hm' := hm
  unfold misB at hm'
  simp only [Bool.and_eq_true] at hm'
  obtain ⟨a1, a2, a3⟩ := hm'
  have hoc : ∀ W', Ext w W' → Calls Try.prog 59 #[.agg #[v], .int .i64 crop] W' fun e w' => e = .returned (.bool true) ∧ Ext W' w' := fun W' hx => a2 ▸ ocrop_any v l hl.pos crop W' (hv.ext hx)
  have HOC := Lib.hid hoc
  have h3 := hl.three
  have hw1 : IntKind.i64.wrap ((l.length : Int) - 1) = (l.length : Int) - 1 := IntWalk.i64_in _ (by omega)
  have HW1 : Hid (∀ W, Calls Try.prog 74 #[.int .i64 which, .int .i64 0, .int .i64 ((l.length : Int) - 1)] W fun e w' => e = .returned (.bool true) ∧ W = w') := fun W => a1 ▸ within_any _ _ _ W
  have HW2 : Hid (∀ W, Calls Try.prog 74 #[.int .i64 week, .int .i64 0, .int .i64 (((l.getD which.toNat default).weeks.length : Int) - 1)] W fun e w' => e = .returned (.bool true) ∧ W = w') := fun W => a3 ▸ within_any _ _ _ W
  obtain ⟨i, j, k, rfl, rfl, rfl, hi, hj, hjc, hk, hkw, hrow, hc5, -⟩ := rates_ok hl hm
  have hlen := hrow.len
  have hf := hl.few i hi
  simp only [fewB, Bool.and_eq_true, decide_eq_true_eq] at hf
  simp only [Int.toNat_natCast] at HW2
  unfold ratesS at hx hlen
  simp only [Int.toNat_natCast] at hx hlen
  obtain ⟨a, c, rfl, g1, g2, hr⟩ := hv
  obtain ⟨b, off, rfl, hta⟩ := hr i hi
  obtain ⟨e3, k3, e4, k4, e5, k5, m0, m1, m2, m3, m4, m5, mc⟩ := TarAt.open hta
  have e1 : l[i] = l.getD i default := by simp [hi]
  rw [e1] at m3 m5 mc
  generalize l.getD i default = t at *
  obtain ⟨a5, c5, he5, -, -, hr5⟩ := mc.rates
  cases he5
  obtain ⟨b5, o5, rfl, v6, q5, h6⟩ := hr5 j hj
  obtain ⟨a6, c6, rfl, -, -, hr6⟩ := h6
  have e6 : t.rates[j] = t.rates.getD j [] := by simp [hj]
  rw [e6] at q5 hr6
  obtain ⟨b6, o6, rfl, v7, q6, h7⟩ := hr6 k hk
  have e7 : (t.rates.getD j [])[k] = (t.rates.getD j []).getD k [] := by
    generalize t.rates.getD j [] = zz at *
    simp [hk]
  rw [e7] at h7
  have H7 := Lib.hid h7
  have HM3 := Lib.hid m3
  have HM5 := Lib.hid m5
  rw [Nat.mul_one] at q5 q6
  have HQ5 := Lib.hid q5
  have HQ6 := Lib.hid q6
  generalize (t.rates.getD j []).getD k [] = rr at *
  have hr5' : rr.length ≤ 5 := by omega
  obtain ⟨a7, c7, rfl, -, -, -⟩ := h7
  have hw2 : IntKind.i64.wrap ((t.weeks.length : Int) - 1) = (t.weeks.length : Int) - 1 := IntWalk.i64_in _ (by omega)
  have hi0 : (0 : Int) ≤ (i : Int) := by omega
  have hi1 : (i : Int) < (l.length : Int) := by omega
  have hj0 : (0 : Int) ≤ (j : Int) := by omega
  have hj1 : (j : Int) < (t.rates.length : Int) := by omega
  have hk0 : (0 : Int) ≤ (k : Int) := by omega
  have hk1 : (k : Int) < ((t.rates.getD j []).length : Int) := by omega
  have HX := Lib.hid hx
  clear hr hta m0 m1 m2 m3 m4 m5 mc e1 e6 e7 h hl hm hoc hf hr5 hr6 q5 q6 hx hlen hrow a1 a2 a3 hc5
  generalize t.weeks.length = wn at *
  generalize t.rates.length = rn at *
  generalize (t.rates.getD j []).length = qn at *
  generalize l.length = n at *
  go_enter Try.func51, Try.ntmps51
  go_wp2_with fail
  go_step3
  go_wp2_with fail
  (with_reducible refine hb.mono ?_)
  rintro e w1 ⟨p, r, rfl, hx1, hw1', hr1⟩
  have k0 := hw1'.list
  clear hb hw1'
  go_wp2_with fail
  (with_reducible refine (HW1.out _).mono ?_)
  rintro e w2 ⟨rfl, hw⟩
  subst hw
  go_wp2_with fail
  (with_reducible refine (HOC.out _ hx1).mono ?_)
  rintro e w3 ⟨rfl, hx3⟩
  have X3 := hx1.trans hx3
  have m3 := X3.keep HM3.out
  have m5 := X3.keep HM5.out
  have q5 := X3.keep HQ5.out
  have q6 := X3.keep HQ6.out
  clear HW1 HOC hx1 hx3 k0 hr1
  go_wp2_with fail
  (with_reducible refine (HW2.out _).mono ?_)
  rintro e w4 ⟨rfl, hw⟩
  subst hw
  clear HW2
  go_upto_region 11 with fail
  have hst := trySt_start w3 (.slice a7 rr.length c7) 59 59 117 118
  unfold tryV at hst
  have hxs : Ext w3 ((((w3.alloc (.cells #[.slice a7 rr.length c7] 59)).alloc (.cells #[.slice none 0 0] 59)).alloc (.cells #[.bool false, .bool false, .bool false, .bool false, .bool false] 117)).alloc (.cells #[.func (.func 75) #[] #[.pointer (some ⟨w3.heap.size + 1 + 1, 0, none⟩), .pointer (some ⟨w3.heap.size + 1, 0, none⟩), .pointer (some ⟨w3.heap.size, 0, none⟩), .pointer (some ⟨w3.heap.size + 1 + 1 + 1, 0, none⟩)]] 118)) := by (repeat (first | exact Ext.refl _ | (with_reducible assumption) | (with_reducible refine Ext.drew ?_) | (with_reducible refine Ext.alloc ?_ _) | (with_reducible refine Ext.drewN ?_ _) | (with_reducible refine Ext.setCell ?_ (by omega) _) | (with_reducible refine Ext.trans ?_ (by with_reducible assumption))))
  generalize (((w3.alloc (.cells #[.slice a7 rr.length c7] 59)).alloc (.cells #[.slice none 0 0] 59)).alloc (.cells #[.bool false, .bool false, .bool false, .bool false, .bool false] 117)).alloc (.cells #[.func (.func 75) #[] #[.pointer (some ⟨w3.heap.size + 1 + 1, 0, none⟩), .pointer (some ⟨w3.heap.size + 1, 0, none⟩), .pointer (some ⟨w3.heap.size, 0, none⟩), .pointer (some ⟨w3.heap.size + 1 + 1 + 1, 0, none⟩)]] 118) = W at *
  have HV3 := Lib.hid (H7.out.ext X3)
  have HTR : Hid (∀ m, TryC w3 w3.heap.size (w3.heap.size + 1) (w3.heap.size + 1 + 1) (w3.heap.size + 1 + 1 + 1) (.slice a7 rr.length c7) rr m) := Lib.hid (fun m => try_any w3 _ _ _ _ _ rr HV3.out hr5' m)
  clear m3 m5 q5 q6 HM3 HM5 HQ5 HQ6 hw2 hi0 hi1 hj0 hj1 hk0 hk1 hw1 hkw hj hk hjc hi
  have o1 : w3.heap.size + 1 = w3.heap.size + 1 := rfl
  obtain ⟨R, hR⟩ : ∃ R, R = w3.heap.size := ⟨_, rfl⟩
  rw [← hR] at hst HTR ⊢
  obtain ⟨F, hF⟩ : ∃ F, F = R + 1 := ⟨_, rfl⟩
  rw [← hF] at hst HTR ⊢
  obtain ⟨L, hL⟩ : ∃ L, L = F + 1 := ⟨_, rfl⟩
  rw [← hL] at hst HTR ⊢
  obtain ⟨T, hT⟩ : ∃ T, T = L + 1 := ⟨_, rfl⟩
  rw [← hT] at hst HTR ⊢
  have HST := Lib.hid hst
  have HOO := Lib.hid (And.intro hF (And.intro hL hT))
  have rc := hst.rc
  clear hst hF hL hT hR o1 H7
  have hwl : IntKind.i64.wrap ((rr.length : Int) + 1) = (rr.length : Int) + 1 := IntWalk.i64_in _ (by omega)
  go_step3
  go_wp2_with fail
  (refine (min2_any rr.length W.heap.size _ (by simp) (by simp) hr5' 2 (Nat.le_refl 2)).mono ?_)
  rintro e w5 ⟨rfl, hx5⟩
  have HS5 := Lib.hid (HST.out.grow (((Ext.refl W).alloc _).trans hx5))
  clear hx5 hxs rc HST
  go_wp2_with fail
  clear hwl
  go_loopw [16, 70] (fun _ s70 wr => ∃ k : Nat, k ≤ rr.length + 1 ∧ s70 = .int .i64 k ∧ Hid (∃ f, TrySt w3 R F L T (.slice a7 rr.length c7) f wr ∧ (keptB rr f = false ∨ k = 0)) ∧ Hid (scan (fun n => tryS rr n [] 0) (rr.length + 1 - k) k = some x)) (fun _ s _ => rr.length + 1 - (intOf s).toNat)
  case atStart => exact ⟨0, Nat.zero_le _, rfl, Lib.hid ⟨_, HS5.out, .inr rfl⟩, HX⟩
  case round =>
    obtain ⟨k', hk', rfl, HS, HSC⟩ := hrel
    obtain ⟨wo, rfl⟩ : ∃ x, x = wr := ⟨_, rfl⟩
    by_cases hlt : k' < rr.length + 1
    · obtain ⟨f, hs, hpre⟩ := HS.out
      have tc := hs.tc
      unfold tryV at tc
      have HC := Lib.hid (HTR.out k' 0 (k' : Int) 0 [] (.slice none 0 0) f wo rfl rfl hs (nil_ints _) (by simp) (by simp; omega) (by omega) (hpre.imp_right (fun h => ⟨rfl, h⟩)))
      have XO := hs.ext
      have h0 := hs.o0
      have hoF := hs.o1
      have e2 : rr.length + 1 - k' = (rr.length + 1 - (k' + 1)) + 1 := by omega
      have hsc := HSC.out
      rw [e2] at hsc
      have HSC2 := Lib.hid hsc
      have hlt' : (k' : Int) < (rr.length : Int) + 1 := by omega
      have hd : decide ((k' : Int) < (rr.length : Int) + 1) = true := decide_eq_true hlt'
      clear hs hpre hsc HS HSC e2
      go_wp2_with fail
      (refine HC.out.mono ?_)
      rintro e w6 ⟨bb, rfl, hp⟩
      have HP := Lib.hid hp
      have X6 : Ext w3 w6 := EG.over XO (by omega) hp.eg
      clear hp
      cases bb with
      | true =>
        obtain ⟨x', vx, hx1, hx2, hx3⟩ := HP.out.yes rfl
        have hxe : x' = x := by
          have := HSC2.out
          rw [scan_yes (f := fun n => tryS rr n [] 0) hx1] at this
          exact Option.some.inj this
        subst hxe
        have HX3 := Lib.hid hx3
        clear hx1 hx3 HC HP HSC2
        go_wp2_with fail
        (try rw [Exit.noGoto_ret])
        go_ret2
        exact ⟨vx, rfl, HX3.out.kc (mask_kc0 _ _), X3.trans X6⟩
      | false =>
        obtain ⟨hn1, f', hs', hk''⟩ := HP.out.no rfl
        have HN := Lib.hid (And.intro hs' hk'')
        have hsc := HSC2.out
        rw [scan_no (f := fun n => tryS rr n [] 0) hn1] at hsc
        have HSC3 := Lib.hid hsc
        clear hn1 hs' hk'' HC HP HSC2 hsc
        go_wp2_with fail
        go_roundw
        case rel => exact ⟨k' + 1, by omega, by go_num, Lib.hid ⟨f', HN.out.1, .inl HN.out.2⟩, HSC3⟩
        case measure => simp [intOf]; omega
    · exfalso
      have hsc := HSC.out
      rw [show rr.length + 1 - k' = 0 by omega] at hsc
      cases hsc
end Go.Proofs.Ytfjecbfcnngacaa
