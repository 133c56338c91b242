/- The walk of UmpireNames. Printed by gen_yz.py. -/
import Derived.Test.YtedblocbcjoolaaKB9
import Derived.Test.YtedblocbcjoolaaKTW
set_option linter.unusedSimpArgs false
set_option linter.unusedVariables false
namespace Go.Proofs.Ytedblocbcjoolaa
open Go.RowKit Go.Hs
attribute [local irreducible] World.setCell World.alloc
theorem nm_play1 : playE twoC (truthL 40 33 17) = 0 ∧ (sumT twoC twoC.flds (truthL 40 33 17)).award = 366 ∧ feeA twoC.fee (sumT twoC twoC.flds (truthL 40 33 17)) = 31 ∧ feeB twoC.fee (sumT twoC twoC.flds (truthL 40 33 17)) = 0 ∧ countsT twoC.flds (truthL 40 33 17) = [33, 18] := ⟨by kernel_rfl, by kernel_rfl, by kernel_rfl, by kernel_rfl, by kernel_rfl⟩
theorem nm_play2 : playE twoC (truthL 41 36 18) = 0 ∧ (sumT twoC twoC.flds (truthL 41 36 18)).award = 398 ∧ feeA twoC.fee (sumT twoC twoC.flds (truthL 41 36 18)) = 0 ∧ feeB twoC.fee (sumT twoC twoC.flds (truthL 41 36 18)) = 31 ∧ countsT twoC.flds (truthL 41 36 18) = [36, 19] := ⟨by kernel_rfl, by kernel_rfl, by kernel_rfl, by kernel_rfl, by kernel_rfl⟩
theorem nm_ask : askE twoC 1 = 0 ∧ askE twoC 0 = 0 ∧ askE twoC 2 = 2 ∧ askE twoC (-1) = 2 := ⟨by kernel_rfl, by kernel_rfl, by kernel_rfl, by kernel_rfl⟩
theorem nm_counts : countsS (twoC.flds.getD (1 : Int).toNat default) = [18, 19] := by kernel_rfl
theorem nm_called : calledV (twoC.flds.getD (0 : Int).toNat default) = 1 := by kernel_rfl
theorem nm_prove : proveB twoC (truthL 40 33 17) 366 = true ∧ proveB twoC (truthL 40 33 17) 367 = false := ⟨by kernel_rfl, by kernel_rfl⟩
theorem nm_bad : playE twoC (truthL 42 33 17) = 2 ∧ playE twoC [⟨40, 30, 33⟩] = 2 := ⟨by kernel_rfl, by kernel_rfl⟩
def nearA : Fld := ⟨0, 1000, 101, 40, 41, 30, 30, 33, 36⟩
def wideA : Fld := ⟨0, 1000, 4, 40, 41, 30, 30, 30, 35⟩
def cropB : Fld := ⟨1, 200, 4, 20, 20, 17, 18, 0, 4⟩
def valB : Fld := ⟨0, -1, 4, 20, 20, 17, 18, 0, 4⟩
def zeroF : Fld := ⟨0, 0, 0, 0, 0, 0, 0, 0, 0⟩
theorem nm_cases : caseE ⟨twoX 0, 121, 31, [twoA, twoB]⟩ = 1 ∧ caseE ⟨twoX 0, 10, 10001, [twoA, twoB]⟩ = 1 ∧ caseE ⟨twoX 0, 10, 31, [nearA, twoB]⟩ = 1 ∧ caseE ⟨twoX 0, 10, 31, [wideA, twoB]⟩ = 1 ∧ caseE ⟨twoX 0, 10, 31, [twoA, cropB]⟩ = 1 ∧ caseE ⟨twoX 0, 10, 31, [twoA, valB]⟩ = 1 ∧ caseE ⟨twoX 0, 10, 31, [zeroF, zeroF, zeroF, zeroF]⟩ = 3 ∧ caseE ⟨twoX (-1), 10, 31, [twoA, twoB]⟩ = 1 ∧ caseE ⟨[], 0, 0, []⟩ = 1 := ⟨by kernel_rfl, by kernel_rfl, by kernel_rfl, by kernel_rfl, by kernel_rfl, by kernel_rfl, by kernel_rfl, by kernel_rfl, by kernel_rfl⟩
theorem nm_offers : caseE ⟨twoT, 0, 5, []⟩ = 0 ∧ bLo ⟨twoT, 0, 5, []⟩ 3 = 0 ∧ bHi ⟨twoT, 0, 5, []⟩ 4 = 0 := ⟨by kernel_rfl, by kernel_rfl, by kernel_rfl⟩
theorem field_tars (x1 x2 x3 : Value) (a : Option Addr) (n c : Nat) (w : World) : (Instr.field 31 (.agg #[.slice a n c, x1, x2, x3]) 0).run Try.prog w = .ok (.slice a n c) w := by kernel_rfl
theorem nil_flds (w : World) : FldsV w (.slice none 0 0) [] := ⟨none, 0, rfl, Nat.le_refl _, by simp, fun i h => absurd h (by simp)⟩
theorem nil_tarsU (w : World) : TarsV w (.slice none 0 0) [] := ⟨none, 0, rfl, Nat.le_refl _, by simp, fun i h => absurd h (Nat.not_lt_zero _)⟩
theorem zero_flds {w : World} {N : Nat} (h : ∀ j, j < 36 → w.cell? ⟨N, j, none⟩ = some (.int .i64 0)) : FldsV w (.slice (some ⟨N, 0, none⟩) 4 4) [zeroF, zeroF, zeroF, zeroF] := by
  refine ⟨_, _, rfl, by simp, by simp, fun i hi => ?_⟩
  simp at hi
  have g : ∀ j, j < 36 → w.cell? ⟨N, 0 + j, none⟩ = some (.int .i64 0) := fun j hj => by rw [Nat.zero_add]; exact h j hj
  have e : [zeroF, zeroF, zeroF, zeroF].map Fld.c = [zeroF.c, zeroF.c, zeroF.c, zeroF.c] := rfl
  have e2 : ([zeroF, zeroF, zeroF, zeroF].map Fld.c)[i]'(by simpa using hi) = zeroF.c := by
    rcases i with _ | _ | _ | _ | i
    · rfl
    · rfl
    · rfl
    · rfl
    · omega
  rw [e2]
  refine ⟨_, 0, rfl, g _ (by omega), ?_, ?_, ?_, ?_, ?_, ?_, ?_, ?_⟩
  · rw [Nat.add_assoc]; exact g _ (by omega)
  · rw [Nat.add_assoc]; exact g _ (by omega)
  · rw [Nat.add_assoc]; exact g _ (by omega)
  · rw [Nat.add_assoc]; exact g _ (by omega)
  · rw [Nat.add_assoc]; exact g _ (by omega)
  · rw [Nat.add_assoc]; exact g _ (by omega)
  · rw [Nat.add_assoc]; exact g _ (by omega)
  · rw [Nat.add_assoc]; exact g _ (by omega)
theorem cut_thrs {w : World} {b q : Nat} {x y z : Int} (h : ThrsV w (.slice (some ⟨b, 0, none⟩) 2 q) (truthL x y z)) : ThrsV w (.slice (some ⟨b, 0, none⟩) 1 q) [⟨x, 30, y⟩] := by
  obtain ⟨a, c, e, h1, h2, hc⟩ := h
  simp only [Value.slice.injEq] at e
  obtain ⟨rfl, -, rfl⟩ := e
  refine ⟨_, _, rfl, by simp [truthL] at h1 ⊢; omega, by simp, fun i hi => ?_⟩
  obtain rfl : i = 0 := by simpa using hi
  simpa [truthL] using hc 0 (by simp [truthL])

set_option maxRecDepth 100000 in
theorem truth_y (a u b : Int) (w : World) : Calls Try.prog 6 #[.int .i64 a, .int .i64 u, .int .i64 b] w fun e w' => ∃ m, e = .returned (.slice (some ⟨m, 0, none⟩) 2 2) ∧ ThrsV w' (.slice (some ⟨m, 0, none⟩) 2 2) (truthL a u b) ∧ Ext w w' := by
  go_enter Try.func6, Try.ntmps6
  go_wp2_with fail
  go_ret
  refine ⟨_, rfl, ?_, by (repeat (first | exact Ext.refl _ | (with_reducible assumption) | (with_reducible refine Ext.drew ?_) | (with_reducible refine Ext.alloc ?_ _) | (with_reducible refine Ext.drewN ?_ _) | (with_reducible refine Ext.setCell ?_ (by omega) _) | (with_reducible refine Ext.trans ?_ (by with_reducible assumption))))⟩
  refine ⟨_, _, rfl, by simp [truthL], by simp [truthL], fun i hi => ?_⟩
  simp [truthL] at hi
  rcases i with _ | _ | i
  · exact ⟨_, 0, rfl, by simp [go_sem, truthL, Thr.c], by simp [go_sem, truthL, Thr.c], by simp [go_sem, truthL, Thr.c]⟩
  · exact ⟨_, 0, rfl, by simp [go_sem, truthL, Thr.c], by simp [go_sem, truthL, Thr.c], by simp [go_sem, truthL, Thr.c]⟩
  · omega
theorem nm_play {t : List Thr} {x y z : Int} {k l : Int} (h : playE twoC t = 0 ∧ (sumT twoC twoC.flds t).award = x ∧ feeA twoC.fee (sumT twoC twoC.flds t) = y ∧ feeB twoC.fee (sumT twoC twoC.flds t) = z ∧ countsT twoC.flds t = [k, l]) (v vt : Value) (W : World) (hv : CasV W v twoC) (ht : ThrsV W vt t) : Calls Try.prog 4 #[v, vt] W fun e w' => ∃ a q, e = .returned (.tuple #[.agg #[.slice a 2 q, .int .i64 x, .int .i64 y, .int .i64 z], .int .i64 0]) ∧ IntsV w' (.slice a 2 q) [k, l] ∧ Ext W w' := by
  obtain ⟨h1, rfl, rfl, rfl, h5⟩ := h
  refine (Play_good twoC v _ vt W hv ht h1).mono ?_
  rintro e w' ⟨r, rfl, a, q, rfl, hi, hx⟩
  rw [h5] at hi
  exact ⟨a, q, rfl, hi, hx⟩

set_option maxRecDepth 100000 in
set_option maxHeartbeats 16000000 in
theorem walk_UmpireNames (w : World) : Calls Try.prog 3 #[] w fun e w' => e = .returned (.bool true) ∧ Ext w w' := by
  have HAW := Lib.hid awakeU_any
  have H2 : Hid (∀ W, Calls Try.prog 5 #[] W fun e w' => ∃ v, e = .returned v ∧ CasV w' v twoC ∧ Ext W w') := Lib.hid twoU_any
  have HY := Lib.hid two_y
  have HT : Hid (∀ a u b W, Calls Try.prog 6 #[.int .i64 a, .int .i64 u, .int .i64 b] W fun e w' => ∃ m, e = .returned (.slice (some ⟨m, 0, none⟩) 2 2) ∧ ThrsV w' (.slice (some ⟨m, 0, none⟩) 2 2) (truthL a u b) ∧ Ext W w') := Lib.hid truth_y
  have HP1 := Lib.hid (nm_play nm_play1)
  have HP2 := Lib.hid (nm_play nm_play2)
  have HC1 : Hid (∀ v W, CasV W v twoC → Calls Try.prog 7 #[v, .int .i64 1] W fun e w' => ∃ a q, e = .returned (.tuple #[.slice a 2 q, .int .i64 0]) ∧ IntsV w' (.slice a 2 q) [18, 19] ∧ Ext W w') := Lib.hid (fun v W hv => (Counts_good twoC v 1 W hv nm_ask.1).mono (by
    rintro e w' ⟨r, rfl, hi, hx⟩
    rw [nm_counts] at hi
    obtain ⟨a, q, rfl, -⟩ := id hi
    exact ⟨a, q, rfl, hi, hx⟩))
  have HL0 : Hid (∀ v W, CasV W v twoC → Calls Try.prog 8 #[v, .int .i64 0] W fun e w' => e = .returned (.tuple #[.int .i64 1, .int .i64 0]) ∧ Ext W w') := Lib.hid (fun v W hv => nm_called ▸ Called_good twoC v 0 W hv nm_ask.2.1)
  have HS1 : Hid (∀ va vb W, IntsV W va [33, 18] → IntsV W vb [33, 18] → Calls Try.prog 9 #[.agg #[va, .int .i64 366, .int .i64 31, .int .i64 0], .agg #[vb, .int .i64 366, .int .i64 31, .int .i64 0]] W fun e w' => e = .returned (.bool true) ∧ Ext W w') := Lib.hid (fun va vb W h1 h2 => sameU_any va vb [33, 18] [33, 18] 366 31 0 366 31 0 W h1 h2 (by decide) (by decide))
  have HS2 : Hid (∀ va vb W, IntsV W va [36, 19] → IntsV W vb [36, 19] → Calls Try.prog 9 #[.agg #[va, .int .i64 398, .int .i64 0, .int .i64 31], .agg #[vb, .int .i64 398, .int .i64 0, .int .i64 31]] W fun e w' => e = .returned (.bool true) ∧ Ext W w') := Lib.hid (fun va vb W h1 h2 => sameU_any va vb [36, 19] [36, 19] 398 0 31 398 0 31 W h1 h2 (by decide) (by decide))
  have HS3 : Hid (∀ va vb W, IntsV W va [18, 19] → IntsV W vb [18, 19] → Calls Try.prog 10 #[va, vb] W fun e w' => e = .returned (.bool true) ∧ Ext W w') := Lib.hid (fun va vb W h1 h2 => SameI_any va vb _ _ W h1 h2 (by decide) (by decide))
  have HV1 : Hid (∀ v vt W, CasV W v twoC → ThrsV W vt (truthL 40 33 17) → Calls Try.prog 11 #[v, vt, .int .i64 366] W fun e w' => e = .returned (.bool true) ∧ Ext W w') := Lib.hid (fun v vt W h1 h2 => nm_prove.1 ▸ Prove_u twoC v _ vt 366 W h1 h2)
  have HV2 : Hid (∀ v vt W, CasV W v twoC → ThrsV W vt (truthL 40 33 17) → Calls Try.prog 11 #[v, vt, .int .i64 367] W fun e w' => e = .returned (.bool false) ∧ Ext W w') := Lib.hid (fun v vt W h1 h2 => nm_prove.2 ▸ Prove_u twoC v _ vt 367 W h1 h2)
  have HP3 : Hid (∀ v vt W, CasV W v twoC → ThrsV W vt (truthL 42 33 17) → Calls Try.prog 4 #[v, vt] W fun e w' => e = .returned (.tuple #[zeroR, .int .i64 2]) ∧ Ext W w') := Lib.hid (fun v vt W h1 h2 => by have := Play_bad twoC v _ vt W h1 h2 (by rw [nm_bad.1]; decide); rw [nm_bad.1] at this; exact this)
  have HP4 : Hid (∀ v vt W, CasV W v twoC → ThrsV W vt [⟨40, 30, 33⟩] → Calls Try.prog 4 #[v, vt] W fun e w' => e = .returned (.tuple #[zeroR, .int .i64 2]) ∧ Ext W w') := Lib.hid (fun v vt W h1 h2 => by have := Play_bad twoC v _ vt W h1 h2 (by rw [nm_bad.2]; decide); rw [nm_bad.2] at this; exact this)
  have HC2 : Hid (∀ v W, CasV W v twoC → Calls Try.prog 7 #[v, .int .i64 2] W fun e w' => e = .returned (.tuple #[.slice none 0 0, .int .i64 2]) ∧ Ext W w') := Lib.hid (fun v W h1 => by have := Counts_bad twoC v 2 W h1 (by rw [nm_ask.2.2.1]; decide); rw [nm_ask.2.2.1] at this; exact this)
  have HL1 : Hid (∀ v W, CasV W v twoC → Calls Try.prog 8 #[v, .int .i64 (-1)] W fun e w' => e = .returned (.tuple #[.int .i64 0, .int .i64 2]) ∧ Ext W w') := Lib.hid (fun v W h1 => by have := Called_bad twoC v (-1) W h1 (by rw [nm_ask.2.2.2]; decide); rw [nm_ask.2.2.2] at this; exact this)
  have HOF : Hid (∀ vt W, TarsV W vt twoT → Calls Try.prog 13 #[.agg #[vt, .int .i64 0, .int .i64 5, .slice none 0 0]] W fun e w' => e = .returned (.tuple #[.agg #[.int .i64 0, .int .i64 0], .int .i64 0]) ∧ Ext W w') := Lib.hid (fun vt W ht => by have := Offers_good ⟨twoT, 0, 5, []⟩ (.agg #[vt, .int .i64 0, .int .i64 5, .slice none 0 0]) W ⟨_, _, rfl, ht, nil_flds W⟩ nm_offers.1; rw [nm_offers.2.1, nm_offers.2.2] at this; exact this)
  have HCK : Hid (∀ c k v W, CasV W v c → caseE c = k → Calls Try.prog 14 #[v] W fun e w' => e = .returned (.int .i64 k) ∧ Ext W w') := Lib.hid (fun c k v W h e => e ▸ check_u c v W h)
  have HB : Hid (∀ a b W, Calls Try.prog 12 #[.int .i64 a, .int .i64 b] W fun e w' => e = .returned (.agg #[.int .i64 a, .int .i64 b]) ∧ Ext W w') := Lib.hid betweenU_any
  have XX : Ext w w := Ext.refl w
  go_enter Try.func3, Try.ntmps3
  go_wp2_with fail
  (with_reducible refine (H2.out _).mono ?_)
  rintro e w1 ⟨v1, rfl, hv, hx⟩
  have hy : Ext w w1 := by (repeat (first | exact Ext.refl _ | (with_reducible assumption) | (with_reducible refine Ext.drew ?_) | (with_reducible refine Ext.alloc ?_ _) | (with_reducible refine Ext.drewN ?_ _) | (with_reducible refine Ext.setCell ?_ (by omega) _) | (with_reducible refine Ext.trans ?_ (by with_reducible assumption))))
  replace XX := XX.trans hy
  clear hx hy
  go_wp2_with fail
  (with_reducible refine (HT.out 40 33 17 _).mono ?_)
  rintro e w2 ⟨m2, rfl, ht, hx⟩
  have hy : Ext w1 w2 := by (repeat (first | exact Ext.refl _ | (with_reducible assumption) | (with_reducible refine Ext.drew ?_) | (with_reducible refine Ext.alloc ?_ _) | (with_reducible refine Ext.drewN ?_ _) | (with_reducible refine Ext.setCell ?_ (by omega) _) | (with_reducible refine Ext.trans ?_ (by with_reducible assumption))))
  replace XX := XX.trans hy
  replace hv := hv.ext hy
  clear hx hy
  go_wp2_with fail
  (with_reducible refine (HP1.out _ _ _ hv ht).mono ?_)
  rintro e w3 ⟨a3, q3, rfl, h3, hx⟩
  have hy : Ext w2 w3 := by (repeat (first | exact Ext.refl _ | (with_reducible assumption) | (with_reducible refine Ext.drew ?_) | (with_reducible refine Ext.alloc ?_ _) | (with_reducible refine Ext.drewN ?_ _) | (with_reducible refine Ext.setCell ?_ (by omega) _) | (with_reducible refine Ext.trans ?_ (by with_reducible assumption))))
  replace XX := XX.trans hy
  clear hx hy
  clear hv ht
  go_wp2_with fail
  (with_reducible refine (H2.out _).mono ?_)
  rintro e w4 ⟨v4, rfl, hv, hx⟩
  have hy : Ext w3 w4 := by (repeat (first | exact Ext.refl _ | (with_reducible assumption) | (with_reducible refine Ext.drew ?_) | (with_reducible refine Ext.alloc ?_ _) | (with_reducible refine Ext.drewN ?_ _) | (with_reducible refine Ext.setCell ?_ (by omega) _) | (with_reducible refine Ext.trans ?_ (by with_reducible assumption))))
  have b0 := hx.keep (k := w3.heap.size) (o := 0) (v := .slice a3 2 q3) (by simp [go_sem])
  have b1 := hx.keep (k := w3.heap.size) (o := 1) (v := .int .i64 366) (by simp [go_sem])
  have b2 := hx.keep (k := w3.heap.size) (o := 2) (v := .int .i64 31) (by simp [go_sem])
  have b3 := hx.keep (k := w3.heap.size) (o := 3) (v := .int .i64 0) (by simp [go_sem])
  replace XX := XX.trans hy
  replace h3 := h3.ext hy
  clear hx hy
  go_wp2_with fail
  (with_reducible refine (HT.out 41 36 18 _).mono ?_)
  rintro e w5 ⟨m5, rfl, ht, hx⟩
  have hy : Ext w4 w5 := by (repeat (first | exact Ext.refl _ | (with_reducible assumption) | (with_reducible refine Ext.drew ?_) | (with_reducible refine Ext.alloc ?_ _) | (with_reducible refine Ext.drewN ?_ _) | (with_reducible refine Ext.setCell ?_ (by omega) _) | (with_reducible refine Ext.trans ?_ (by with_reducible assumption))))
  replace XX := XX.trans hy
  replace h3 := h3.ext hy
  replace b0 := hy.keep b0
  replace b1 := hy.keep b1
  replace b2 := hy.keep b2
  replace b3 := hy.keep b3
  replace hv := hv.ext hy
  clear hx hy
  go_wp2_with fail
  (with_reducible refine (HP2.out _ _ _ hv ht).mono ?_)
  rintro e w6 ⟨a6, q6, rfl, h6, hx⟩
  have hy : Ext w5 w6 := by (repeat (first | exact Ext.refl _ | (with_reducible assumption) | (with_reducible refine Ext.drew ?_) | (with_reducible refine Ext.alloc ?_ _) | (with_reducible refine Ext.drewN ?_ _) | (with_reducible refine Ext.setCell ?_ (by omega) _) | (with_reducible refine Ext.trans ?_ (by with_reducible assumption))))
  replace XX := XX.trans hy
  replace h3 := h3.ext hy
  replace b0 := hy.keep b0
  replace b1 := hy.keep b1
  replace b2 := hy.keep b2
  replace b3 := hy.keep b3
  clear hx hy
  clear hv ht
  go_wp2_with fail
  (with_reducible refine (H2.out _).mono ?_)
  rintro e w7 ⟨v7, rfl, hv, hx⟩
  have hy : Ext w6 w7 := by (repeat (first | exact Ext.refl _ | (with_reducible assumption) | (with_reducible refine Ext.drew ?_) | (with_reducible refine Ext.alloc ?_ _) | (with_reducible refine Ext.drewN ?_ _) | (with_reducible refine Ext.setCell ?_ (by omega) _) | (with_reducible refine Ext.trans ?_ (by with_reducible assumption))))
  have d0 := hx.keep (k := w6.heap.size) (o := 0) (v := .slice a6 2 q6) (by simp [go_sem])
  have d1 := hx.keep (k := w6.heap.size) (o := 1) (v := .int .i64 398) (by simp [go_sem])
  have d2 := hx.keep (k := w6.heap.size) (o := 2) (v := .int .i64 0) (by simp [go_sem])
  have d3 := hx.keep (k := w6.heap.size) (o := 3) (v := .int .i64 31) (by simp [go_sem])
  replace XX := XX.trans hy
  replace h3 := h3.ext hy
  replace b0 := hy.keep b0
  replace b1 := hy.keep b1
  replace b2 := hy.keep b2
  replace b3 := hy.keep b3
  replace h6 := h6.ext hy
  clear hx hy
  go_wp2_with fail
  (with_reducible refine (HC1.out _ _ hv).mono ?_)
  rintro e w8 ⟨a8, q8, rfl, h8, hx⟩
  have hy : Ext w7 w8 := by (repeat (first | exact Ext.refl _ | (with_reducible assumption) | (with_reducible refine Ext.drew ?_) | (with_reducible refine Ext.alloc ?_ _) | (with_reducible refine Ext.drewN ?_ _) | (with_reducible refine Ext.setCell ?_ (by omega) _) | (with_reducible refine Ext.trans ?_ (by with_reducible assumption))))
  replace XX := XX.trans hy
  replace h3 := h3.ext hy
  replace b0 := hy.keep b0
  replace b1 := hy.keep b1
  replace b2 := hy.keep b2
  replace b3 := hy.keep b3
  replace h6 := h6.ext hy
  replace d0 := hy.keep d0
  replace d1 := hy.keep d1
  replace d2 := hy.keep d2
  replace d3 := hy.keep d3
  clear hx hy
  clear hv
  go_wp2_with fail
  (with_reducible refine (H2.out _).mono ?_)
  rintro e w9 ⟨v9, rfl, hv, hx⟩
  have hy : Ext w8 w9 := by (repeat (first | exact Ext.refl _ | (with_reducible assumption) | (with_reducible refine Ext.drew ?_) | (with_reducible refine Ext.alloc ?_ _) | (with_reducible refine Ext.drewN ?_ _) | (with_reducible refine Ext.setCell ?_ (by omega) _) | (with_reducible refine Ext.trans ?_ (by with_reducible assumption))))
  replace XX := XX.trans hy
  replace h3 := h3.ext hy
  replace b0 := hy.keep b0
  replace b1 := hy.keep b1
  replace b2 := hy.keep b2
  replace b3 := hy.keep b3
  replace h6 := h6.ext hy
  replace d0 := hy.keep d0
  replace d1 := hy.keep d1
  replace d2 := hy.keep d2
  replace d3 := hy.keep d3
  replace h8 := h8.ext hy
  clear hx hy
  go_wp2_with fail
  (with_reducible refine (HL0.out _ _ hv).mono ?_)
  rintro e w10 ⟨rfl, hx⟩
  have hy : Ext w9 w10 := by (repeat (first | exact Ext.refl _ | (with_reducible assumption) | (with_reducible refine Ext.drew ?_) | (with_reducible refine Ext.alloc ?_ _) | (with_reducible refine Ext.drewN ?_ _) | (with_reducible refine Ext.setCell ?_ (by omega) _) | (with_reducible refine Ext.trans ?_ (by with_reducible assumption))))
  replace XX := XX.trans hy
  replace h3 := h3.ext hy
  replace b0 := hy.keep b0
  replace b1 := hy.keep b1
  replace b2 := hy.keep b2
  replace b3 := hy.keep b3
  replace h6 := h6.ext hy
  replace d0 := hy.keep d0
  replace d1 := hy.keep d1
  replace d2 := hy.keep d2
  replace d3 := hy.keep d3
  replace h8 := h8.ext hy
  clear hx hy
  clear hv HP1 HP2 HC1 HL0
  go_wp2_with fail
  (with_reducible refine (HS1.out _ _ _ (h3.ext (by (repeat (first | exact Ext.refl _ | (with_reducible assumption) | (with_reducible refine Ext.drew ?_) | (with_reducible refine Ext.alloc ?_ _) | (with_reducible refine Ext.drewN ?_ _) | (with_reducible refine Ext.setCell ?_ (by omega) _) | (with_reducible refine Ext.trans ?_ (by with_reducible assumption)))))) (cells2 33 18 (by simp [go_sem]) (by simp [go_sem]) (by decide))).mono ?_)
  rintro e w11 ⟨rfl, hx⟩
  have hy : Ext w10 w11 := by (repeat (first | exact Ext.refl _ | (with_reducible assumption) | (with_reducible refine Ext.drew ?_) | (with_reducible refine Ext.alloc ?_ _) | (with_reducible refine Ext.drewN ?_ _) | (with_reducible refine Ext.setCell ?_ (by omega) _) | (with_reducible refine Ext.trans ?_ (by with_reducible assumption))))
  replace XX := XX.trans hy
  replace h6 := h6.ext hy
  replace d0 := hy.keep d0
  replace d1 := hy.keep d1
  replace d2 := hy.keep d2
  replace d3 := hy.keep d3
  replace h8 := h8.ext hy
  clear hx hy
  clear b0 b1 b2 b3 h3
  go_wp2_with fail
  (with_reducible refine (HS2.out _ _ _ (h6.ext (by (repeat (first | exact Ext.refl _ | (with_reducible assumption) | (with_reducible refine Ext.drew ?_) | (with_reducible refine Ext.alloc ?_ _) | (with_reducible refine Ext.drewN ?_ _) | (with_reducible refine Ext.setCell ?_ (by omega) _) | (with_reducible refine Ext.trans ?_ (by with_reducible assumption)))))) (cells2 36 19 (by simp [go_sem]) (by simp [go_sem]) (by decide))).mono ?_)
  rintro e w12 ⟨rfl, hx⟩
  have hy : Ext w11 w12 := by (repeat (first | exact Ext.refl _ | (with_reducible assumption) | (with_reducible refine Ext.drew ?_) | (with_reducible refine Ext.alloc ?_ _) | (with_reducible refine Ext.drewN ?_ _) | (with_reducible refine Ext.setCell ?_ (by omega) _) | (with_reducible refine Ext.trans ?_ (by with_reducible assumption))))
  replace XX := XX.trans hy
  replace h8 := h8.ext hy
  clear hx hy
  clear d0 d1 d2 d3 h6
  go_wp2_with fail
  (with_reducible refine (HS3.out _ _ _ (h8.ext (by (repeat (first | exact Ext.refl _ | (with_reducible assumption) | (with_reducible refine Ext.drew ?_) | (with_reducible refine Ext.alloc ?_ _) | (with_reducible refine Ext.drewN ?_ _) | (with_reducible refine Ext.setCell ?_ (by omega) _) | (with_reducible refine Ext.trans ?_ (by with_reducible assumption)))))) (cells2 18 19 (by simp [go_sem]) (by simp [go_sem]) (by decide))).mono ?_)
  rintro e w13 ⟨rfl, hx⟩
  have hy : Ext w12 w13 := by (repeat (first | exact Ext.refl _ | (with_reducible assumption) | (with_reducible refine Ext.drew ?_) | (with_reducible refine Ext.alloc ?_ _) | (with_reducible refine Ext.drewN ?_ _) | (with_reducible refine Ext.setCell ?_ (by omega) _) | (with_reducible refine Ext.trans ?_ (by with_reducible assumption))))
  replace XX := XX.trans hy
  clear hx hy
  clear h8 HS1 HS2 HS3
  go_wp2_with fail
  (with_reducible refine (H2.out _).mono ?_)
  rintro e w14 ⟨v14, rfl, hv, hx⟩
  have hy : Ext w13 w14 := by (repeat (first | exact Ext.refl _ | (with_reducible assumption) | (with_reducible refine Ext.drew ?_) | (with_reducible refine Ext.alloc ?_ _) | (with_reducible refine Ext.drewN ?_ _) | (with_reducible refine Ext.setCell ?_ (by omega) _) | (with_reducible refine Ext.trans ?_ (by with_reducible assumption))))
  replace XX := XX.trans hy
  clear hx hy
  go_wp2_with fail
  (with_reducible refine (HT.out 40 33 17 _).mono ?_)
  rintro e w15 ⟨m15, rfl, ht, hx⟩
  have hy : Ext w14 w15 := by (repeat (first | exact Ext.refl _ | (with_reducible assumption) | (with_reducible refine Ext.drew ?_) | (with_reducible refine Ext.alloc ?_ _) | (with_reducible refine Ext.drewN ?_ _) | (with_reducible refine Ext.setCell ?_ (by omega) _) | (with_reducible refine Ext.trans ?_ (by with_reducible assumption))))
  replace XX := XX.trans hy
  replace hv := hv.ext hy
  clear hx hy
  go_wp2_with fail
  (with_reducible refine (HV1.out _ _ _ hv ht).mono ?_)
  rintro e w16 ⟨rfl, hx⟩
  have hy : Ext w15 w16 := by (repeat (first | exact Ext.refl _ | (with_reducible assumption) | (with_reducible refine Ext.drew ?_) | (with_reducible refine Ext.alloc ?_ _) | (with_reducible refine Ext.drewN ?_ _) | (with_reducible refine Ext.setCell ?_ (by omega) _) | (with_reducible refine Ext.trans ?_ (by with_reducible assumption))))
  replace XX := XX.trans hy
  clear hx hy
  clear hv ht
  go_wp2_with fail
  (with_reducible refine (H2.out _).mono ?_)
  rintro e w17 ⟨v17, rfl, hv, hx⟩
  have hy : Ext w16 w17 := by (repeat (first | exact Ext.refl _ | (with_reducible assumption) | (with_reducible refine Ext.drew ?_) | (with_reducible refine Ext.alloc ?_ _) | (with_reducible refine Ext.drewN ?_ _) | (with_reducible refine Ext.setCell ?_ (by omega) _) | (with_reducible refine Ext.trans ?_ (by with_reducible assumption))))
  replace XX := XX.trans hy
  clear hx hy
  go_wp2_with fail
  (with_reducible refine (HT.out 40 33 17 _).mono ?_)
  rintro e w18 ⟨m18, rfl, ht, hx⟩
  have hy : Ext w17 w18 := by (repeat (first | exact Ext.refl _ | (with_reducible assumption) | (with_reducible refine Ext.drew ?_) | (with_reducible refine Ext.alloc ?_ _) | (with_reducible refine Ext.drewN ?_ _) | (with_reducible refine Ext.setCell ?_ (by omega) _) | (with_reducible refine Ext.trans ?_ (by with_reducible assumption))))
  replace XX := XX.trans hy
  replace hv := hv.ext hy
  clear hx hy
  go_wp2_with fail
  (with_reducible refine (HV2.out _ _ _ hv ht).mono ?_)
  rintro e w19 ⟨rfl, hx⟩
  have hy : Ext w18 w19 := by (repeat (first | exact Ext.refl _ | (with_reducible assumption) | (with_reducible refine Ext.drew ?_) | (with_reducible refine Ext.alloc ?_ _) | (with_reducible refine Ext.drewN ?_ _) | (with_reducible refine Ext.setCell ?_ (by omega) _) | (with_reducible refine Ext.trans ?_ (by with_reducible assumption))))
  replace XX := XX.trans hy
  clear hx hy
  clear hv ht HV1 HV2
  go_wp2_with fail
  (with_reducible refine (H2.out _).mono ?_)
  rintro e w20 ⟨v20, rfl, hv, hx⟩
  have hy : Ext w19 w20 := by (repeat (first | exact Ext.refl _ | (with_reducible assumption) | (with_reducible refine Ext.drew ?_) | (with_reducible refine Ext.alloc ?_ _) | (with_reducible refine Ext.drewN ?_ _) | (with_reducible refine Ext.setCell ?_ (by omega) _) | (with_reducible refine Ext.trans ?_ (by with_reducible assumption))))
  replace XX := XX.trans hy
  clear hx hy
  go_wp2_with fail
  (with_reducible refine (HT.out 42 33 17 _).mono ?_)
  rintro e w21 ⟨m21, rfl, ht, hx⟩
  have hy : Ext w20 w21 := by (repeat (first | exact Ext.refl _ | (with_reducible assumption) | (with_reducible refine Ext.drew ?_) | (with_reducible refine Ext.alloc ?_ _) | (with_reducible refine Ext.drewN ?_ _) | (with_reducible refine Ext.setCell ?_ (by omega) _) | (with_reducible refine Ext.trans ?_ (by with_reducible assumption))))
  replace XX := XX.trans hy
  replace hv := hv.ext hy
  clear hx hy
  go_wp2_with fail
  (with_reducible refine (HP3.out _ _ _ hv ht).mono ?_)
  rintro e w22 ⟨rfl, hx⟩
  have hy : Ext w21 w22 := by (repeat (first | exact Ext.refl _ | (with_reducible assumption) | (with_reducible refine Ext.drew ?_) | (with_reducible refine Ext.alloc ?_ _) | (with_reducible refine Ext.drewN ?_ _) | (with_reducible refine Ext.setCell ?_ (by omega) _) | (with_reducible refine Ext.trans ?_ (by with_reducible assumption))))
  replace XX := XX.trans hy
  clear hx hy
  clear hv ht
  go_wp2_with fail
  (with_reducible refine (H2.out _).mono ?_)
  rintro e w23 ⟨v23, rfl, hv, hx⟩
  have hy : Ext w22 w23 := by (repeat (first | exact Ext.refl _ | (with_reducible assumption) | (with_reducible refine Ext.drew ?_) | (with_reducible refine Ext.alloc ?_ _) | (with_reducible refine Ext.drewN ?_ _) | (with_reducible refine Ext.setCell ?_ (by omega) _) | (with_reducible refine Ext.trans ?_ (by with_reducible assumption))))
  replace XX := XX.trans hy
  clear hx hy
  go_wp2_with fail
  (with_reducible refine (HT.out 40 33 17 _).mono ?_)
  rintro e w24 ⟨m24, rfl, ht, hx⟩
  have hy : Ext w23 w24 := by (repeat (first | exact Ext.refl _ | (with_reducible assumption) | (with_reducible refine Ext.drew ?_) | (with_reducible refine Ext.alloc ?_ _) | (with_reducible refine Ext.drewN ?_ _) | (with_reducible refine Ext.setCell ?_ (by omega) _) | (with_reducible refine Ext.trans ?_ (by with_reducible assumption))))
  replace XX := XX.trans hy
  replace hv := hv.ext hy
  clear hx hy
  go_wp2_with fail
  (with_reducible refine (HP4.out _ _ _ hv (cut_thrs ht)).mono ?_)
  rintro e w25 ⟨rfl, hx⟩
  have hy : Ext w24 w25 := by (repeat (first | exact Ext.refl _ | (with_reducible assumption) | (with_reducible refine Ext.drew ?_) | (with_reducible refine Ext.alloc ?_ _) | (with_reducible refine Ext.drewN ?_ _) | (with_reducible refine Ext.setCell ?_ (by omega) _) | (with_reducible refine Ext.trans ?_ (by with_reducible assumption))))
  replace XX := XX.trans hy
  clear hx hy
  clear hv ht HP3 HP4 HT
  go_wp2_with fail
  (with_reducible refine (H2.out _).mono ?_)
  rintro e w26 ⟨v26, rfl, hv, hx⟩
  have hy : Ext w25 w26 := by (repeat (first | exact Ext.refl _ | (with_reducible assumption) | (with_reducible refine Ext.drew ?_) | (with_reducible refine Ext.alloc ?_ _) | (with_reducible refine Ext.drewN ?_ _) | (with_reducible refine Ext.setCell ?_ (by omega) _) | (with_reducible refine Ext.trans ?_ (by with_reducible assumption))))
  replace XX := XX.trans hy
  clear hx hy
  go_wp2_with fail
  (with_reducible refine (HC2.out _ _ hv).mono ?_)
  rintro e w27 ⟨rfl, hx⟩
  have hy : Ext w26 w27 := by (repeat (first | exact Ext.refl _ | (with_reducible assumption) | (with_reducible refine Ext.drew ?_) | (with_reducible refine Ext.alloc ?_ _) | (with_reducible refine Ext.drewN ?_ _) | (with_reducible refine Ext.setCell ?_ (by omega) _) | (with_reducible refine Ext.trans ?_ (by with_reducible assumption))))
  replace XX := XX.trans hy
  clear hx hy
  clear hv
  go_wp2_with fail
  (with_reducible refine (H2.out _).mono ?_)
  rintro e w28 ⟨v28, rfl, hv, hx⟩
  have hy : Ext w27 w28 := by (repeat (first | exact Ext.refl _ | (with_reducible assumption) | (with_reducible refine Ext.drew ?_) | (with_reducible refine Ext.alloc ?_ _) | (with_reducible refine Ext.drewN ?_ _) | (with_reducible refine Ext.setCell ?_ (by omega) _) | (with_reducible refine Ext.trans ?_ (by with_reducible assumption))))
  replace XX := XX.trans hy
  clear hx hy
  go_wp2_with fail
  (with_reducible refine (HL1.out _ _ hv).mono ?_)
  rintro e w29 ⟨rfl, hx⟩
  have hy : Ext w28 w29 := by (repeat (first | exact Ext.refl _ | (with_reducible assumption) | (with_reducible refine Ext.drew ?_) | (with_reducible refine Ext.alloc ?_ _) | (with_reducible refine Ext.drewN ?_ _) | (with_reducible refine Ext.setCell ?_ (by omega) _) | (with_reducible refine Ext.trans ?_ (by with_reducible assumption))))
  replace XX := XX.trans hy
  clear hx hy
  clear hv HC2 HL1
  have z0 : w.heap.size ≤ w29.heap.size := XX.size
  go_wp2_with fail
  (with_reducible refine (HY.out _).mono ?_)
  rintro e w30 ⟨F1, rfl, hm1, hx⟩
  have hy : Ext w29 w30 := by (repeat (first | exact Ext.refl _ | (with_reducible assumption) | (with_reducible refine Ext.drew ?_) | (with_reducible refine Ext.alloc ?_ _) | (with_reducible refine Ext.drewN ?_ _) | (with_reducible refine Ext.setCell ?_ (by omega) _) | (with_reducible refine Ext.trans ?_ (by with_reducible assumption))))
  replace XX := XX.trans hy
  clear hx hy
  have lo1 := hm1.lo
  have hi1 := hm1.hi
  go_wp2_with fail
  (with_reducible refine (HY.out _).mono ?_)
  rintro e w31 ⟨F2, rfl, hm2, hx⟩
  have hy : Ext w30 w31 := by (repeat (first | exact Ext.refl _ | (with_reducible assumption) | (with_reducible refine Ext.drew ?_) | (with_reducible refine Ext.alloc ?_ _) | (with_reducible refine Ext.drewN ?_ _) | (with_reducible refine Ext.setCell ?_ (by omega) _) | (with_reducible refine Ext.trans ?_ (by with_reducible assumption))))
  replace XX := XX.trans hy
  replace hm1 := hm1.ext hy
  clear hx hy
  have lo2 := hm2.lo
  have hi2 := hm2.hi
  go_wp2_with fail
  (with_reducible refine (HY.out _).mono ?_)
  rintro e w32 ⟨F3, rfl, hm3, hx⟩
  have hy : Ext w31 w32 := by (repeat (first | exact Ext.refl _ | (with_reducible assumption) | (with_reducible refine Ext.drew ?_) | (with_reducible refine Ext.alloc ?_ _) | (with_reducible refine Ext.drewN ?_ _) | (with_reducible refine Ext.setCell ?_ (by omega) _) | (with_reducible refine Ext.trans ?_ (by with_reducible assumption))))
  replace XX := XX.trans hy
  replace hm1 := hm1.ext hy
  replace hm2 := hm2.ext hy
  clear hx hy
  have lo3 := hm3.lo
  have hi3 := hm3.hi
  go_wp2_with fail
  (with_reducible refine (HY.out _).mono ?_)
  rintro e w33 ⟨F4, rfl, hm4, hx⟩
  have hy : Ext w32 w33 := by (repeat (first | exact Ext.refl _ | (with_reducible assumption) | (with_reducible refine Ext.drew ?_) | (with_reducible refine Ext.alloc ?_ _) | (with_reducible refine Ext.drewN ?_ _) | (with_reducible refine Ext.setCell ?_ (by omega) _) | (with_reducible refine Ext.trans ?_ (by with_reducible assumption))))
  replace XX := XX.trans hy
  replace hm1 := hm1.ext hy
  replace hm2 := hm2.ext hy
  replace hm3 := hm3.ext hy
  clear hx hy
  have lo4 := hm4.lo
  have hi4 := hm4.hi
  go_wp2_with fail
  (with_reducible refine (HY.out _).mono ?_)
  rintro e w34 ⟨F5, rfl, hm5, hx⟩
  have hy : Ext w33 w34 := by (repeat (first | exact Ext.refl _ | (with_reducible assumption) | (with_reducible refine Ext.drew ?_) | (with_reducible refine Ext.alloc ?_ _) | (with_reducible refine Ext.drewN ?_ _) | (with_reducible refine Ext.setCell ?_ (by omega) _) | (with_reducible refine Ext.trans ?_ (by with_reducible assumption))))
  replace XX := XX.trans hy
  replace hm1 := hm1.ext hy
  replace hm2 := hm2.ext hy
  replace hm3 := hm3.ext hy
  replace hm4 := hm4.ext hy
  clear hx hy
  have lo5 := hm5.lo
  have hi5 := hm5.hi
  go_wp2_with fail
  (with_reducible refine (HY.out _).mono ?_)
  rintro e w35 ⟨F6, rfl, hm6, hx⟩
  have hy : Ext w34 w35 := by (repeat (first | exact Ext.refl _ | (with_reducible assumption) | (with_reducible refine Ext.drew ?_) | (with_reducible refine Ext.alloc ?_ _) | (with_reducible refine Ext.drewN ?_ _) | (with_reducible refine Ext.setCell ?_ (by omega) _) | (with_reducible refine Ext.trans ?_ (by with_reducible assumption))))
  replace XX := XX.trans hy
  replace hm1 := hm1.ext hy
  replace hm2 := hm2.ext hy
  replace hm3 := hm3.ext hy
  replace hm4 := hm4.ext hy
  replace hm5 := hm5.ext hy
  clear hx hy
  have lo6 := hm6.lo
  have hi6 := hm6.hi
  go_wp2_with fail
  (with_reducible refine (HY.out _).mono ?_)
  rintro e w36 ⟨F7, rfl, hm7, hx⟩
  have hy : Ext w35 w36 := by (repeat (first | exact Ext.refl _ | (with_reducible assumption) | (with_reducible refine Ext.drew ?_) | (with_reducible refine Ext.alloc ?_ _) | (with_reducible refine Ext.drewN ?_ _) | (with_reducible refine Ext.setCell ?_ (by omega) _) | (with_reducible refine Ext.trans ?_ (by with_reducible assumption))))
  replace XX := XX.trans hy
  replace hm1 := hm1.ext hy
  replace hm2 := hm2.ext hy
  replace hm3 := hm3.ext hy
  replace hm4 := hm4.ext hy
  replace hm5 := hm5.ext hy
  replace hm6 := hm6.ext hy
  clear hx hy
  have lo7 := hm7.lo
  have hi7 := hm7.hi
  go_wp2_with fail
  (with_reducible refine (HY.out _).mono ?_)
  rintro e w37 ⟨F8, rfl, hm8, hx⟩
  have hy : Ext w36 w37 := by (repeat (first | exact Ext.refl _ | (with_reducible assumption) | (with_reducible refine Ext.drew ?_) | (with_reducible refine Ext.alloc ?_ _) | (with_reducible refine Ext.drewN ?_ _) | (with_reducible refine Ext.setCell ?_ (by omega) _) | (with_reducible refine Ext.trans ?_ (by with_reducible assumption))))
  replace XX := XX.trans hy
  replace hm1 := hm1.ext hy
  replace hm2 := hm2.ext hy
  replace hm3 := hm3.ext hy
  replace hm4 := hm4.ext hy
  replace hm5 := hm5.ext hy
  replace hm6 := hm6.ext hy
  replace hm7 := hm7.ext hy
  clear hx hy
  have lo8 := hm8.lo
  have hi8 := hm8.hi
  go_upto_region 12 with fail
  have YE : Ext w37 ((((((((w37.alloc (.cells #[.slice (some ⟨w29.heap.size + 6, 0, none⟩) 1 1, .int .i64 10, .int .i64 31, .slice (some ⟨F1, 0, none⟩) 2 2] 31)).alloc (.cells #[.slice (some ⟨w30.heap.size + 6, 0, none⟩) 1 1, .int .i64 10, .int .i64 31, .slice (some ⟨F2, 0, none⟩) 2 2] 31)).alloc (.cells #[.slice (some ⟨w31.heap.size + 6, 0, none⟩) 1 1, .int .i64 10, .int .i64 31, .slice (some ⟨F3, 0, none⟩) 2 2] 31)).alloc (.cells #[.slice (some ⟨w32.heap.size + 6, 0, none⟩) 1 1, .int .i64 10, .int .i64 31, .slice (some ⟨F4, 0, none⟩) 2 2] 31)).alloc (.cells #[.slice (some ⟨w33.heap.size + 6, 0, none⟩) 1 1, .int .i64 10, .int .i64 31, .slice (some ⟨F5, 0, none⟩) 2 2] 31)).alloc (.cells #[.slice (some ⟨w34.heap.size + 6, 0, none⟩) 1 1, .int .i64 10, .int .i64 31, .slice (some ⟨F6, 0, none⟩) 2 2] 31)).alloc (.cells #[.slice (some ⟨w35.heap.size + 6, 0, none⟩) 1 1, .int .i64 10, .int .i64 31, .slice (some ⟨F7, 0, none⟩) 2 2] 31)).alloc (.cells #[.slice (some ⟨w36.heap.size + 6, 0, none⟩) 1 1, .int .i64 10, .int .i64 31, .slice (some ⟨F8, 0, none⟩) 2 2] 31)) := by (repeat (first | exact Ext.refl _ | (with_reducible assumption) | (with_reducible refine Ext.drew ?_) | (with_reducible refine Ext.alloc ?_ _) | (with_reducible refine Ext.drewN ?_ _) | (with_reducible refine Ext.setCell ?_ (by omega) _) | (with_reducible refine Ext.trans ?_ (by with_reducible assumption))))
  have C1 : CB (w37.heap.size) w29.heap.size F1 [.slice (some ⟨w29.heap.size + 6, 0, none⟩) 1 1, .int .i64 10, .int .i64 31, .slice (some ⟨F1, 0, none⟩) 2 2] 0 (twoA.c.l ++ twoB.c.l) ((((((((w37.alloc (.cells #[.slice (some ⟨w29.heap.size + 6, 0, none⟩) 1 1, .int .i64 10, .int .i64 31, .slice (some ⟨F1, 0, none⟩) 2 2] 31)).alloc (.cells #[.slice (some ⟨w30.heap.size + 6, 0, none⟩) 1 1, .int .i64 10, .int .i64 31, .slice (some ⟨F2, 0, none⟩) 2 2] 31)).alloc (.cells #[.slice (some ⟨w31.heap.size + 6, 0, none⟩) 1 1, .int .i64 10, .int .i64 31, .slice (some ⟨F3, 0, none⟩) 2 2] 31)).alloc (.cells #[.slice (some ⟨w32.heap.size + 6, 0, none⟩) 1 1, .int .i64 10, .int .i64 31, .slice (some ⟨F4, 0, none⟩) 2 2] 31)).alloc (.cells #[.slice (some ⟨w33.heap.size + 6, 0, none⟩) 1 1, .int .i64 10, .int .i64 31, .slice (some ⟨F5, 0, none⟩) 2 2] 31)).alloc (.cells #[.slice (some ⟨w34.heap.size + 6, 0, none⟩) 1 1, .int .i64 10, .int .i64 31, .slice (some ⟨F6, 0, none⟩) 2 2] 31)).alloc (.cells #[.slice (some ⟨w35.heap.size + 6, 0, none⟩) 1 1, .int .i64 10, .int .i64 31, .slice (some ⟨F7, 0, none⟩) 2 2] 31)).alloc (.cells #[.slice (some ⟨w36.heap.size + 6, 0, none⟩) 1 1, .int .i64 10, .int .i64 31, .slice (some ⟨F8, 0, none⟩) 2 2] 31)) := ⟨hm1.ext YE, fun j v hj => by
    rcases j with _ | _ | _ | _ | j
    · cases hj; simp [go_sem]
    · cases hj; simp [go_sem]
    · cases hj; simp [go_sem]
    · cases hj; simp [go_sem]
    · simp at hj, fun o => by simp [go_sem], by omega, by simp [go_sem]⟩
  have C2 : CB (w37.heap.size + 1) w30.heap.size F2 [.slice (some ⟨w30.heap.size + 6, 0, none⟩) 1 1, .int .i64 10, .int .i64 31, .slice (some ⟨F2, 0, none⟩) 2 2] 0 (twoA.c.l ++ twoB.c.l) ((((((((w37.alloc (.cells #[.slice (some ⟨w29.heap.size + 6, 0, none⟩) 1 1, .int .i64 10, .int .i64 31, .slice (some ⟨F1, 0, none⟩) 2 2] 31)).alloc (.cells #[.slice (some ⟨w30.heap.size + 6, 0, none⟩) 1 1, .int .i64 10, .int .i64 31, .slice (some ⟨F2, 0, none⟩) 2 2] 31)).alloc (.cells #[.slice (some ⟨w31.heap.size + 6, 0, none⟩) 1 1, .int .i64 10, .int .i64 31, .slice (some ⟨F3, 0, none⟩) 2 2] 31)).alloc (.cells #[.slice (some ⟨w32.heap.size + 6, 0, none⟩) 1 1, .int .i64 10, .int .i64 31, .slice (some ⟨F4, 0, none⟩) 2 2] 31)).alloc (.cells #[.slice (some ⟨w33.heap.size + 6, 0, none⟩) 1 1, .int .i64 10, .int .i64 31, .slice (some ⟨F5, 0, none⟩) 2 2] 31)).alloc (.cells #[.slice (some ⟨w34.heap.size + 6, 0, none⟩) 1 1, .int .i64 10, .int .i64 31, .slice (some ⟨F6, 0, none⟩) 2 2] 31)).alloc (.cells #[.slice (some ⟨w35.heap.size + 6, 0, none⟩) 1 1, .int .i64 10, .int .i64 31, .slice (some ⟨F7, 0, none⟩) 2 2] 31)).alloc (.cells #[.slice (some ⟨w36.heap.size + 6, 0, none⟩) 1 1, .int .i64 10, .int .i64 31, .slice (some ⟨F8, 0, none⟩) 2 2] 31)) := ⟨hm2.ext YE, fun j v hj => by
    rcases j with _ | _ | _ | _ | j
    · cases hj; simp [go_sem]
    · cases hj; simp [go_sem]
    · cases hj; simp [go_sem]
    · cases hj; simp [go_sem]
    · simp at hj, fun o => by simp [go_sem], by omega, by simp [go_sem]⟩
  have C3 : CB (w37.heap.size + 1 + 1) w31.heap.size F3 [.slice (some ⟨w31.heap.size + 6, 0, none⟩) 1 1, .int .i64 10, .int .i64 31, .slice (some ⟨F3, 0, none⟩) 2 2] 0 (twoA.c.l ++ twoB.c.l) ((((((((w37.alloc (.cells #[.slice (some ⟨w29.heap.size + 6, 0, none⟩) 1 1, .int .i64 10, .int .i64 31, .slice (some ⟨F1, 0, none⟩) 2 2] 31)).alloc (.cells #[.slice (some ⟨w30.heap.size + 6, 0, none⟩) 1 1, .int .i64 10, .int .i64 31, .slice (some ⟨F2, 0, none⟩) 2 2] 31)).alloc (.cells #[.slice (some ⟨w31.heap.size + 6, 0, none⟩) 1 1, .int .i64 10, .int .i64 31, .slice (some ⟨F3, 0, none⟩) 2 2] 31)).alloc (.cells #[.slice (some ⟨w32.heap.size + 6, 0, none⟩) 1 1, .int .i64 10, .int .i64 31, .slice (some ⟨F4, 0, none⟩) 2 2] 31)).alloc (.cells #[.slice (some ⟨w33.heap.size + 6, 0, none⟩) 1 1, .int .i64 10, .int .i64 31, .slice (some ⟨F5, 0, none⟩) 2 2] 31)).alloc (.cells #[.slice (some ⟨w34.heap.size + 6, 0, none⟩) 1 1, .int .i64 10, .int .i64 31, .slice (some ⟨F6, 0, none⟩) 2 2] 31)).alloc (.cells #[.slice (some ⟨w35.heap.size + 6, 0, none⟩) 1 1, .int .i64 10, .int .i64 31, .slice (some ⟨F7, 0, none⟩) 2 2] 31)).alloc (.cells #[.slice (some ⟨w36.heap.size + 6, 0, none⟩) 1 1, .int .i64 10, .int .i64 31, .slice (some ⟨F8, 0, none⟩) 2 2] 31)) := ⟨hm3.ext YE, fun j v hj => by
    rcases j with _ | _ | _ | _ | j
    · cases hj; simp [go_sem]
    · cases hj; simp [go_sem]
    · cases hj; simp [go_sem]
    · cases hj; simp [go_sem]
    · simp at hj, fun o => by simp [go_sem], by omega, by simp [go_sem]⟩
  have C4 : CB (w37.heap.size + 1 + 1 + 1) w32.heap.size F4 [.slice (some ⟨w32.heap.size + 6, 0, none⟩) 1 1, .int .i64 10, .int .i64 31, .slice (some ⟨F4, 0, none⟩) 2 2] 0 (twoA.c.l ++ twoB.c.l) ((((((((w37.alloc (.cells #[.slice (some ⟨w29.heap.size + 6, 0, none⟩) 1 1, .int .i64 10, .int .i64 31, .slice (some ⟨F1, 0, none⟩) 2 2] 31)).alloc (.cells #[.slice (some ⟨w30.heap.size + 6, 0, none⟩) 1 1, .int .i64 10, .int .i64 31, .slice (some ⟨F2, 0, none⟩) 2 2] 31)).alloc (.cells #[.slice (some ⟨w31.heap.size + 6, 0, none⟩) 1 1, .int .i64 10, .int .i64 31, .slice (some ⟨F3, 0, none⟩) 2 2] 31)).alloc (.cells #[.slice (some ⟨w32.heap.size + 6, 0, none⟩) 1 1, .int .i64 10, .int .i64 31, .slice (some ⟨F4, 0, none⟩) 2 2] 31)).alloc (.cells #[.slice (some ⟨w33.heap.size + 6, 0, none⟩) 1 1, .int .i64 10, .int .i64 31, .slice (some ⟨F5, 0, none⟩) 2 2] 31)).alloc (.cells #[.slice (some ⟨w34.heap.size + 6, 0, none⟩) 1 1, .int .i64 10, .int .i64 31, .slice (some ⟨F6, 0, none⟩) 2 2] 31)).alloc (.cells #[.slice (some ⟨w35.heap.size + 6, 0, none⟩) 1 1, .int .i64 10, .int .i64 31, .slice (some ⟨F7, 0, none⟩) 2 2] 31)).alloc (.cells #[.slice (some ⟨w36.heap.size + 6, 0, none⟩) 1 1, .int .i64 10, .int .i64 31, .slice (some ⟨F8, 0, none⟩) 2 2] 31)) := ⟨hm4.ext YE, fun j v hj => by
    rcases j with _ | _ | _ | _ | j
    · cases hj; simp [go_sem]
    · cases hj; simp [go_sem]
    · cases hj; simp [go_sem]
    · cases hj; simp [go_sem]
    · simp at hj, fun o => by simp [go_sem], by omega, by simp [go_sem]⟩
  have C5 : CB (w37.heap.size + 1 + 1 + 1 + 1) w33.heap.size F5 [.slice (some ⟨w33.heap.size + 6, 0, none⟩) 1 1, .int .i64 10, .int .i64 31, .slice (some ⟨F5, 0, none⟩) 2 2] 0 (twoA.c.l ++ twoB.c.l) ((((((((w37.alloc (.cells #[.slice (some ⟨w29.heap.size + 6, 0, none⟩) 1 1, .int .i64 10, .int .i64 31, .slice (some ⟨F1, 0, none⟩) 2 2] 31)).alloc (.cells #[.slice (some ⟨w30.heap.size + 6, 0, none⟩) 1 1, .int .i64 10, .int .i64 31, .slice (some ⟨F2, 0, none⟩) 2 2] 31)).alloc (.cells #[.slice (some ⟨w31.heap.size + 6, 0, none⟩) 1 1, .int .i64 10, .int .i64 31, .slice (some ⟨F3, 0, none⟩) 2 2] 31)).alloc (.cells #[.slice (some ⟨w32.heap.size + 6, 0, none⟩) 1 1, .int .i64 10, .int .i64 31, .slice (some ⟨F4, 0, none⟩) 2 2] 31)).alloc (.cells #[.slice (some ⟨w33.heap.size + 6, 0, none⟩) 1 1, .int .i64 10, .int .i64 31, .slice (some ⟨F5, 0, none⟩) 2 2] 31)).alloc (.cells #[.slice (some ⟨w34.heap.size + 6, 0, none⟩) 1 1, .int .i64 10, .int .i64 31, .slice (some ⟨F6, 0, none⟩) 2 2] 31)).alloc (.cells #[.slice (some ⟨w35.heap.size + 6, 0, none⟩) 1 1, .int .i64 10, .int .i64 31, .slice (some ⟨F7, 0, none⟩) 2 2] 31)).alloc (.cells #[.slice (some ⟨w36.heap.size + 6, 0, none⟩) 1 1, .int .i64 10, .int .i64 31, .slice (some ⟨F8, 0, none⟩) 2 2] 31)) := ⟨hm5.ext YE, fun j v hj => by
    rcases j with _ | _ | _ | _ | j
    · cases hj; simp [go_sem]
    · cases hj; simp [go_sem]
    · cases hj; simp [go_sem]
    · cases hj; simp [go_sem]
    · simp at hj, fun o => by simp [go_sem], by omega, by simp [go_sem]⟩
  have C6 : CB (w37.heap.size + 1 + 1 + 1 + 1 + 1) w34.heap.size F6 [.slice (some ⟨w34.heap.size + 6, 0, none⟩) 1 1, .int .i64 10, .int .i64 31, .slice (some ⟨F6, 0, none⟩) 2 2] 0 (twoA.c.l ++ twoB.c.l) ((((((((w37.alloc (.cells #[.slice (some ⟨w29.heap.size + 6, 0, none⟩) 1 1, .int .i64 10, .int .i64 31, .slice (some ⟨F1, 0, none⟩) 2 2] 31)).alloc (.cells #[.slice (some ⟨w30.heap.size + 6, 0, none⟩) 1 1, .int .i64 10, .int .i64 31, .slice (some ⟨F2, 0, none⟩) 2 2] 31)).alloc (.cells #[.slice (some ⟨w31.heap.size + 6, 0, none⟩) 1 1, .int .i64 10, .int .i64 31, .slice (some ⟨F3, 0, none⟩) 2 2] 31)).alloc (.cells #[.slice (some ⟨w32.heap.size + 6, 0, none⟩) 1 1, .int .i64 10, .int .i64 31, .slice (some ⟨F4, 0, none⟩) 2 2] 31)).alloc (.cells #[.slice (some ⟨w33.heap.size + 6, 0, none⟩) 1 1, .int .i64 10, .int .i64 31, .slice (some ⟨F5, 0, none⟩) 2 2] 31)).alloc (.cells #[.slice (some ⟨w34.heap.size + 6, 0, none⟩) 1 1, .int .i64 10, .int .i64 31, .slice (some ⟨F6, 0, none⟩) 2 2] 31)).alloc (.cells #[.slice (some ⟨w35.heap.size + 6, 0, none⟩) 1 1, .int .i64 10, .int .i64 31, .slice (some ⟨F7, 0, none⟩) 2 2] 31)).alloc (.cells #[.slice (some ⟨w36.heap.size + 6, 0, none⟩) 1 1, .int .i64 10, .int .i64 31, .slice (some ⟨F8, 0, none⟩) 2 2] 31)) := ⟨hm6.ext YE, fun j v hj => by
    rcases j with _ | _ | _ | _ | j
    · cases hj; simp [go_sem]
    · cases hj; simp [go_sem]
    · cases hj; simp [go_sem]
    · cases hj; simp [go_sem]
    · simp at hj, fun o => by simp [go_sem], by omega, by simp [go_sem]⟩
  have C7 : CB (w37.heap.size + 1 + 1 + 1 + 1 + 1 + 1) w35.heap.size F7 [.slice (some ⟨w35.heap.size + 6, 0, none⟩) 1 1, .int .i64 10, .int .i64 31, .slice (some ⟨F7, 0, none⟩) 2 2] 0 (twoA.c.l ++ twoB.c.l) ((((((((w37.alloc (.cells #[.slice (some ⟨w29.heap.size + 6, 0, none⟩) 1 1, .int .i64 10, .int .i64 31, .slice (some ⟨F1, 0, none⟩) 2 2] 31)).alloc (.cells #[.slice (some ⟨w30.heap.size + 6, 0, none⟩) 1 1, .int .i64 10, .int .i64 31, .slice (some ⟨F2, 0, none⟩) 2 2] 31)).alloc (.cells #[.slice (some ⟨w31.heap.size + 6, 0, none⟩) 1 1, .int .i64 10, .int .i64 31, .slice (some ⟨F3, 0, none⟩) 2 2] 31)).alloc (.cells #[.slice (some ⟨w32.heap.size + 6, 0, none⟩) 1 1, .int .i64 10, .int .i64 31, .slice (some ⟨F4, 0, none⟩) 2 2] 31)).alloc (.cells #[.slice (some ⟨w33.heap.size + 6, 0, none⟩) 1 1, .int .i64 10, .int .i64 31, .slice (some ⟨F5, 0, none⟩) 2 2] 31)).alloc (.cells #[.slice (some ⟨w34.heap.size + 6, 0, none⟩) 1 1, .int .i64 10, .int .i64 31, .slice (some ⟨F6, 0, none⟩) 2 2] 31)).alloc (.cells #[.slice (some ⟨w35.heap.size + 6, 0, none⟩) 1 1, .int .i64 10, .int .i64 31, .slice (some ⟨F7, 0, none⟩) 2 2] 31)).alloc (.cells #[.slice (some ⟨w36.heap.size + 6, 0, none⟩) 1 1, .int .i64 10, .int .i64 31, .slice (some ⟨F8, 0, none⟩) 2 2] 31)) := ⟨hm7.ext YE, fun j v hj => by
    rcases j with _ | _ | _ | _ | j
    · cases hj; simp [go_sem]
    · cases hj; simp [go_sem]
    · cases hj; simp [go_sem]
    · cases hj; simp [go_sem]
    · simp at hj, fun o => by simp [go_sem], by omega, by simp [go_sem]⟩
  have C8 : CB (w37.heap.size + 1 + 1 + 1 + 1 + 1 + 1 + 1) w36.heap.size F8 [.slice (some ⟨w36.heap.size + 6, 0, none⟩) 1 1, .int .i64 10, .int .i64 31, .slice (some ⟨F8, 0, none⟩) 2 2] 0 (twoA.c.l ++ twoB.c.l) ((((((((w37.alloc (.cells #[.slice (some ⟨w29.heap.size + 6, 0, none⟩) 1 1, .int .i64 10, .int .i64 31, .slice (some ⟨F1, 0, none⟩) 2 2] 31)).alloc (.cells #[.slice (some ⟨w30.heap.size + 6, 0, none⟩) 1 1, .int .i64 10, .int .i64 31, .slice (some ⟨F2, 0, none⟩) 2 2] 31)).alloc (.cells #[.slice (some ⟨w31.heap.size + 6, 0, none⟩) 1 1, .int .i64 10, .int .i64 31, .slice (some ⟨F3, 0, none⟩) 2 2] 31)).alloc (.cells #[.slice (some ⟨w32.heap.size + 6, 0, none⟩) 1 1, .int .i64 10, .int .i64 31, .slice (some ⟨F4, 0, none⟩) 2 2] 31)).alloc (.cells #[.slice (some ⟨w33.heap.size + 6, 0, none⟩) 1 1, .int .i64 10, .int .i64 31, .slice (some ⟨F5, 0, none⟩) 2 2] 31)).alloc (.cells #[.slice (some ⟨w34.heap.size + 6, 0, none⟩) 1 1, .int .i64 10, .int .i64 31, .slice (some ⟨F6, 0, none⟩) 2 2] 31)).alloc (.cells #[.slice (some ⟨w35.heap.size + 6, 0, none⟩) 1 1, .int .i64 10, .int .i64 31, .slice (some ⟨F7, 0, none⟩) 2 2] 31)).alloc (.cells #[.slice (some ⟨w36.heap.size + 6, 0, none⟩) 1 1, .int .i64 10, .int .i64 31, .slice (some ⟨F8, 0, none⟩) 2 2] 31)) := ⟨hm8.ext YE, fun j v hj => by
    rcases j with _ | _ | _ | _ | j
    · cases hj; simp [go_sem]
    · cases hj; simp [go_sem]
    · cases hj; simp [go_sem]
    · cases hj; simp [go_sem]
    · simp at hj, fun o => by simp [go_sem], by omega, by simp [go_sem]⟩
  replace XX := XX.trans YE
  clear hm1 hm2 hm3 hm4 hm5 hm6 hm7 hm8 YE
  generalize ((((((((w37.alloc (.cells #[.slice (some ⟨w29.heap.size + 6, 0, none⟩) 1 1, .int .i64 10, .int .i64 31, .slice (some ⟨F1, 0, none⟩) 2 2] 31)).alloc (.cells #[.slice (some ⟨w30.heap.size + 6, 0, none⟩) 1 1, .int .i64 10, .int .i64 31, .slice (some ⟨F2, 0, none⟩) 2 2] 31)).alloc (.cells #[.slice (some ⟨w31.heap.size + 6, 0, none⟩) 1 1, .int .i64 10, .int .i64 31, .slice (some ⟨F3, 0, none⟩) 2 2] 31)).alloc (.cells #[.slice (some ⟨w32.heap.size + 6, 0, none⟩) 1 1, .int .i64 10, .int .i64 31, .slice (some ⟨F4, 0, none⟩) 2 2] 31)).alloc (.cells #[.slice (some ⟨w33.heap.size + 6, 0, none⟩) 1 1, .int .i64 10, .int .i64 31, .slice (some ⟨F5, 0, none⟩) 2 2] 31)).alloc (.cells #[.slice (some ⟨w34.heap.size + 6, 0, none⟩) 1 1, .int .i64 10, .int .i64 31, .slice (some ⟨F6, 0, none⟩) 2 2] 31)).alloc (.cells #[.slice (some ⟨w35.heap.size + 6, 0, none⟩) 1 1, .int .i64 10, .int .i64 31, .slice (some ⟨F7, 0, none⟩) 2 2] 31)).alloc (.cells #[.slice (some ⟨w36.heap.size + 6, 0, none⟩) 1 1, .int .i64 10, .int .i64 31, .slice (some ⟨F8, 0, none⟩) 2 2] 31)) = W0 at *
  generalize w29.heap.size = b1 at *
  generalize w30.heap.size = b2 at *
  generalize w31.heap.size = b3 at *
  generalize w32.heap.size = b4 at *
  generalize w33.heap.size = b5 at *
  generalize w34.heap.size = b6 at *
  generalize w35.heap.size = b7 at *
  generalize w36.heap.size = b8 at *
  generalize w37.heap.size = n at *
  have HC1 := Lib.hid C1
  have HC2 := Lib.hid C2
  have HC3 := Lib.hid C3
  have HC4 := Lib.hid C4
  have HC5 := Lib.hid C5
  have HC6 := Lib.hid C6
  have HC7 := Lib.hid C7
  have HC8 := Lib.hid C8
  clear C1 C2 C3 C4 C5 C6 C7 C8
  have y := HC1.out
  have yb := y.fb
  have x0 := y.u 1 _ rfl
  clear y
  go_upto_region 13 with fail
  clear x0 yb
  have hkp : KP (fun j => j = n) W0 ((W0.setCell ⟨n, 1, none⟩ (.int .i64 121))) := KP.setCell (p := fun j => j = n) (KP.refl _) rfl _
  replace HC2 := Lib.hid (HC2.out.kp hkp (by omega) (by omega) (by omega))
  replace HC3 := Lib.hid (HC3.out.kp hkp (by omega) (by omega) (by omega))
  replace HC4 := Lib.hid (HC4.out.kp hkp (by omega) (by omega) (by omega))
  replace HC5 := Lib.hid (HC5.out.kp hkp (by omega) (by omega) (by omega))
  replace HC6 := Lib.hid (HC6.out.kp hkp (by omega) (by omega) (by omega))
  replace HC7 := Lib.hid (HC7.out.kp hkp (by omega) (by omega) (by omega))
  replace HC8 := Lib.hid (HC8.out.kp hkp (by omega) (by omega) (by omega))
  have HCN : Hid (CB (n) b1 F1 [.slice (some ⟨b1 + 6, 0, none⟩) 1 1, .int .i64 121, .int .i64 31, .slice (some ⟨F1, 0, none⟩) 2 2] 0 (twoA.c.l ++ twoB.c.l) (W0.setCell ⟨n, 1, none⟩ (.int .i64 121))) := Lib.hid (CB.box (HC1.out) 1 _)
  clear HC1
  have HC1 := HCN
  clear HCN hkp
  replace XX := Ext.setCell XX (R := n) (o := 1) (by omega) (.int .i64 121)
  generalize (W0.setCell ⟨n, 1, none⟩ (.int .i64 121)) = W1 at *
  have y := HC2.out
  have yb := y.fb
  have x0 := y.u 2 _ rfl
  clear y
  go_upto_region 14 with fail
  clear x0 yb
  have hkp : KP (fun j => j = n + 1) W1 ((W1.setCell ⟨n + 1, 2, none⟩ (.int .i64 10001))) := KP.setCell (p := fun j => j = n + 1) (KP.refl _) rfl _
  replace HC1 := Lib.hid (HC1.out.kp hkp (by omega) (by omega) (by omega))
  replace HC3 := Lib.hid (HC3.out.kp hkp (by omega) (by omega) (by omega))
  replace HC4 := Lib.hid (HC4.out.kp hkp (by omega) (by omega) (by omega))
  replace HC5 := Lib.hid (HC5.out.kp hkp (by omega) (by omega) (by omega))
  replace HC6 := Lib.hid (HC6.out.kp hkp (by omega) (by omega) (by omega))
  replace HC7 := Lib.hid (HC7.out.kp hkp (by omega) (by omega) (by omega))
  replace HC8 := Lib.hid (HC8.out.kp hkp (by omega) (by omega) (by omega))
  have HCN : Hid (CB (n + 1) b2 F2 [.slice (some ⟨b2 + 6, 0, none⟩) 1 1, .int .i64 10, .int .i64 10001, .slice (some ⟨F2, 0, none⟩) 2 2] 0 (twoA.c.l ++ twoB.c.l) (W1.setCell ⟨n + 1, 2, none⟩ (.int .i64 10001))) := Lib.hid (CB.box (HC2.out) 2 _)
  clear HC2
  have HC2 := HCN
  clear HCN hkp
  replace XX := Ext.setCell XX (R := n + 1) (o := 2) (by omega) (.int .i64 10001)
  generalize (W1.setCell ⟨n + 1, 2, none⟩ (.int .i64 10001)) = W2 at *
  have y := HC3.out
  have yb := y.fb
  have ys := y.u 3 _ rfl
  have yf := y.m.ff
  have x0 := y.m.c 2 _ rfl
  clear y
  go_upto_region 15 with fail
  clear x0 yb ys yf
  have hkp : KP (fun j => j = F3) W2 ((W2.setCell ⟨F3, 2, none⟩ (.int .i64 101))) := KP.setCell (p := fun j => j = F3) (KP.refl _) rfl _
  replace HC1 := Lib.hid (HC1.out.kp hkp (by omega) (by omega) (by omega))
  replace HC2 := Lib.hid (HC2.out.kp hkp (by omega) (by omega) (by omega))
  replace HC4 := Lib.hid (HC4.out.kp hkp (by omega) (by omega) (by omega))
  replace HC5 := Lib.hid (HC5.out.kp hkp (by omega) (by omega) (by omega))
  replace HC6 := Lib.hid (HC6.out.kp hkp (by omega) (by omega) (by omega))
  replace HC7 := Lib.hid (HC7.out.kp hkp (by omega) (by omega) (by omega))
  replace HC8 := Lib.hid (HC8.out.kp hkp (by omega) (by omega) (by omega))
  have HCN : Hid (CB (n + 1 + 1) b3 F3 [.slice (some ⟨b3 + 6, 0, none⟩) 1 1, .int .i64 10, .int .i64 31, .slice (some ⟨F3, 0, none⟩) 2 2] 0 (nearA.c.l ++ twoB.c.l) (W2.setCell ⟨F3, 2, none⟩ (.int .i64 101))) := Lib.hid (CB.fld (HC3.out) 2 _)
  clear HC3
  have HC3 := HCN
  clear HCN hkp
  replace XX := Ext.setCell XX (R := F3) (o := 2) (by omega) (.int .i64 101)
  generalize (W2.setCell ⟨F3, 2, none⟩ (.int .i64 101)) = W3 at *
  have HS15 : Hid (∀ w', KP (fun j => j = F4) W3 w' → w'.cell? ⟨n + 1 + 1 + 1, 3, none⟩ = some (.slice (some ⟨F4, 0, none⟩) 2 2) ∧ KP (fun j => j = F4) W3 w') := Lib.hid (fun w' hk => ⟨hk.keep (by have := HC4.out.lo; intro e; have e' : _ = F4 := e; omega) (HC4.out.u 3 _ rfl), hk⟩)
  refine wp_region_held_drew (S := fun w' => w'.cell? ⟨n + 1 + 1 + 1, 3, none⟩ = some (.slice (some ⟨F4, 0, none⟩) 2 2) ∧ KP (fun j => j = F4) W3 w') (by kernel_rfl) ?_ (fun hHeld => ?_)
  focus ((try dsimp only); exact HS15.out _ (KP.refl _).drew)
  refine wpAnyH_take (i := 0) (v := ?_) rfl (by kernel_rfl) (by decide +kernel) (by decide +kernel) (fun _ _ _ h => h) (Or.inl ⟨by rfl, ?_⟩) (by assumption) ?_
  rotate_left
  focus (intro w hSw; (try dsimp only at hSw); go_simp; try (first | (with_reducible rfl) | (with_reducible exact rfl)))
  (try simp only [Act.put, List.getElem_toArray, List.getElem_cons_succ, List.getElem_cons_zero, List.setIfInBounds_toArray, List.set_cons_zero, List.set_cons_succ])
  refine wpAnyH_take (i := 1) (v := ?_) rfl (by kernel_rfl) (by decide +kernel) (by decide +kernel) (fun _ _ _ h => h) (Or.inl ⟨by rfl, ?_⟩) (by assumption) ?_
  rotate_left
  focus (intro w hSw; (try dsimp only at hSw); go_simp; try (first | (with_reducible rfl) | (with_reducible exact rfl)))
  (try simp only [Act.put, List.getElem_toArray, List.getElem_cons_succ, List.getElem_cons_zero, List.setIfInBounds_toArray, List.set_cons_zero, List.set_cons_succ])
  refine wpAnyH_ready (rs := [2]) (by decide +kernel) (by simp) ?_
  refine AllReadyH.cons rfl (fun K hK => ?_) AllReadyH.nil
  go_simp
  (with_reducible refine (HB.out _ _ _).mono ?_)
  rintro e wb ⟨rfl, hxb⟩
  (try go_simp)
  have hxb' : Ext W3 wb := (Ext.refl W3).drew.trans hxb
  refine hK.out _ _ ?_ (fun hNew => ?_)
  focus ((try dsimp only); exact HS15.out _ hxb'.kp)
  clear hK K hHeld
  have hHeld := hNew
  clear hNew
  (try simp only [Act.put, List.getElem_toArray, List.getElem_cons_succ, List.getElem_cons_zero, List.setIfInBounds_toArray, List.set_cons_zero, List.set_cons_succ])
  refine wpAnyH_take (i := 3) (v := ?_) rfl (by kernel_rfl) (by decide +kernel) (by decide +kernel) (fun _ _ _ h => h) (Or.inl ⟨by rfl, ?_⟩) (by assumption) ?_
  rotate_left
  focus (intro w hSw; (try dsimp only at hSw); go_simp; try (first | (with_reducible rfl) | (with_reducible exact rfl)))
  (try simp only [Act.put, List.getElem_toArray, List.getElem_cons_succ, List.getElem_cons_zero, List.setIfInBounds_toArray, List.set_cons_zero, List.set_cons_succ])
  refine wpAnyH_take (i := 4) (v := ?_) rfl (by kernel_rfl) (by decide +kernel) (by decide +kernel) (fun _ _ _ h => h) (Or.inl ⟨by rfl, ?_⟩) (by assumption) ?_
  rotate_left
  focus (intro w hSw; (try dsimp only at hSw); go_simp; try (first | (with_reducible rfl) | (with_reducible exact rfl)))
  (try simp only [Act.put, List.getElem_toArray, List.getElem_cons_succ, List.getElem_cons_zero, List.setIfInBounds_toArray, List.set_cons_zero, List.set_cons_succ])
  replace HC1 := Lib.hid (HC1.out.ext hxb')
  replace HC2 := Lib.hid (HC2.out.ext hxb')
  replace HC3 := Lib.hid (HC3.out.ext hxb')
  replace HC4 := Lib.hid (HC4.out.ext hxb')
  replace HC5 := Lib.hid (HC5.out.ext hxb')
  replace HC6 := Lib.hid (HC6.out.ext hxb')
  replace HC7 := Lib.hid (HC7.out.ext hxb')
  replace HC8 := Lib.hid (HC8.out.ext hxb')
  replace XX := XX.trans hxb'
  have x0 := HC4.out.m.c 7 _ rfl
  have x1 := HC4.out.m.c 8 _ rfl
  have yf := HC4.out.m.ff
  refine wpAnyH_ready (rs := [5]) (by decide +kernel) (by simp) ?_
  refine AllReadyH.cons rfl (fun K hK => ?_) AllReadyH.nil
  go_simp
  refine hK.out _ _ ?_ (fun hNew => ?_)
  focus ((try dsimp only); exact HS15.out _ (KP.setCell (p := fun j => j = F4) (KP.setCell (p := fun j => j = F4) hxb'.kp rfl _) rfl _))
  clear hK K hHeld hNew HS15
  (try simp only [Act.put, List.getElem_toArray, List.getElem_cons_succ, List.getElem_cons_zero, List.setIfInBounds_toArray, List.set_cons_zero, List.set_cons_succ])
  refine wpAnyH_done (by decide +kernel) ?_ _
  clear x0 x1 yf hxb hxb'
  go_upto_region 16 with fail
  have hkp : KP (fun j => j = F4) wb (((wb.setCell ⟨F4, 7, none⟩ (.int .i64 30)).setCell ⟨F4, 8, none⟩ (.int .i64 35))) := KP.setCell (p := fun j => j = F4) (KP.setCell (p := fun j => j = F4) (KP.refl _) rfl _) rfl _
  replace HC1 := Lib.hid (HC1.out.kp hkp (by omega) (by omega) (by omega))
  replace HC2 := Lib.hid (HC2.out.kp hkp (by omega) (by omega) (by omega))
  replace HC3 := Lib.hid (HC3.out.kp hkp (by omega) (by omega) (by omega))
  replace HC5 := Lib.hid (HC5.out.kp hkp (by omega) (by omega) (by omega))
  replace HC6 := Lib.hid (HC6.out.kp hkp (by omega) (by omega) (by omega))
  replace HC7 := Lib.hid (HC7.out.kp hkp (by omega) (by omega) (by omega))
  replace HC8 := Lib.hid (HC8.out.kp hkp (by omega) (by omega) (by omega))
  have HCN : Hid (CB (n + 1 + 1 + 1) b4 F4 [.slice (some ⟨b4 + 6, 0, none⟩) 1 1, .int .i64 10, .int .i64 31, .slice (some ⟨F4, 0, none⟩) 2 2] 0 (wideA.c.l ++ twoB.c.l) ((wb.setCell ⟨F4, 7, none⟩ (.int .i64 30)).setCell ⟨F4, 8, none⟩ (.int .i64 35))) := Lib.hid (CB.fld (CB.fld HC4.out 7 _) 8 _)
  clear HC4
  have HC4 := HCN
  clear HCN hkp
  replace XX := Ext.setCell XX (R := F4) (o := 7) (by omega) (.int .i64 30)
  replace XX := Ext.setCell XX (R := F4) (o := 8) (by omega) (.int .i64 35)
  generalize ((wb.setCell ⟨F4, 7, none⟩ (.int .i64 30)).setCell ⟨F4, 8, none⟩ (.int .i64 35)) = W4 at *
  have y := HC5.out
  have yb := y.fb
  have ys := y.u 3 _ rfl
  have yf := y.m.ff
  have x0 := y.m.c 9 _ rfl
  clear y
  go_upto_region 17 with fail
  clear x0 yb ys yf
  have hkp : KP (fun j => j = F5) W4 ((W4.setCell ⟨F5, 9, none⟩ (.int .i64 1))) := KP.setCell (p := fun j => j = F5) (KP.refl _) rfl _
  replace HC1 := Lib.hid (HC1.out.kp hkp (by omega) (by omega) (by omega))
  replace HC2 := Lib.hid (HC2.out.kp hkp (by omega) (by omega) (by omega))
  replace HC3 := Lib.hid (HC3.out.kp hkp (by omega) (by omega) (by omega))
  replace HC4 := Lib.hid (HC4.out.kp hkp (by omega) (by omega) (by omega))
  replace HC6 := Lib.hid (HC6.out.kp hkp (by omega) (by omega) (by omega))
  replace HC7 := Lib.hid (HC7.out.kp hkp (by omega) (by omega) (by omega))
  replace HC8 := Lib.hid (HC8.out.kp hkp (by omega) (by omega) (by omega))
  have HCN : Hid (CB (n + 1 + 1 + 1 + 1) b5 F5 [.slice (some ⟨b5 + 6, 0, none⟩) 1 1, .int .i64 10, .int .i64 31, .slice (some ⟨F5, 0, none⟩) 2 2] 0 (twoA.c.l ++ cropB.c.l) (W4.setCell ⟨F5, 9, none⟩ (.int .i64 1))) := Lib.hid (CB.fld (HC5.out) 9 _)
  clear HC5
  have HC5 := HCN
  clear HCN hkp
  replace XX := Ext.setCell XX (R := F5) (o := 9) (by omega) (.int .i64 1)
  generalize (W4.setCell ⟨F5, 9, none⟩ (.int .i64 1)) = W5 at *
  have y := HC6.out
  have yb := y.fb
  have ys := y.u 3 _ rfl
  have yf := y.m.ff
  have x0 := y.m.c 10 _ rfl
  clear y
  go_upto_region 18 with fail
  clear x0 yb ys yf
  have hkp : KP (fun j => j = F6) W5 ((W5.setCell ⟨F6, 10, none⟩ (.int .i64 (-1)))) := KP.setCell (p := fun j => j = F6) (KP.refl _) rfl _
  replace HC1 := Lib.hid (HC1.out.kp hkp (by omega) (by omega) (by omega))
  replace HC2 := Lib.hid (HC2.out.kp hkp (by omega) (by omega) (by omega))
  replace HC3 := Lib.hid (HC3.out.kp hkp (by omega) (by omega) (by omega))
  replace HC4 := Lib.hid (HC4.out.kp hkp (by omega) (by omega) (by omega))
  replace HC5 := Lib.hid (HC5.out.kp hkp (by omega) (by omega) (by omega))
  replace HC7 := Lib.hid (HC7.out.kp hkp (by omega) (by omega) (by omega))
  replace HC8 := Lib.hid (HC8.out.kp hkp (by omega) (by omega) (by omega))
  have HCN : Hid (CB (n + 1 + 1 + 1 + 1 + 1) b6 F6 [.slice (some ⟨b6 + 6, 0, none⟩) 1 1, .int .i64 10, .int .i64 31, .slice (some ⟨F6, 0, none⟩) 2 2] 0 (twoA.c.l ++ valB.c.l) (W5.setCell ⟨F6, 10, none⟩ (.int .i64 (-1)))) := Lib.hid (CB.fld (HC6.out) 10 _)
  clear HC6
  have HC6 := HCN
  clear HCN hkp
  replace XX := Ext.setCell XX (R := F6) (o := 10) (by omega) (.int .i64 (-1))
  generalize (W5.setCell ⟨F6, 10, none⟩ (.int .i64 (-1))) = W6 at *
  have hmk : ∀ w, (Instr.makeSlice 29 (.int .i64 4) (.int .i64 4)).run Try.prog w = .ok (.slice (some ⟨w.heap.size, 0, none⟩) 4 4) (w.alloc (.cells #[.int .i64 0, .int .i64 0, .int .i64 0, .int .i64 0, .int .i64 0, .int .i64 0, .int .i64 0, .int .i64 0, .int .i64 0, .int .i64 0, .int .i64 0, .int .i64 0, .int .i64 0, .int .i64 0, .int .i64 0, .int .i64 0, .int .i64 0, .int .i64 0, .int .i64 0, .int .i64 0, .int .i64 0, .int .i64 0, .int .i64 0, .int .i64 0, .int .i64 0, .int .i64 0, .int .i64 0, .int .i64 0, .int .i64 0, .int .i64 0, .int .i64 0, .int .i64 0, .int .i64 0, .int .i64 0, .int .i64 0, .int .i64 0] 46)) := fun _ => by kernel_rfl
  have y := HC7.out
  have yb := y.fb
  have x0 := y.u 3 _ rfl
  have yl := y.hi
  have yl' : ¬ n + 1 + 1 + 1 + 1 + 1 + 1 = W6.heap.size := by omega
  clear y
  go_upto_region 19 with fail
  generalize hN : W6.heap.size = N at *
  clear x0 yb yl'
  have hs7 : (W6.setCell ⟨n + 1 + 1 + 1 + 1 + 1 + 1, 3, none⟩ (.slice (some ⟨N, 0, none⟩) 4 4)).heap.size = N := by rw [size_set]; exact hN
  have hkp : KP (fun j => j = n + 1 + 1 + 1 + 1 + 1 + 1) W6 ((W6.setCell ⟨n + 1 + 1 + 1 + 1 + 1 + 1, 3, none⟩ (.slice (some ⟨N, 0, none⟩) 4 4))) := KP.setCell (p := fun j => j = n + 1 + 1 + 1 + 1 + 1 + 1) (KP.refl _) rfl _
  replace HC1 := Lib.hid (HC1.out.kp hkp (by omega) (by omega) (by omega))
  replace HC2 := Lib.hid (HC2.out.kp hkp (by omega) (by omega) (by omega))
  replace HC3 := Lib.hid (HC3.out.kp hkp (by omega) (by omega) (by omega))
  replace HC4 := Lib.hid (HC4.out.kp hkp (by omega) (by omega) (by omega))
  replace HC5 := Lib.hid (HC5.out.kp hkp (by omega) (by omega) (by omega))
  replace HC6 := Lib.hid (HC6.out.kp hkp (by omega) (by omega) (by omega))
  replace HC8 := Lib.hid (HC8.out.kp hkp (by omega) (by omega) (by omega))
  have HCN : Hid (CB (n + 1 + 1 + 1 + 1 + 1 + 1) b7 F7 [.slice (some ⟨b7 + 6, 0, none⟩) 1 1, .int .i64 10, .int .i64 31, .slice (some ⟨N, 0, none⟩) 4 4] 0 (twoA.c.l ++ twoB.c.l) (W6.setCell ⟨n + 1 + 1 + 1 + 1 + 1 + 1, 3, none⟩ (.slice (some ⟨N, 0, none⟩) 4 4))) := Lib.hid (CB.box HC7.out 3 _)
  clear HC7
  have HC7 := HCN
  clear HCN hkp
  replace XX := Ext.setCell XX (R := n + 1 + 1 + 1 + 1 + 1 + 1) (o := 3) (by omega) (.slice (some ⟨N, 0, none⟩) 4 4)
  generalize (W6.setCell ⟨n + 1 + 1 + 1 + 1 + 1 + 1, 3, none⟩ (.slice (some ⟨N, 0, none⟩) 4 4)) = W7 at *
  have XA : Ext W7 (W7.alloc (.cells #[.int .i64 0, .int .i64 0, .int .i64 0, .int .i64 0, .int .i64 0, .int .i64 0, .int .i64 0, .int .i64 0, .int .i64 0, .int .i64 0, .int .i64 0, .int .i64 0, .int .i64 0, .int .i64 0, .int .i64 0, .int .i64 0, .int .i64 0, .int .i64 0, .int .i64 0, .int .i64 0, .int .i64 0, .int .i64 0, .int .i64 0, .int .i64 0, .int .i64 0, .int .i64 0, .int .i64 0, .int .i64 0, .int .i64 0, .int .i64 0, .int .i64 0, .int .i64 0, .int .i64 0, .int .i64 0, .int .i64 0, .int .i64 0] 46)) := by (repeat (first | exact Ext.refl _ | (with_reducible assumption) | (with_reducible refine Ext.drew ?_) | (with_reducible refine Ext.alloc ?_ _) | (with_reducible refine Ext.drewN ?_ _) | (with_reducible refine Ext.setCell ?_ (by omega) _) | (with_reducible refine Ext.trans ?_ (by with_reducible assumption))))
  replace HC1 := Lib.hid (HC1.out.ext XA)
  replace HC2 := Lib.hid (HC2.out.ext XA)
  replace HC3 := Lib.hid (HC3.out.ext XA)
  replace HC4 := Lib.hid (HC4.out.ext XA)
  replace HC5 := Lib.hid (HC5.out.ext XA)
  replace HC6 := Lib.hid (HC6.out.ext XA)
  replace HC7 := Lib.hid (HC7.out.ext XA)
  replace HC8 := Lib.hid (HC8.out.ext XA)
  have HN : Hid (∀ j, j < 36 → (W7.alloc (.cells #[.int .i64 0, .int .i64 0, .int .i64 0, .int .i64 0, .int .i64 0, .int .i64 0, .int .i64 0, .int .i64 0, .int .i64 0, .int .i64 0, .int .i64 0, .int .i64 0, .int .i64 0, .int .i64 0, .int .i64 0, .int .i64 0, .int .i64 0, .int .i64 0, .int .i64 0, .int .i64 0, .int .i64 0, .int .i64 0, .int .i64 0, .int .i64 0, .int .i64 0, .int .i64 0, .int .i64 0, .int .i64 0, .int .i64 0, .int .i64 0, .int .i64 0, .int .i64 0, .int .i64 0, .int .i64 0, .int .i64 0, .int .i64 0] 46)).cell? ⟨N, j, none⟩ = some (.int .i64 0)) := Lib.hid (fun j hj => by
    rw [show (#[.int .i64 0, .int .i64 0, .int .i64 0, .int .i64 0, .int .i64 0, .int .i64 0, .int .i64 0, .int .i64 0, .int .i64 0, .int .i64 0, .int .i64 0, .int .i64 0, .int .i64 0, .int .i64 0, .int .i64 0, .int .i64 0, .int .i64 0, .int .i64 0, .int .i64 0, .int .i64 0, .int .i64 0, .int .i64 0, .int .i64 0, .int .i64 0, .int .i64 0, .int .i64 0, .int .i64 0, .int .i64 0, .int .i64 0, .int .i64 0, .int .i64 0, .int .i64 0, .int .i64 0, .int .i64 0, .int .i64 0, .int .i64 0] : Array Value) = Array.replicate 36 (.int .i64 0) from rfl, ← hs7]
    simp [go_sem, hj])
  replace XX := XX.trans XA
  clear XA hs7 hmk
  generalize (W7.alloc (.cells #[.int .i64 0, .int .i64 0, .int .i64 0, .int .i64 0, .int .i64 0, .int .i64 0, .int .i64 0, .int .i64 0, .int .i64 0, .int .i64 0, .int .i64 0, .int .i64 0, .int .i64 0, .int .i64 0, .int .i64 0, .int .i64 0, .int .i64 0, .int .i64 0, .int .i64 0, .int .i64 0, .int .i64 0, .int .i64 0, .int .i64 0, .int .i64 0, .int .i64 0, .int .i64 0, .int .i64 0, .int .i64 0, .int .i64 0, .int .i64 0, .int .i64 0, .int .i64 0, .int .i64 0, .int .i64 0, .int .i64 0, .int .i64 0] 46)) = Wz at *
  have y := HC8.out
  have ys := y.u 0 _ rfl
  have yf := y.m.ft
  have x0 := y.m.t2
  clear y
  go_upto_region 20 with fail
  clear x0 ys yf
  have hkp : KP (fun j => j = b8 + 6) Wz ((Wz.setCell ⟨b8 + 6, 2, none⟩ (.int .i64 (-1)))) := KP.setCell (p := fun j => j = b8 + 6) (KP.refl _) rfl _
  replace HC1 := Lib.hid (HC1.out.kp hkp (by omega) (by omega) (by omega))
  replace HC2 := Lib.hid (HC2.out.kp hkp (by omega) (by omega) (by omega))
  replace HC3 := Lib.hid (HC3.out.kp hkp (by omega) (by omega) (by omega))
  replace HC4 := Lib.hid (HC4.out.kp hkp (by omega) (by omega) (by omega))
  replace HC5 := Lib.hid (HC5.out.kp hkp (by omega) (by omega) (by omega))
  replace HC6 := Lib.hid (HC6.out.kp hkp (by omega) (by omega) (by omega))
  replace HC7 := Lib.hid (HC7.out.kp hkp (by omega) (by omega) (by omega))
  have HCN : Hid (CB (n + 1 + 1 + 1 + 1 + 1 + 1 + 1) b8 F8 [.slice (some ⟨b8 + 6, 0, none⟩) 1 1, .int .i64 10, .int .i64 31, .slice (some ⟨F8, 0, none⟩) 2 2] (-1) (twoA.c.l ++ twoB.c.l) (Wz.setCell ⟨b8 + 6, 2, none⟩ (.int .i64 (-1)))) := Lib.hid (CB.least HC8.out _)
  clear HC8
  have HC8 := HCN
  clear HCN hkp
  replace HN : Hid (∀ j, j < 36 → (Wz.setCell ⟨b8 + 6, 2, none⟩ (.int .i64 (-1))).cell? ⟨N, j, none⟩ = some (.int .i64 0)) := Lib.hid (fun j hj => sc_ne' (.inl (by omega)) (HN.out j hj))
  replace XX := Ext.setCell XX (R := b8 + 6) (o := 2) (by omega) (.int .i64 (-1))
  generalize (Wz.setCell ⟨b8 + 6, 2, none⟩ (.int .i64 (-1))) = w39 at *
  have XE : Ext w39 w39 := Ext.refl _
  go_wp2_with fail
  (with_reducible refine (HY.out _).mono ?_)
  rintro e w40 ⟨F9, rfl, hm9, hx⟩
  have hy : Ext w39 w40 := by (repeat (first | exact Ext.refl _ | (with_reducible assumption) | (with_reducible refine Ext.drew ?_) | (with_reducible refine Ext.alloc ?_ _) | (with_reducible refine Ext.drewN ?_ _) | (with_reducible refine Ext.setCell ?_ (by omega) _) | (with_reducible refine Ext.trans ?_ (by with_reducible assumption))))
  replace XX := XX.trans hy
  replace XE := XE.trans hy
  clear hx hy
  have hfld := field_tars
  have htv : TarsV w40 (.slice (some ⟨w39.heap.size + 6, 0, none⟩) 1 1) twoT := TwoM.tars hm9 (.inl rfl)
  go_wp2_with fail
  (with_reducible refine (HOF.out _ _ htv).mono ?_)
  rintro e w41 ⟨rfl, hx⟩
  have hy : Ext w40 w41 := by (repeat (first | exact Ext.refl _ | (with_reducible assumption) | (with_reducible refine Ext.drew ?_) | (with_reducible refine Ext.alloc ?_ _) | (with_reducible refine Ext.drewN ?_ _) | (with_reducible refine Ext.setCell ?_ (by omega) _) | (with_reducible refine Ext.trans ?_ (by with_reducible assumption))))
  replace XX := XX.trans hy
  replace XE := XE.trans hy
  clear hx hy
  clear hm9 HY HOF H2 hfld htv
  have y : CB (n) b1 F1 [.slice (some ⟨b1 + 6, 0, none⟩) 1 1, .int .i64 121, .int .i64 31, .slice (some ⟨F1, 0, none⟩) 2 2] 0 (twoA.c.l ++ twoB.c.l) (w41.alloc (.cells #[.int .i64 0, .int .i64 0] 44)) := HC1.out.ext (XE.alloc _)
  have x0 := y.u 0 _ rfl
  have x1 := y.u 1 _ rfl
  have x2 := y.u 2 _ rfl
  have x3 := y.u 3 _ rfl
  have hcas : CasV (w41.alloc (.cells #[.int .i64 0, .int .i64 0] 44)) (.agg #[.slice (some ⟨b1 + 6, 0, none⟩) 1 1, .int .i64 121, .int .i64 31, .slice (some ⟨F1, 0, none⟩) 2 2]) ⟨twoX 0, 121, 31, [twoA, twoB]⟩ := TwoM.cas y.m (.inl rfl) 121 31
  clear y
  go_wp2_with fail
  (with_reducible refine (HCK.out _ _ _ _ hcas nm_cases.1).mono ?_)
  rintro e w42 ⟨rfl, hx⟩
  have hy : Ext w41 w42 := by (repeat (first | exact Ext.refl _ | (with_reducible assumption) | (with_reducible refine Ext.drew ?_) | (with_reducible refine Ext.alloc ?_ _) | (with_reducible refine Ext.drewN ?_ _) | (with_reducible refine Ext.setCell ?_ (by omega) _) | (with_reducible refine Ext.trans ?_ (by with_reducible assumption))))
  replace XX := XX.trans hy
  replace XE := XE.trans hy
  clear hx hy
  clear hcas x0 x1 x2 x3 HC1
  have y : CB (n + 1) b2 F2 [.slice (some ⟨b2 + 6, 0, none⟩) 1 1, .int .i64 10, .int .i64 10001, .slice (some ⟨F2, 0, none⟩) 2 2] 0 (twoA.c.l ++ twoB.c.l) w42 := HC2.out.ext XE
  have x0 := y.u 0 _ rfl
  have x1 := y.u 1 _ rfl
  have x2 := y.u 2 _ rfl
  have x3 := y.u 3 _ rfl
  have hcas : CasV w42 (.agg #[.slice (some ⟨b2 + 6, 0, none⟩) 1 1, .int .i64 10, .int .i64 10001, .slice (some ⟨F2, 0, none⟩) 2 2]) ⟨twoX 0, 10, 10001, [twoA, twoB]⟩ := TwoM.cas y.m (.inl rfl) 10 10001
  clear y
  go_wp2_with fail
  (with_reducible refine (HCK.out _ _ _ _ hcas nm_cases.2.1).mono ?_)
  rintro e w43 ⟨rfl, hx⟩
  have hy : Ext w42 w43 := by (repeat (first | exact Ext.refl _ | (with_reducible assumption) | (with_reducible refine Ext.drew ?_) | (with_reducible refine Ext.alloc ?_ _) | (with_reducible refine Ext.drewN ?_ _) | (with_reducible refine Ext.setCell ?_ (by omega) _) | (with_reducible refine Ext.trans ?_ (by with_reducible assumption))))
  replace XX := XX.trans hy
  replace XE := XE.trans hy
  clear hx hy
  clear hcas x0 x1 x2 x3 HC2
  have y : CB (n + 1 + 1) b3 F3 [.slice (some ⟨b3 + 6, 0, none⟩) 1 1, .int .i64 10, .int .i64 31, .slice (some ⟨F3, 0, none⟩) 2 2] 0 (nearA.c.l ++ twoB.c.l) w43 := HC3.out.ext XE
  have x0 := y.u 0 _ rfl
  have x1 := y.u 1 _ rfl
  have x2 := y.u 2 _ rfl
  have x3 := y.u 3 _ rfl
  have hcas : CasV w43 (.agg #[.slice (some ⟨b3 + 6, 0, none⟩) 1 1, .int .i64 10, .int .i64 31, .slice (some ⟨F3, 0, none⟩) 2 2]) ⟨twoX 0, 10, 31, [nearA, twoB]⟩ := TwoM.cas y.m (.inl rfl) 10 31
  clear y
  go_wp2_with fail
  (with_reducible refine (HCK.out _ _ _ _ hcas nm_cases.2.2.1).mono ?_)
  rintro e w44 ⟨rfl, hx⟩
  have hy : Ext w43 w44 := by (repeat (first | exact Ext.refl _ | (with_reducible assumption) | (with_reducible refine Ext.drew ?_) | (with_reducible refine Ext.alloc ?_ _) | (with_reducible refine Ext.drewN ?_ _) | (with_reducible refine Ext.setCell ?_ (by omega) _) | (with_reducible refine Ext.trans ?_ (by with_reducible assumption))))
  replace XX := XX.trans hy
  replace XE := XE.trans hy
  clear hx hy
  clear hcas x0 x1 x2 x3 HC3
  have y : CB (n + 1 + 1 + 1) b4 F4 [.slice (some ⟨b4 + 6, 0, none⟩) 1 1, .int .i64 10, .int .i64 31, .slice (some ⟨F4, 0, none⟩) 2 2] 0 (wideA.c.l ++ twoB.c.l) w44 := HC4.out.ext XE
  have x0 := y.u 0 _ rfl
  have x1 := y.u 1 _ rfl
  have x2 := y.u 2 _ rfl
  have x3 := y.u 3 _ rfl
  have hcas : CasV w44 (.agg #[.slice (some ⟨b4 + 6, 0, none⟩) 1 1, .int .i64 10, .int .i64 31, .slice (some ⟨F4, 0, none⟩) 2 2]) ⟨twoX 0, 10, 31, [wideA, twoB]⟩ := TwoM.cas y.m (.inl rfl) 10 31
  clear y
  go_wp2_with fail
  (with_reducible refine (HCK.out _ _ _ _ hcas nm_cases.2.2.2.1).mono ?_)
  rintro e w45 ⟨rfl, hx⟩
  have hy : Ext w44 w45 := by (repeat (first | exact Ext.refl _ | (with_reducible assumption) | (with_reducible refine Ext.drew ?_) | (with_reducible refine Ext.alloc ?_ _) | (with_reducible refine Ext.drewN ?_ _) | (with_reducible refine Ext.setCell ?_ (by omega) _) | (with_reducible refine Ext.trans ?_ (by with_reducible assumption))))
  replace XX := XX.trans hy
  replace XE := XE.trans hy
  clear hx hy
  clear hcas x0 x1 x2 x3 HC4
  have y : CB (n + 1 + 1 + 1 + 1) b5 F5 [.slice (some ⟨b5 + 6, 0, none⟩) 1 1, .int .i64 10, .int .i64 31, .slice (some ⟨F5, 0, none⟩) 2 2] 0 (twoA.c.l ++ cropB.c.l) w45 := HC5.out.ext XE
  have x0 := y.u 0 _ rfl
  have x1 := y.u 1 _ rfl
  have x2 := y.u 2 _ rfl
  have x3 := y.u 3 _ rfl
  have hcas : CasV w45 (.agg #[.slice (some ⟨b5 + 6, 0, none⟩) 1 1, .int .i64 10, .int .i64 31, .slice (some ⟨F5, 0, none⟩) 2 2]) ⟨twoX 0, 10, 31, [twoA, cropB]⟩ := TwoM.cas y.m (.inl rfl) 10 31
  clear y
  go_wp2_with fail
  (with_reducible refine (HCK.out _ _ _ _ hcas nm_cases.2.2.2.2.1).mono ?_)
  rintro e w46 ⟨rfl, hx⟩
  have hy : Ext w45 w46 := by (repeat (first | exact Ext.refl _ | (with_reducible assumption) | (with_reducible refine Ext.drew ?_) | (with_reducible refine Ext.alloc ?_ _) | (with_reducible refine Ext.drewN ?_ _) | (with_reducible refine Ext.setCell ?_ (by omega) _) | (with_reducible refine Ext.trans ?_ (by with_reducible assumption))))
  replace XX := XX.trans hy
  replace XE := XE.trans hy
  clear hx hy
  clear hcas x0 x1 x2 x3 HC5
  have y : CB (n + 1 + 1 + 1 + 1 + 1) b6 F6 [.slice (some ⟨b6 + 6, 0, none⟩) 1 1, .int .i64 10, .int .i64 31, .slice (some ⟨F6, 0, none⟩) 2 2] 0 (twoA.c.l ++ valB.c.l) w46 := HC6.out.ext XE
  have x0 := y.u 0 _ rfl
  have x1 := y.u 1 _ rfl
  have x2 := y.u 2 _ rfl
  have x3 := y.u 3 _ rfl
  have hcas : CasV w46 (.agg #[.slice (some ⟨b6 + 6, 0, none⟩) 1 1, .int .i64 10, .int .i64 31, .slice (some ⟨F6, 0, none⟩) 2 2]) ⟨twoX 0, 10, 31, [twoA, valB]⟩ := TwoM.cas y.m (.inl rfl) 10 31
  clear y
  go_wp2_with fail
  (with_reducible refine (HCK.out _ _ _ _ hcas nm_cases.2.2.2.2.2.1).mono ?_)
  rintro e w47 ⟨rfl, hx⟩
  have hy : Ext w46 w47 := by (repeat (first | exact Ext.refl _ | (with_reducible assumption) | (with_reducible refine Ext.drew ?_) | (with_reducible refine Ext.alloc ?_ _) | (with_reducible refine Ext.drewN ?_ _) | (with_reducible refine Ext.setCell ?_ (by omega) _) | (with_reducible refine Ext.trans ?_ (by with_reducible assumption))))
  replace XX := XX.trans hy
  replace XE := XE.trans hy
  clear hx hy
  clear hcas x0 x1 x2 x3 HC6
  have y : CB (n + 1 + 1 + 1 + 1 + 1 + 1) b7 F7 [.slice (some ⟨b7 + 6, 0, none⟩) 1 1, .int .i64 10, .int .i64 31, .slice (some ⟨N, 0, none⟩) 4 4] 0 (twoA.c.l ++ twoB.c.l) w47 := HC7.out.ext XE
  have x0 := y.u 0 _ rfl
  have x1 := y.u 1 _ rfl
  have x2 := y.u 2 _ rfl
  have x3 := y.u 3 _ rfl
  have hcas : CasV w47 (.agg #[.slice (some ⟨b7 + 6, 0, none⟩) 1 1, .int .i64 10, .int .i64 31, .slice (some ⟨N, 0, none⟩) 4 4]) ⟨twoX 0, 10, 31, [zeroF, zeroF, zeroF, zeroF]⟩ := ⟨_, _, rfl, TwoM.tars y.m (.inl rfl), zero_flds (fun j hj => XE.keep (HN.out j hj))⟩
  clear y
  go_wp2_with fail
  (with_reducible refine (HCK.out _ _ _ _ hcas nm_cases.2.2.2.2.2.2.1).mono ?_)
  rintro e w48 ⟨rfl, hx⟩
  have hy : Ext w47 w48 := by (repeat (first | exact Ext.refl _ | (with_reducible assumption) | (with_reducible refine Ext.drew ?_) | (with_reducible refine Ext.alloc ?_ _) | (with_reducible refine Ext.drewN ?_ _) | (with_reducible refine Ext.setCell ?_ (by omega) _) | (with_reducible refine Ext.trans ?_ (by with_reducible assumption))))
  replace XX := XX.trans hy
  replace XE := XE.trans hy
  clear hx hy
  clear hcas x0 x1 x2 x3 HC7
  have y : CB (n + 1 + 1 + 1 + 1 + 1 + 1 + 1) b8 F8 [.slice (some ⟨b8 + 6, 0, none⟩) 1 1, .int .i64 10, .int .i64 31, .slice (some ⟨F8, 0, none⟩) 2 2] (-1) (twoA.c.l ++ twoB.c.l) w48 := HC8.out.ext XE
  have x0 := y.u 0 _ rfl
  have x1 := y.u 1 _ rfl
  have x2 := y.u 2 _ rfl
  have x3 := y.u 3 _ rfl
  have hcas : CasV w48 (.agg #[.slice (some ⟨b8 + 6, 0, none⟩) 1 1, .int .i64 10, .int .i64 31, .slice (some ⟨F8, 0, none⟩) 2 2]) ⟨twoX (-1), 10, 31, [twoA, twoB]⟩ := TwoM.cas y.m (.inr rfl) 10 31
  clear y
  go_wp2_with fail
  (with_reducible refine (HCK.out _ _ _ _ hcas nm_cases.2.2.2.2.2.2.2.1).mono ?_)
  rintro e w49 ⟨rfl, hx⟩
  have hy : Ext w48 w49 := by (repeat (first | exact Ext.refl _ | (with_reducible assumption) | (with_reducible refine Ext.drew ?_) | (with_reducible refine Ext.alloc ?_ _) | (with_reducible refine Ext.drewN ?_ _) | (with_reducible refine Ext.setCell ?_ (by omega) _) | (with_reducible refine Ext.trans ?_ (by with_reducible assumption))))
  replace XX := XX.trans hy
  replace XE := XE.trans hy
  clear hx hy
  clear hcas x0 x1 x2 x3 HC8
  have hcas : CasV w49 (.agg #[.slice none 0 0, .int .i64 0, .int .i64 0, .slice none 0 0]) ⟨[], 0, 0, []⟩ := ⟨_, _, rfl, nil_tarsU _, nil_flds _⟩
  go_wp2_with fail
  (with_reducible refine (HCK.out _ _ _ _ hcas nm_cases.2.2.2.2.2.2.2.2).mono ?_)
  rintro e w50 ⟨rfl, hx⟩
  have hy : Ext w49 w50 := by (repeat (first | exact Ext.refl _ | (with_reducible assumption) | (with_reducible refine Ext.drew ?_) | (with_reducible refine Ext.alloc ?_ _) | (with_reducible refine Ext.drewN ?_ _) | (with_reducible refine Ext.setCell ?_ (by omega) _) | (with_reducible refine Ext.trans ?_ (by with_reducible assumption))))
  replace XX := XX.trans hy
  clear hx hy
  go_wp2_with fail
  (with_reducible refine (HAW.out _).mono ?_)
  rintro e w51 ⟨rfl, hx⟩
  have hy : Ext w50 w51 := by (repeat (first | exact Ext.refl _ | (with_reducible assumption) | (with_reducible refine Ext.drew ?_) | (with_reducible refine Ext.alloc ?_ _) | (with_reducible refine Ext.drewN ?_ _) | (with_reducible refine Ext.setCell ?_ (by omega) _) | (with_reducible refine Ext.trans ?_ (by with_reducible assumption))))
  replace XX := XX.trans hy
  clear hx hy
  go_wp2_with fail
  go_ret
  exact ⟨rfl, XX⟩
end Go.Proofs.Ytedblocbcjoolaa
