/- The walk of UmpireCounts. -/
import Derived.Test.YtbmjnilcinfdiaaGreatKVT
import Derived.Test.YtbmjnilcinfdiaaGreatKRC
set_option linter.unusedSimpArgs false
set_option linter.unusedVariables false
namespace Go.Proofs.YtbmjnilcinfdiaaGreat
open Go.RowKit Go.Hs
attribute [local irreducible] World.setCell World.alloc
theorem sameI_self (a : List Int) : sameI a a = true := by rw [sameI_eq]; exact decide_eq_true rfl
theorem countsS_len (f : Fld) : (countsS f).length ≤ 1000 := by
  rw [countsS_upto]
  have := upto_len (isCount f) 101
  omega

set_option maxRecDepth 100000 in
set_option maxHeartbeats 4000000 in
theorem walk_UmpireCounts (v : Value) (c : Cas) (k : Int) (w : World) (hv : CasW w v c) (_ : (Lit.int .i64 k).wf = true) :
    Calls Tryz.prog 3 #[v, .int .i64 k] w fun e w' => e = .returned (.bool true) ∧ Ext w w' := by
  have HAW := Lib.hid awakeU_any
  have HTH : Hid (∀ W, Ext w W → Calls Tryz.prog 15 #[v] W fun e w' => e = .returned (.bool (thinCas c)) ∧ Ext W w') := Lib.hid (fun W hx => ThinU_any c v W (hv.ext hx))
  have HV := Lib.hid hv
  obtain ⟨vt, vf, rfl, ht, hf, -, -⟩ := hv
  obtain ⟨a1, c1, rfl, -⟩ := id ht
  obtain ⟨a2, c2, rfl, -⟩ := id hf
  clear ht hf
  cases hr : thinCas c with
  | false =>
    rw [hr] at HTH
    clear HV hr
    generalize c.tars.length = n1 at *
    generalize c.flds.length = n2 at *
    generalize c.day = day at *
    generalize c.fee = fee at *
    go_enter Tryz.func3, Tryz.ntmps3
    go_wp2_with fail
    (with_reducible refine (HTH.out _ (by (repeat (first | exact Ext.refl _ | (with_reducible assumption) | (with_reducible refine Ext.drew ?_) | (with_reducible refine Ext.alloc ?_ _) | (with_reducible refine Ext.drewN ?_ _) | (with_reducible refine Ext.setCell ?_ (by omega) _) | (with_reducible refine Ext.trans ?_ (by with_reducible assumption)))))).mono ?_)
    rintro e w1 ⟨rfl, hx1⟩
    go_wp2_with fail
    (with_reducible refine (HAW.out _).mono ?_)
    rintro e w2 ⟨rfl, hx2⟩
    go_wp2_with fail
    go_ret
    exact ⟨rfl, by (repeat (first | exact Ext.refl _ | (with_reducible assumption) | (with_reducible refine Ext.drew ?_) | (with_reducible refine Ext.alloc ?_ _) | (with_reducible refine Ext.drewN ?_ _) | (with_reducible refine Ext.setCell ?_ (by omega) _) | (with_reducible refine Ext.trans ?_ (by with_reducible assumption))))⟩
  | true =>
    rw [hr] at HTH
    have htt := thinCas_tars hr
    have hcv := HV.out.toV hr
    have HCA : Hid (∀ W, Ext w W → Calls Tryz.prog 18 #[.agg #[.slice a1 c.tars.length c1, .int .i64 c.day, .int .i64 c.fee, .slice a2 c.flds.length c2]] W fun e w' => ∃ v', e = .returned v' ∧ CasV w' v' c ∧ Ext W w') := Lib.hid (fun W hx => Case_any c _ W (hcv.ext hx) htt)
    have HFI : Hid (∀ W, Ext w W → Calls Tryz.prog 20 #[.agg #[.slice a1 c.tars.length c1, .int .i64 c.day, .int .i64 c.fee, .slice a2 c.flds.length c2], .int .i64 k] W fun e w' => e = .returned (.int .i64 (askE c k)) ∧ Ext W w') := Lib.hid (fun W hx => fieldedU_any c _ k W (hcv.ext hx))
    by_cases hz : askE c k = 0
    · obtain ⟨he0, hk0, hk1⟩ := askE_zero hz
      obtain ⟨i, rfl⟩ : ∃ i : Nat, k = (i : Int) := ⟨k.toNat, by omega⟩
      have hlt : i < c.flds.length := by omega
      have e0 : c.flds.getD (i : Int).toNat default = c.flds[i] := by simp [hlt]
      have HC := Lib.hid (fun v W (h : CasV W v c) => Counts_good c v i W h hz)
      have HL := Lib.hid (fun v W (h : CasV W v c) => Called_good c v i W h hz)
      rw [e0] at HC HL
      rw [hz] at HFI
      have hfo := (caseE_zero he0).flds _ (List.getElem_mem hlt)
      have HRC := Lib.hid (RCounts_any c.tars _ hfo)
      have HRL := Lib.hid (RCalled_any c.tars _ hfo)
      have HSM : Hid (∀ va vb W, IntsV W va (countsS c.flds[i]) → IntsV W vb (countsS c.flds[i]) → Calls Tryz.prog 21 #[va, vb] W fun e w' => e = .returned (.bool true) ∧ Ext W w') := Lib.hid (fun va vb W h1 h2 => sameI_self (countsS c.flds[i]) ▸ SameI_any va vb _ _ W h1 h2 (countsS_len _) (countsS_len _))
      obtain ⟨b, off, rfl, hce⟩ := hcv.fld_at hlt
      have HCE : Hid (∀ W, Ext w W → Cell9 W b (off + i * 9) (c.flds[i]).c) := Lib.hid (fun W hx => hce.ext hx)
      have hk2 : (0 : Int) ≤ (i : Int) := hk0
      have hk3 : (i : Int) < (c.flds.length : Int) := hk1
      clear HV hr htt hcv hz he0 hk0 hk1 e0 hfo hce
      generalize countsS c.flds[i] = cs at *
      generalize calledV c.flds[i] = cv at *
      generalize c.flds[i] = f at *
      clear hlt
      obtain ⟨cr, va, ne, al, ah, bl, bh, ul, uh⟩ := f
      simp only [Fld.c] at *
      generalize c.tars.length = n1 at *
      generalize c.flds.length = n2 at *
      generalize c.day = day at *
      generalize c.fee = fee at *
      go_enter Tryz.func3, Tryz.ntmps3
      go_wp2_with fail
      have X : Ext w (w.alloc (.cells #[.slice a1 n1 c1, .int .i64 day, .int .i64 fee, .slice (some ⟨b, off, none⟩) n2 c2] 25)) := by (repeat (first | exact Ext.refl _ | (with_reducible assumption) | (with_reducible refine Ext.drew ?_) | (with_reducible refine Ext.alloc ?_ _) | (with_reducible refine Ext.drewN ?_ _) | (with_reducible refine Ext.setCell ?_ (by omega) _) | (with_reducible refine Ext.trans ?_ (by with_reducible assumption))))
      have HS : Hid (∀ w', Ext (w.alloc (.cells #[.slice a1 n1 c1, .int .i64 day, .int .i64 fee, .slice (some ⟨b, off, none⟩) n2 c2] 25)) w' → (w'.cell? ⟨w.heap.size, 0, none⟩ = some (.slice a1 n1 c1) ∧ w'.cell? ⟨w.heap.size, 1, none⟩ = some (.int .i64 day) ∧ w'.cell? ⟨w.heap.size, 2, none⟩ = some (.int .i64 fee) ∧ w'.cell? ⟨w.heap.size, 3, none⟩ = some (.slice (some ⟨b, off, none⟩) n2 c2)) ∧ Ext (w.alloc (.cells #[.slice a1 n1 c1, .int .i64 day, .int .i64 fee, .slice (some ⟨b, off, none⟩) n2 c2] 25)) w') := Lib.hid (fun w' hx => ⟨⟨hx.keep (by simp [go_sem]), hx.keep (by simp [go_sem]), hx.keep (by simp [go_sem]), hx.keep (by simp [go_sem])⟩, hx⟩)
      have HSf : Hid (∀ w', Ext (w.alloc (.cells #[.slice a1 n1 c1, .int .i64 day, .int .i64 fee, .slice (some ⟨b, off, none⟩) n2 c2] 25)) w' → ∀ o, w'.frozen? ⟨w.heap.size, o, none⟩ = false) := Lib.hid (fun w' hx o => (hx.frozen (by simp)).trans (by simp [go_sem]))
      have HSz : w.heap.size + 1 ≤ (w.alloc (.cells #[.slice a1 n1 c1, .int .i64 day, .int .i64 fee, .slice (some ⟨b, off, none⟩) n2 c2] 25)).heap.size := by simp
      generalize (w.alloc (.cells #[.slice a1 n1 c1, .int .i64 day, .int .i64 fee, .slice (some ⟨b, off, none⟩) n2 c2] 25)) = W at *
      (with_reducible refine (HTH.out _ X).mono ?_)
      rintro e w1 ⟨rfl, hx1⟩
      obtain ⟨⟨q0, q1, q2, q3⟩, -⟩ := HS.out w1 hx1
      have X1 : Ext w w1 := by (repeat (first | exact Ext.refl _ | (with_reducible assumption) | (with_reducible refine Ext.drew ?_) | (with_reducible refine Ext.alloc ?_ _) | (with_reducible refine Ext.drewN ?_ _) | (with_reducible refine Ext.setCell ?_ (by omega) _) | (with_reducible refine Ext.trans ?_ (by with_reducible assumption))))
      clear HS HSf HSz hx1 X HTH
      go_wp2_with fail
      (with_reducible refine (HCA.out _ X1).mono ?_)
      rintro e w2 ⟨v2, rfl, hv, hx⟩
      have hy : Ext w1 w2 := by (repeat (first | exact Ext.refl _ | (with_reducible assumption) | (with_reducible refine Ext.drew ?_) | (with_reducible refine Ext.alloc ?_ _) | (with_reducible refine Ext.drewN ?_ _) | (with_reducible refine Ext.setCell ?_ (by omega) _) | (with_reducible refine Ext.trans ?_ (by with_reducible assumption))))
      replace X1 := X1.trans hy
      replace q0 := hy.keep q0
      replace q1 := hy.keep q1
      replace q2 := hy.keep q2
      replace q3 := hy.keep q3
      clear hx hy
      go_wp2_with fail
      (with_reducible refine (HC.out _ _ hv).mono ?_)
      rintro e w3 ⟨r3, rfl, hr3, hx⟩
      have hy : Ext w2 w3 := by (repeat (first | exact Ext.refl _ | (with_reducible assumption) | (with_reducible refine Ext.drew ?_) | (with_reducible refine Ext.alloc ?_ _) | (with_reducible refine Ext.drewN ?_ _) | (with_reducible refine Ext.setCell ?_ (by omega) _) | (with_reducible refine Ext.trans ?_ (by with_reducible assumption))))
      replace X1 := X1.trans hy
      replace q0 := hy.keep q0
      replace q1 := hy.keep q1
      replace q2 := hy.keep q2
      replace q3 := hy.keep q3
      clear hx hy
      clear hv
      go_wp2_with fail
      (with_reducible refine (HCA.out _ X1).mono ?_)
      rintro e w4 ⟨v4, rfl, hv, hx⟩
      have hy : Ext w3 w4 := by (repeat (first | exact Ext.refl _ | (with_reducible assumption) | (with_reducible refine Ext.drew ?_) | (with_reducible refine Ext.alloc ?_ _) | (with_reducible refine Ext.drewN ?_ _) | (with_reducible refine Ext.setCell ?_ (by omega) _) | (with_reducible refine Ext.trans ?_ (by with_reducible assumption))))
      replace X1 := X1.trans hy
      replace q0 := hy.keep q0
      replace q1 := hy.keep q1
      replace q2 := hy.keep q2
      replace q3 := hy.keep q3
      replace hr3 := hr3.ext hy
      clear hx hy
      go_wp2_with fail
      (with_reducible refine (HL.out _ _ hv).mono ?_)
      rintro e w5 ⟨rfl, hx⟩
      have hy : Ext w4 w5 := by (repeat (first | exact Ext.refl _ | (with_reducible assumption) | (with_reducible refine Ext.drew ?_) | (with_reducible refine Ext.alloc ?_ _) | (with_reducible refine Ext.drewN ?_ _) | (with_reducible refine Ext.setCell ?_ (by omega) _) | (with_reducible refine Ext.trans ?_ (by with_reducible assumption))))
      replace X1 := X1.trans hy
      replace q0 := hy.keep q0
      replace q1 := hy.keep q1
      replace q2 := hy.keep q2
      replace q3 := hy.keep q3
      replace hr3 := hr3.ext hy
      clear hx hy
      clear hv HCA HC HL
      go_wp2_with fail
      (with_reducible refine (HFI.out _ X1).mono ?_)
      rintro e w6 ⟨rfl, hx⟩
      have hy : Ext w5 w6 := by (repeat (first | exact Ext.refl _ | (with_reducible assumption) | (with_reducible refine Ext.drew ?_) | (with_reducible refine Ext.alloc ?_ _) | (with_reducible refine Ext.drewN ?_ _) | (with_reducible refine Ext.setCell ?_ (by omega) _) | (with_reducible refine Ext.trans ?_ (by with_reducible assumption))))
      replace X1 := X1.trans hy
      replace q0 := hy.keep q0
      replace q1 := hy.keep q1
      replace q2 := hy.keep q2
      replace q3 := hy.keep q3
      replace hr3 := hr3.ext hy
      clear hx hy
      obtain ⟨m0, m1, m2, m3, m4, m5, m6, m7, m8⟩ := HCE.out _ X1
      go_wp2_with fail
      (with_reducible refine (HRC.out _).mono ?_)
      rintro e w7 ⟨v7, rfl, hr7, hx⟩
      have hy : Ext w6 w7 := by (repeat (first | exact Ext.refl _ | (with_reducible assumption) | (with_reducible refine Ext.drew ?_) | (with_reducible refine Ext.alloc ?_ _) | (with_reducible refine Ext.drewN ?_ _) | (with_reducible refine Ext.setCell ?_ (by omega) _) | (with_reducible refine Ext.trans ?_ (by with_reducible assumption))))
      replace X1 := X1.trans hy
      replace q0 := hy.keep q0
      replace q1 := hy.keep q1
      replace q2 := hy.keep q2
      replace q3 := hy.keep q3
      replace hr3 := hr3.ext hy
      replace m0 := hy.keep m0
      replace m1 := hy.keep m1
      replace m2 := hy.keep m2
      replace m3 := hy.keep m3
      replace m4 := hy.keep m4
      replace m5 := hy.keep m5
      replace m6 := hy.keep m6
      replace m7 := hy.keep m7
      replace m8 := hy.keep m8
      clear hx hy
      go_wp2_with fail
      (with_reducible refine (HSM.out _ _ _ hr3 hr7).mono ?_)
      rintro e w8 ⟨rfl, hx⟩
      have hy : Ext w7 w8 := by (repeat (first | exact Ext.refl _ | (with_reducible assumption) | (with_reducible refine Ext.drew ?_) | (with_reducible refine Ext.alloc ?_ _) | (with_reducible refine Ext.drewN ?_ _) | (with_reducible refine Ext.setCell ?_ (by omega) _) | (with_reducible refine Ext.trans ?_ (by with_reducible assumption))))
      replace X1 := X1.trans hy
      replace q0 := hy.keep q0
      replace q1 := hy.keep q1
      replace q2 := hy.keep q2
      replace q3 := hy.keep q3
      replace m0 := hy.keep m0
      replace m1 := hy.keep m1
      replace m2 := hy.keep m2
      replace m3 := hy.keep m3
      replace m4 := hy.keep m4
      replace m5 := hy.keep m5
      replace m6 := hy.keep m6
      replace m7 := hy.keep m7
      replace m8 := hy.keep m8
      clear hx hy
      clear hr7
      go_wp2_with fail
      (with_reducible refine (HRL.out _).mono ?_)
      rintro e w9 ⟨rfl, hx⟩
      have hy : Ext w8 w9 := by (repeat (first | exact Ext.refl _ | (with_reducible assumption) | (with_reducible refine Ext.drew ?_) | (with_reducible refine Ext.alloc ?_ _) | (with_reducible refine Ext.drewN ?_ _) | (with_reducible refine Ext.setCell ?_ (by omega) _) | (with_reducible refine Ext.trans ?_ (by with_reducible assumption))))
      replace X1 := X1.trans hy
      clear hx hy
      go_wp2_with fail
      (with_reducible refine (HAW.out _).mono ?_)
      rintro e w10 ⟨rfl, hx⟩
      have hy : Ext w9 w10 := by (repeat (first | exact Ext.refl _ | (with_reducible assumption) | (with_reducible refine Ext.drew ?_) | (with_reducible refine Ext.alloc ?_ _) | (with_reducible refine Ext.drewN ?_ _) | (with_reducible refine Ext.setCell ?_ (by omega) _) | (with_reducible refine Ext.trans ?_ (by with_reducible assumption))))
      replace X1 := X1.trans hy
      clear hx hy
      go_wp2_with fail
      go_ret
      exact ⟨rfl, X1⟩
    · have HC := Lib.hid (fun v W (h : CasV W v c) => Counts_bad c v k W h hz)
      have HL := Lib.hid (fun v W (h : CasV W v c) => Called_bad c v k W h hz)
      have hb : (askE c k != 0) = true := by rw [bne_iff_ne]; exact hz
      clear HV hr htt hcv hz
      generalize askE c k = ce at *
      generalize c.tars.length = n1 at *
      generalize c.flds.length = n2 at *
      generalize c.day = day at *
      generalize c.fee = fee at *
      go_enter Tryz.func3, Tryz.ntmps3
      go_wp2_with fail
      have X : Ext w (w.alloc (.cells #[.slice a1 n1 c1, .int .i64 day, .int .i64 fee, .slice a2 n2 c2] 25)) := by (repeat (first | exact Ext.refl _ | (with_reducible assumption) | (with_reducible refine Ext.drew ?_) | (with_reducible refine Ext.alloc ?_ _) | (with_reducible refine Ext.drewN ?_ _) | (with_reducible refine Ext.setCell ?_ (by omega) _) | (with_reducible refine Ext.trans ?_ (by with_reducible assumption))))
      have HS : Hid (∀ w', Ext (w.alloc (.cells #[.slice a1 n1 c1, .int .i64 day, .int .i64 fee, .slice a2 n2 c2] 25)) w' → (w'.cell? ⟨w.heap.size, 0, none⟩ = some (.slice a1 n1 c1) ∧ w'.cell? ⟨w.heap.size, 1, none⟩ = some (.int .i64 day) ∧ w'.cell? ⟨w.heap.size, 2, none⟩ = some (.int .i64 fee) ∧ w'.cell? ⟨w.heap.size, 3, none⟩ = some (.slice a2 n2 c2)) ∧ Ext (w.alloc (.cells #[.slice a1 n1 c1, .int .i64 day, .int .i64 fee, .slice a2 n2 c2] 25)) w') := Lib.hid (fun w' hx => ⟨⟨hx.keep (by simp [go_sem]), hx.keep (by simp [go_sem]), hx.keep (by simp [go_sem]), hx.keep (by simp [go_sem])⟩, hx⟩)
      have HSf : Hid (∀ w', Ext (w.alloc (.cells #[.slice a1 n1 c1, .int .i64 day, .int .i64 fee, .slice a2 n2 c2] 25)) w' → ∀ o, w'.frozen? ⟨w.heap.size, o, none⟩ = false) := Lib.hid (fun w' hx o => (hx.frozen (by simp)).trans (by simp [go_sem]))
      have HSz : w.heap.size + 1 ≤ (w.alloc (.cells #[.slice a1 n1 c1, .int .i64 day, .int .i64 fee, .slice a2 n2 c2] 25)).heap.size := by simp
      generalize (w.alloc (.cells #[.slice a1 n1 c1, .int .i64 day, .int .i64 fee, .slice a2 n2 c2] 25)) = W at *
      (with_reducible refine (HTH.out _ X).mono ?_)
      rintro e w1 ⟨rfl, hx1⟩
      obtain ⟨⟨q0, q1, q2, q3⟩, -⟩ := HS.out w1 hx1
      have X1 : Ext w w1 := by (repeat (first | exact Ext.refl _ | (with_reducible assumption) | (with_reducible refine Ext.drew ?_) | (with_reducible refine Ext.alloc ?_ _) | (with_reducible refine Ext.drewN ?_ _) | (with_reducible refine Ext.setCell ?_ (by omega) _) | (with_reducible refine Ext.trans ?_ (by with_reducible assumption))))
      clear HS HSf HSz hx1 X HTH
      go_wp2_with fail
      (with_reducible refine (HCA.out _ X1).mono ?_)
      rintro e w2 ⟨v2, rfl, hv, hx⟩
      have hy : Ext w1 w2 := by (repeat (first | exact Ext.refl _ | (with_reducible assumption) | (with_reducible refine Ext.drew ?_) | (with_reducible refine Ext.alloc ?_ _) | (with_reducible refine Ext.drewN ?_ _) | (with_reducible refine Ext.setCell ?_ (by omega) _) | (with_reducible refine Ext.trans ?_ (by with_reducible assumption))))
      replace X1 := X1.trans hy
      replace q0 := hy.keep q0
      replace q1 := hy.keep q1
      replace q2 := hy.keep q2
      replace q3 := hy.keep q3
      clear hx hy
      go_wp2_with fail
      (with_reducible refine (HC.out _ _ hv).mono ?_)
      rintro e w3 ⟨rfl, hx⟩
      have hy : Ext w2 w3 := by (repeat (first | exact Ext.refl _ | (with_reducible assumption) | (with_reducible refine Ext.drew ?_) | (with_reducible refine Ext.alloc ?_ _) | (with_reducible refine Ext.drewN ?_ _) | (with_reducible refine Ext.setCell ?_ (by omega) _) | (with_reducible refine Ext.trans ?_ (by with_reducible assumption))))
      replace X1 := X1.trans hy
      replace q0 := hy.keep q0
      replace q1 := hy.keep q1
      replace q2 := hy.keep q2
      replace q3 := hy.keep q3
      clear hx hy
      clear hv
      go_wp2_with fail
      (with_reducible refine (HCA.out _ X1).mono ?_)
      rintro e w4 ⟨v4, rfl, hv, hx⟩
      have hy : Ext w3 w4 := by (repeat (first | exact Ext.refl _ | (with_reducible assumption) | (with_reducible refine Ext.drew ?_) | (with_reducible refine Ext.alloc ?_ _) | (with_reducible refine Ext.drewN ?_ _) | (with_reducible refine Ext.setCell ?_ (by omega) _) | (with_reducible refine Ext.trans ?_ (by with_reducible assumption))))
      replace X1 := X1.trans hy
      replace q0 := hy.keep q0
      replace q1 := hy.keep q1
      replace q2 := hy.keep q2
      replace q3 := hy.keep q3
      clear hx hy
      go_wp2_with fail
      (with_reducible refine (HL.out _ _ hv).mono ?_)
      rintro e w5 ⟨rfl, hx⟩
      have hy : Ext w4 w5 := by (repeat (first | exact Ext.refl _ | (with_reducible assumption) | (with_reducible refine Ext.drew ?_) | (with_reducible refine Ext.alloc ?_ _) | (with_reducible refine Ext.drewN ?_ _) | (with_reducible refine Ext.setCell ?_ (by omega) _) | (with_reducible refine Ext.trans ?_ (by with_reducible assumption))))
      replace X1 := X1.trans hy
      replace q0 := hy.keep q0
      replace q1 := hy.keep q1
      replace q2 := hy.keep q2
      replace q3 := hy.keep q3
      clear hx hy
      clear hv HCA HC HL
      go_wp2_with fail
      (with_reducible refine (HFI.out _ X1).mono ?_)
      rintro e w6 ⟨rfl, hx⟩
      have hy : Ext w5 w6 := by (repeat (first | exact Ext.refl _ | (with_reducible assumption) | (with_reducible refine Ext.drew ?_) | (with_reducible refine Ext.alloc ?_ _) | (with_reducible refine Ext.drewN ?_ _) | (with_reducible refine Ext.setCell ?_ (by omega) _) | (with_reducible refine Ext.trans ?_ (by with_reducible assumption))))
      replace X1 := X1.trans hy
      clear hx hy
      go_wp2_with fail
      (with_reducible refine (HAW.out _).mono ?_)
      rintro e w7 ⟨rfl, hx⟩
      have hy : Ext w6 w7 := by (repeat (first | exact Ext.refl _ | (with_reducible assumption) | (with_reducible refine Ext.drew ?_) | (with_reducible refine Ext.alloc ?_ _) | (with_reducible refine Ext.drewN ?_ _) | (with_reducible refine Ext.setCell ?_ (by omega) _) | (with_reducible refine Ext.trans ?_ (by with_reducible assumption))))
      replace X1 := X1.trans hy
      clear hx hy
      go_wp2_with fail
      go_ret
      exact ⟨rfl, X1⟩
end Go.Proofs.YtbmjnilcinfdiaaGreat
