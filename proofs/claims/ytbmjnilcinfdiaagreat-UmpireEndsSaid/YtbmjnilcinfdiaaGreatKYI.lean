/- Contract of layer 7's law: a truth by words. -/
import Derived.Test.YtbmjnilcinfdiaaGreatKYH
import Derived.Test.YtbmjnilcinfdiaaGreatKXR
import Derived.Test.YtbmjnilcinfdiaaGreatKB9
set_option linter.unusedSimpArgs false
set_option linter.unusedVariables false
namespace Go.Hs
open Go.RowKit Go.Proofs.YtbmjnilcinfdiaaGreat
theorem wordS_bd {w : World} {v : Value} {ws : List Int} (h : U8sW w v ws) (j : Nat) : 0 ≤ wordS ws j ∧ wordS ws j ≤ 255 := by
  unfold wordS
  split
  · omega
  · rename_i h0
    have hj : j % ws.length < ws.length := Nat.mod_lt _ (by omega)
    obtain ⟨a, k, -, -, -, hr⟩ := h
    obtain ⟨b, o, -, -, hx⟩ := hr (j % ws.length) hj
    simpa [hj] using hx
theorem wordS_at {w : World} {v : Value} {ws : List Int} (h : U8sW w v ws) (h0 : 0 < ws.length) (j : Nat) : ∃ b o c, v = .slice (some ⟨b, o, none⟩) ws.length c ∧ w.cell? ⟨b, o + j % ws.length, none⟩ = some (.int .u8 (wordS ws j)) := by
  have hj : j % ws.length < ws.length := Nat.mod_lt _ h0
  obtain ⟨a, k, rfl, -, -, hr⟩ := h
  obtain ⟨b, o, rfl, hx, -⟩ := hr (j % ws.length) hj
  refine ⟨b, o, k, rfl, ?_⟩
  unfold wordS
  rw [if_neg (by omega)]
  simpa [hj] using hx
end Go.Hs
namespace Go.Proofs.YtbmjnilcinfdiaaGreat
open Go.RowKit Go.Hs
attribute [local irreducible] World.setCell World.alloc

set_option maxRecDepth 100000 in
set_option maxHeartbeats 4000000 in
theorem pickedU_new (c : Cas) (v : Value) (ws : List Int) (aw : Option Addr) (nw cw : Nat) (w : World) (hv : CasV w v c) (hc : CasOK c) (hw : U8sW w (.slice aw nw cw) ws) :
    Calls Tryz.prog 38 #[v, .slice aw nw cw] w fun e w' => ∃ a q, e = .returned (.slice a c.flds.length q) ∧ ThrsV w' (.slice a c.flds.length q) (pickedS c ws) ∧ (∀ g o, a = some ⟨g, o, none⟩ → w.heap.size ≤ g) ∧ Ext w w' := by
  obtain ⟨a1, c1, a2, c2, rfl, hvt, -, hcl, hl1, hl2⟩ := hv.open
  obtain ⟨i3, hi3, hz30, hz31, hz32⟩ := info_parts info_rthree
  obtain ⟨rfl, hnw⟩ : nw = ws.length ∧ ws.length ≤ 9223372036854775807 := by
    obtain ⟨a, k, he, h1, h2, -⟩ := id hw
    simp only [Value.slice.injEq] at he
    exact ⟨he.2.1, by omega⟩
  have HCL := Lib.hid hcl
  have HW := Lib.hid hw
  have HOK := Lib.hid hc.flds
  have hn3 := hc.few
  have HPK := Lib.hid pickU_any
  clear hv hvt hcl hw hl1 hl2 hc
  unfold casV
  go_enter Tryz.func38, Tryz.ntmps38
  go_wp2_with fail
  have X : Ext w (w.alloc (.cells #[.slice a1 c.tars.length c1, .int .i64 c.day, .int .i64 c.fee, .slice a2 c.flds.length c2] 25)) := by (repeat (first | exact Ext.refl _ | (with_reducible assumption) | (with_reducible refine Ext.drew ?_) | (with_reducible refine Ext.alloc ?_ _) | (with_reducible refine Ext.drewN ?_ _) | (with_reducible refine Ext.setCell ?_ (by omega) _) | (with_reducible refine Ext.trans ?_ (by with_reducible assumption))))
  have HS : Hid (∀ w', Ext (w.alloc (.cells #[.slice a1 c.tars.length c1, .int .i64 c.day, .int .i64 c.fee, .slice a2 c.flds.length c2] 25)) w' → (w'.cell? ⟨w.heap.size, 0, none⟩ = some (.slice a1 c.tars.length c1) ∧ w'.cell? ⟨w.heap.size, 1, none⟩ = some (.int .i64 c.day) ∧ w'.cell? ⟨w.heap.size, 2, none⟩ = some (.int .i64 c.fee) ∧ w'.cell? ⟨w.heap.size, 3, none⟩ = some (.slice a2 c.flds.length c2)) ∧ Ext (w.alloc (.cells #[.slice a1 c.tars.length c1, .int .i64 c.day, .int .i64 c.fee, .slice a2 c.flds.length c2] 25)) w') := Lib.hid (fun w' hx => ⟨⟨hx.keep (by simp [go_sem]), hx.keep (by simp [go_sem]), hx.keep (by simp [go_sem]), hx.keep (by simp [go_sem])⟩, hx⟩)
  have HSf : Hid (∀ w', Ext (w.alloc (.cells #[.slice a1 c.tars.length c1, .int .i64 c.day, .int .i64 c.fee, .slice a2 c.flds.length c2] 25)) w' → ∀ o, w'.frozen? ⟨w.heap.size, o, none⟩ = false) := Lib.hid (fun w' hx o => (hx.frozen (by simp)).trans (by simp [go_sem]))
  have HSz : w.heap.size + 1 ≤ (w.alloc (.cells #[.slice a1 c.tars.length c1, .int .i64 c.day, .int .i64 c.fee, .slice a2 c.flds.length c2] 25)).heap.size := by simp
  generalize (w.alloc (.cells #[.slice a1 c.tars.length c1, .int .i64 c.day, .int .i64 c.fee, .slice a2 c.flds.length c2] 25)) = W at *
  go_loopw [5, 6] (fun s5 s6 wr => ∃ (k : Nat) (a5 : Option Addr) (q5 : Nat), k ≤ c.flds.length ∧ s6 = .int .i64 k ∧ s5 = .slice a5 k q5 ∧ Hid (ThrRow W.heap.size 67 (pickedAt c ws) k (.slice a5 k q5) wr) ∧ Ext W wr) (fun _ s _ => c.flds.length - (intOf s).toNat)
  case atStart => exact ⟨0, none, 0, Nat.zero_le _, rfl, rfl, Lib.hid (ThrRow.nil _ _ _ _), Ext.refl _⟩
  case round =>
    obtain ⟨k, a5, q5, hk, rfl, rfl, HR, hx⟩ := hrel
    obtain ⟨wo, rfl⟩ : ∃ x, x = wr := ⟨_, rfl⟩
    obtain ⟨⟨q0, q1, q2, q3⟩, -⟩ := HS.out wo hx
    by_cases hlt : k < c.flds.length
    · obtain ⟨b, off, rfl, hce⟩ := HCL.out k (by simpa using hlt)
      have hce := hce.ext (X.trans hx)
      have e1 : (c.flds.map Fld.c)[k]'(by simpa using hlt) = (c.flds[k]).c := by simp
      rw [e1] at hce
      have HP : Hid (pickedAt c ws k = pickT ws c.flds[k] k) := Lib.hid (by simp [pickedAt, hlt])
      have hfo := HOK.out _ (List.getElem_mem hlt)
      obtain ⟨-, -, -, fa, fb, fu⟩ := hfo
      generalize c.flds[k] = f at *
      obtain ⟨m0, m1, m2, m3, m4, m5, m6, m7, m8⟩ := hce
      simp only [Fld.c] at m0 m1 m2 m3 m4 m5 m6 m7 m8
      have hk0 : (0 : Int) ≤ (k : Int) := by omega
      have hki : (k : Int) < (c.flds.length : Int) := by omega
      have hk3 : (k : Int) < 3 := by omega
      have hy0 := wordS_bd HW.out (3 * k)
      have hy1 := wordS_bd HW.out (3 * k + 1)
      have hy2 := wordS_bd HW.out (3 * k + 2)
      obtain ⟨y0, hy0e⟩ : ∃ y, y = wordS ws (3 * k) := ⟨_, rfl⟩
      obtain ⟨y1, hy1e⟩ : ∃ y, y = wordS ws (3 * k + 1) := ⟨_, rfl⟩
      obtain ⟨y2, hy2e⟩ : ∃ y, y = wordS ws (3 * k + 2) := ⟨_, rfl⟩
      rw [← hy0e] at hy0
      rw [← hy1e] at hy1
      rw [← hy2e] at hy2
      have HPT : Hid (pickedAt c ws k = ⟨pickS f.alo f.ahi y0, pickS f.blo f.bhi y1, pickS f.ulo f.uhi y2⟩) := Lib.hid (by rw [HP.out, hy0e, hy1e, hy2e]; rfl)
      have HY0 := Lib.hid hy0e
      have HY1 := Lib.hid hy1e
      have HY2 := Lib.hid hy2e
      clear hy0e hy1e hy2e e1 HCL HOK HP
      go_upto_if 25 with fail
      have hxA : Ext wo (wo.alloc (.cells #[.int .i64 f.crop, .int .i64 f.value, .int .i64 f.near, .int .i64 f.alo, .int .i64 f.ahi, .int .i64 f.blo, .int .i64 f.bhi, .int .i64 f.ulo, .int .i64 f.uhi] 45)) := (Ext.refl wo).alloc _
      have g3 : ∀ i x, ([.int .i64 f.crop, .int .i64 f.value, .int .i64 f.near, .int .i64 f.alo, .int .i64 f.ahi, .int .i64 f.blo, .int .i64 f.bhi, .int .i64 f.ulo, .int .i64 f.uhi] : List Value)[i]? = some x → (wo.alloc (.cells #[.int .i64 f.crop, .int .i64 f.value, .int .i64 f.near, .int .i64 f.alo, .int .i64 f.ahi, .int .i64 f.blo, .int .i64 f.bhi, .int .i64 f.ulo, .int .i64 f.uhi] 45)).cell? ⟨wo.heap.size, i, none⟩ = some x := (BoxN.made (Ext.refl wo)).cells
      have hrow : ∀ g, (Value.slice a5 k q5).ownBlock = some g → g < wo.heap.size := fun g hg => (own_lt HR.out hg).2
      generalize wo.alloc (.cells #[.int .i64 f.crop, .int .i64 f.value, .int .i64 f.near, .int .i64 f.alo, .int .i64 f.ahi, .int .i64 f.blo, .int .i64 f.bhi, .int .i64 f.ulo, .int .i64 f.uhi] 45) = W2 at *
      have HBOX := Lib.hid g3
      have HXA := Lib.hid hxA
      have HXW := Lib.hid hx
      have HROW := Lib.hid hrow
      clear g3 hxA hx hrow m0 m1 m2 m3 m4 m5 m6 m7 m8 q0 q1 q2 q3
      go_cut [8, 9, 10] from 26 to 54 (fun s8 s9 s10 wx => s8 = .int .i64 y0 ∧ s9 = .int .i64 y1 ∧ s10 = .int .i64 y2 ∧ Ext W2 wx)
      case first =>
        by_cases h0 : ws.length = 0
        · have e0 : y0 = 0 := by rw [HY0.out]; simp [wordS, h0]
          have e1 : y1 = 0 := by rw [HY1.out]; simp [wordS, h0]
          have e2 : y2 = 0 := by rw [HY2.out]; simp [wordS, h0]
          subst e0 e1 e2
          have hd1 : decide ((0 : Int) < (ws.length : Int)) = false := decide_eq_false (by omega)
          have hd2 : decide (0 < ws.length) = false := decide_eq_false (by omega)
          have hd3 : (ws.length : Int) ≤ 0 := by omega
          go_wp2_with fail
          go_meet
          exact ⟨rfl, rfl, rfl, Ext.refl _⟩
        · have hpos : 0 < ws.length := by omega
          have XW2 : Ext w W2 := (X.trans HXW.out).trans HXA.out
          obtain ⟨bw, ow, cw', hwe, d0⟩ := wordS_at HW.out hpos (3 * k)
          simp only [Value.slice.injEq] at hwe
          obtain ⟨rfl, -, rfl⟩ := hwe
          obtain ⟨bw', ow', cw'', hwe, d1⟩ := wordS_at HW.out hpos (3 * k + 1)
          simp only [Value.slice.injEq, Option.some.injEq, Addr.mk.injEq, and_true, true_and] at hwe
          obtain ⟨⟨rfl, rfl⟩, rfl⟩ := hwe
          obtain ⟨bw', ow', cw'', hwe, d2⟩ := wordS_at HW.out hpos (3 * k + 2)
          simp only [Value.slice.injEq, Option.some.injEq, Addr.mk.injEq, and_true, true_and] at hwe
          obtain ⟨⟨rfl, rfl⟩, rfl⟩ := hwe
          rw [← HY0.out] at d0
          rw [← HY1.out] at d1
          rw [← HY2.out] at d2
          have c0 := XW2.keep d0
          have c1 := XW2.keep d1
          have c2 := XW2.keep d2
          have t0 : (3 * (k : Int)).tmod (ws.length : Int) = ((3 * k % ws.length : Nat) : Int) := by rw [Int.tmod_eq_emod_of_nonneg (by omega)]; rfl
          have t1 : (3 * (k : Int) + 1).tmod (ws.length : Int) = (((3 * k + 1) % ws.length : Nat) : Int) := by rw [Int.tmod_eq_emod_of_nonneg (by omega)]; rfl
          have t2 : (3 * (k : Int) + 2).tmod (ws.length : Int) = (((3 * k + 2) % ws.length : Nat) : Int) := by rw [Int.tmod_eq_emod_of_nonneg (by omega)]; rfl
          have r0 : 3 * (k : Int) % (ws.length : Int) = ((3 * k % ws.length : Nat) : Int) := rfl
          have r1 : (3 * (k : Int) + 1) % (ws.length : Int) = (((3 * k + 1) % ws.length : Nat) : Int) := rfl
          have r2 : (3 * (k : Int) + 2) % (ws.length : Int) = (((3 * k + 2) % ws.length : Nat) : Int) := rfl
          have l0 : 3 * k % ws.length < ws.length := Nat.mod_lt _ hpos
          have l1 : (3 * k + 1) % ws.length < ws.length := Nat.mod_lt _ hpos
          have l2 : (3 * k + 2) % ws.length < ws.length := Nat.mod_lt _ hpos
          generalize 3 * k % ws.length = j0 at *
          generalize (3 * k + 1) % ws.length = j1 at *
          generalize (3 * k + 2) % ws.length = j2 at *
          have v0 : IntKind.i64.wrap y0 = y0 := IntWalk.i64_in _ (by omega)
          have v1 : IntKind.i64.wrap y1 = y1 := IntWalk.i64_in _ (by omega)
          have v2 : IntKind.i64.wrap y2 = y2 := IntWalk.i64_in _ (by omega)
          have hwr : IntKind.i64.wrap (3 * (k : Int)) = 3 * (k : Int) := IntWalk.i64_in _ (by omega)
          have hwr1 : IntKind.i64.wrap (3 * (k : Int) + 1) = 3 * (k : Int) + 1 := IntWalk.i64_in _ (by omega)
          have hwr2 : IntKind.i64.wrap (3 * (k : Int) + 2) = 3 * (k : Int) + 2 := IntWalk.i64_in _ (by omega)
          have hwj0 : IntKind.i64.wrap (j0 : Int) = (j0 : Int) := IntWalk.i64_in _ (by omega)
          have hwj1 : IntKind.i64.wrap (j1 : Int) = (j1 : Int) := IntWalk.i64_in _ (by omega)
          have hwj2 : IntKind.i64.wrap (j2 : Int) = (j2 : Int) := IntWalk.i64_in _ (by omega)
          have hne : ¬ (ws.length : Int) = 0 := by omega
          have hgt : (0 : Int) < (ws.length : Int) := by omega
          have hd1 : decide ((0 : Int) < (ws.length : Int)) = true := decide_eq_true hgt
          have hd2 : decide (0 < ws.length) = true := decide_eq_true hpos
          clear d0 d1 d2 HW HR XW2 HY0 HY1 HY2 HBOX HXA HXW HROW HPK HPT X HS
          go_wp2_with fail
          go_region
          all_goals
            go_wp2_with fail
            go_meet
            exact ⟨rfl, rfl, rfl, by (repeat (first | exact Ext.refl _ | (with_reducible assumption) | (with_reducible refine Ext.drew ?_) | (with_reducible refine Ext.alloc ?_ _) | (with_reducible refine Ext.drewN ?_ _) | (with_reducible refine Ext.setCell ?_ (by omega) _) | (with_reducible refine Ext.trans ?_ (by with_reducible assumption))))⟩
      case rest =>
        obtain ⟨rfl, rfl, rfl, hxc⟩ := hcut
        obtain ⟨W3, rfl⟩ : ∃ x, x = wc := ⟨_, rfl⟩
        have HX3 : Hid (Ext W W3) := Lib.hid ((HXW.out.trans HXA.out).trans hxc)
        have g4 : ∀ i x, ([.int .i64 f.crop, .int .i64 f.value, .int .i64 f.near, .int .i64 f.alo, .int .i64 f.ahi, .int .i64 f.blo, .int .i64 f.bhi, .int .i64 f.ulo, .int .i64 f.uhi] : List Value)[i]? = some x → W3.cell? ⟨wo.heap.size, i, none⟩ = some x := fun i x h => hxc.keep (HBOX.out i x h)
        have HR3 : Hid (ThrRow W.heap.size 67 (pickedAt c ws) k (.slice a5 k q5) W3) := Lib.hid (HR.out.ext (HXA.out.trans hxc))
        have hp1 : Hid (∀ W', Calls Tryz.prog 76 #[.agg #[.int .i64 f.alo, .int .i64 f.ahi], .int .i64 y0] W' fun e w' => e = .returned (.int .i64 (pickS f.alo f.ahi y0)) ∧ Ext W' w') := Lib.hid (HPK.out f.alo f.ahi y0 hy0 ⟨fa.1, fa.2.1, fa.2.2.1⟩)
        have hp2 : Hid (∀ W', Calls Tryz.prog 76 #[.agg #[.int .i64 f.blo, .int .i64 f.bhi], .int .i64 y1] W' fun e w' => e = .returned (.int .i64 (pickS f.blo f.bhi y1)) ∧ Ext W' w') := Lib.hid (HPK.out f.blo f.bhi y1 hy1 ⟨fb.1, fb.2.1, fb.2.2.1⟩)
        have hp3 : Hid (∀ W', Calls Tryz.prog 76 #[.agg #[.int .i64 f.ulo, .int .i64 f.uhi], .int .i64 y2] W' fun e w' => e = .returned (.int .i64 (pickS f.ulo f.uhi y2)) ∧ Ext W' w') := Lib.hid (HPK.out f.ulo f.uhi y2 hy2 ⟨fu.1, fu.2.1, fu.2.2.1⟩)
        generalize pickS f.alo f.ahi y0 = A at *
        generalize pickS f.blo f.bhi y1 = B at *
        generalize pickS f.ulo f.uhi y2 = U at *
        have HP0 : Hid (¬ (Value.slice a5 k q5).ownBlock = some wo.heap.size) := Lib.hid (fun e => by have := HROW.out _ e; omega)
        have hSn : ∀ w', KP (fun j => (Value.slice a5 k q5).ownBlock = some j) W3 w' → (w'.cell? ⟨wo.heap.size, 3, none⟩ = some (.int .i64 f.alo) ∧ w'.cell? ⟨wo.heap.size, 4, none⟩ = some (.int .i64 f.ahi) ∧ w'.cell? ⟨wo.heap.size, 5, none⟩ = some (.int .i64 f.blo) ∧ w'.cell? ⟨wo.heap.size, 6, none⟩ = some (.int .i64 f.bhi) ∧ w'.cell? ⟨wo.heap.size, 7, none⟩ = some (.int .i64 f.ulo) ∧ w'.cell? ⟨wo.heap.size, 8, none⟩ = some (.int .i64 f.uhi)) ∧ KP (fun j => (Value.slice a5 k q5).ownBlock = some j) W3 w' := fun w' h =>
          ⟨⟨h.keep HP0.out (g4 3 _ rfl), h.keep HP0.out (g4 4 _ rfl), h.keep HP0.out (g4 5 _ rfl), h.keep HP0.out (g4 6 _ rfl), h.keep HP0.out (g4 7 _ rfl), h.keep HP0.out (g4 8 _ rfl)⟩, h⟩
        have HSS := Lib.hid hSn
        have HONE : Hid (∀ u ∈ ([.int .i64 A, .int .i64 B, .int .i64 U] : List Value), u.oneCell' = true) := Lib.hid (by
          intro u hu
          simp only [List.mem_cons, List.not_mem_nil, or_false] at hu
          rcases hu with rfl | rfl | rfl <;> rfl)
        have HF1 : Hid (k + 1 ≤ maxLen) := Lib.hid (by simp only [maxLen]; omega)
        have HF2 : Hid ((k + 1) * 24 ≤ 140737488355328) := Lib.hid (by omega)
        have HF3 : Hid (W.heap.size ≤ W3.heap.size) := Lib.hid HX3.out.size
        have HXX := Lib.hid X
        have HOWN : Hid (W3.ownsRow W.heap.size 67 3 (.slice a5 k q5) k ((thrsTo (pickedAt c ws) k).flatMap (fun x : Thr => x.c.cs))) := HR3
        clear g4 hSn hxc HR HPK HBOX HXA HXW HROW HW hy0 hy1 hy2 HY0 HY1 HY2 fa fb fu X
        go_upto_region 9 with fail
        go_region_held3 (fun w' => (w'.cell? ⟨wo.heap.size, 3, none⟩ = some (.int .i64 f.alo) ∧ w'.cell? ⟨wo.heap.size, 4, none⟩ = some (.int .i64 f.ahi) ∧ w'.cell? ⟨wo.heap.size, 5, none⟩ = some (.int .i64 f.blo) ∧ w'.cell? ⟨wo.heap.size, 6, none⟩ = some (.int .i64 f.bhi) ∧ w'.cell? ⟨wo.heap.size, 7, none⟩ = some (.int .i64 f.ulo) ∧ w'.cell? ⟨wo.heap.size, 8, none⟩ = some (.int .i64 f.uhi)) ∧ KP (fun j => (Value.slice a5 k q5).ownBlock = some j) W3 w')
          ((refine HSS.out _ ?_; (repeat (first | exact KP.refl _ | (with_reducible assumption) | (with_reducible refine KP.drew ?_) | (with_reducible refine KP.alloc ?_ _) | (with_reducible refine KP.setCell ?_ (by assumption) _) | (with_reducible refine KP.ext ?_ (by with_reducible assumption)) | (with_reducible refine KP.trans ?_ (by with_reducible assumption)) | (with_reducible refine Ext.kp (by with_reducible assumption))))))
          (first
            | (go_at_call 76; (first | (with_reducible refine (hp1.out _).mono ?_) | (with_reducible refine (hp2.out _).mono ?_) | (with_reducible refine (hp3.out _).mono ?_)); rintro e w5 ⟨rfl, hx5⟩)
            | ((refine step_is_app _ _ 59 rfl ?_); (refine step_append_lies _ (by rfl) _ _ 59 (by rfl) W.heap.size 67 i3 (.agg #[.int .i64 0, .int .i64 0, .int .i64 0]) 3 24 Tryz.underlying59 hi3 hz30 hz31 hz32 rfl (by decide) (.slice a5 k q5) k ((thrsTo (pickedAt c ws) k).flatMap (fun x : Thr => x.c.cs)) rfl (own_ext HOWN.out (by (repeat (first | exact Ext.refl _ | (with_reducible assumption) | (with_reducible refine Ext.drew ?_) | (with_reducible refine Ext.alloc ?_ _) | (with_reducible refine Ext.drewN ?_ _) | (with_reducible refine Ext.setCell ?_ (by omega) _) | (with_reducible refine Ext.trans ?_ (by with_reducible assumption)))))) ⟨_, 0, none⟩ 1 1 [.int .i64 A, .int .i64 B, .int .i64 U] (by rfl) rfl (three_in (u := Thr.c ⟨A, B, U⟩) (by (repeat (first | exact Ext.refl _ | (with_reducible assumption) | (with_reducible refine Ext.drew ?_) | (with_reducible refine Ext.alloc ?_ _) | (with_reducible refine Ext.drewN ?_ _) | (with_reducible refine Ext.setCell ?_ (by omega) _) | (with_reducible refine Ext.trans ?_ (by with_reducible assumption))))) (by first | rfl | simp)) HONE.out (by decide) HF1.out HF2.out (le_ext HF3.out (by (repeat (first | exact Ext.refl _ | (with_reducible assumption) | (with_reducible refine Ext.drew ?_) | (with_reducible refine Ext.alloc ?_ _) | (with_reducible refine Ext.drewN ?_ _) | (with_reducible refine Ext.setCell ?_ (by omega) _) | (with_reducible refine Ext.trans ?_ (by with_reducible assumption)))))) _ rfl ?_); intro g cap w4 hown4 hgrow hat hlt4; have hk4 : KP (fun j => (Value.slice a5 k q5).ownBlock = some j) W3 w4 := KP.trans (Ext.kp (by (repeat (first | exact Ext.refl _ | (with_reducible assumption) | (with_reducible refine Ext.drew ?_) | (with_reducible refine Ext.alloc ?_ _) | (with_reducible refine Ext.drewN ?_ _) | (with_reducible refine Ext.setCell ?_ (by omega) _) | (with_reducible refine Ext.trans ?_ (by with_reducible assumption)))))) (KP.grown hgrow (fun _ hg => hg)); have HX4 := Lib.hid (grown_ext (HX3.out.trans (by (repeat (first | exact Ext.refl _ | (with_reducible assumption) | (with_reducible refine Ext.drew ?_) | (with_reducible refine Ext.alloc ?_ _) | (with_reducible refine Ext.drewN ?_ _) | (with_reducible refine Ext.setCell ?_ (by omega) _) | (with_reducible refine Ext.trans ?_ (by with_reducible assumption)))))) hgrow (fun g hg => (own_lt HR3.out hg).1))))
        all_goals
          have HRN : Hid (ThrRow W.heap.size 67 (pickedAt c ws) (k + 1) (.slice (some ⟨g, 0, none⟩) (k + 1) cap) w4) := Lib.hid (ThrRow.next (x := ⟨A, B, U⟩) hown4 HPT.out)
          go_wp2_with fail
          go_roundw
          case rel => exact ⟨k + 1, _, cap, by omega, by go_num, rfl, HRN, HX4.out⟩
          case measure => simp [intOf]; omega
    · have ek : k = c.flds.length := by omega
      subst ek
      have HT := Lib.hid (HR.out.thrs (by omega))
      have HFR : Hid (∀ g o, a5 = some ⟨g, o, none⟩ → w.heap.size ≤ g) := Lib.hid (fun g o hg => by
        subst hg
        have := (own_lt HR.out (g := g) rfl).1
        omega)
      clear HR HCL HW HOK
      go_wp2_with fail
      go_ret
      exact ⟨_, _, rfl, HT.out, HFR.out, by (repeat (first | exact Ext.refl _ | (with_reducible assumption) | (with_reducible refine Ext.drew ?_) | (with_reducible refine Ext.alloc ?_ _) | (with_reducible refine Ext.drewN ?_ _) | (with_reducible refine Ext.setCell ?_ (by omega) _) | (with_reducible refine Ext.trans ?_ (by with_reducible assumption))))⟩
theorem pickedU_any (c : Cas) (v : Value) (ws : List Int) (aw : Option Addr) (nw cw : Nat) (w : World) (hv : CasV w v c) (hc : CasOK c) (hw : U8sW w (.slice aw nw cw) ws) :
    Calls Tryz.prog 38 #[v, .slice aw nw cw] w fun e w' => ∃ v', e = .returned v' ∧ ThrsV w' v' (pickedS c ws) ∧ Ext w w' :=
  (pickedU_new c v ws aw nw cw w hv hc hw).mono (fun e w' ⟨a, q, h1, h2, _, h3⟩ => ⟨_, h1, h2, h3⟩)
end Go.Proofs.YtbmjnilcinfdiaaGreat
