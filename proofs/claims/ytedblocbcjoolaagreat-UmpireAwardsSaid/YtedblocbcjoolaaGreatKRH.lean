/- Contracts of the reference of layer 7: all fields for which the umpire matters; a hull. -/
import Derived.Test.YtedblocbcjoolaaGreatKRG
set_option linter.unusedSimpArgs false
set_option linter.unusedVariables false
namespace Go.Proofs.YtedblocbcjoolaaGreat
open Go.RowKit Go.Hs
attribute [local irreducible] World.setCell World.alloc

set_option maxRecDepth 100000 in
theorem Hull_any (lo hi n : Int) (w : World) : Calls Tryz.prog 35 #[.agg #[.int .i64 lo, .int .i64 hi], .int .i64 n] w fun e w' => e = .returned (.agg #[.int .i64 (min lo n), .int .i64 (max hi n)]) ∧ Ext w w' := by
  obtain ⟨lw, hlw⟩ : ∃ lw, lw = min lo n := ⟨_, rfl⟩
  obtain ⟨hg, hhg⟩ : ∃ hg, hg = max hi n := ⟨_, rfl⟩
  have hmn : ∀ w, (Builtin.min_ #[3, 3] 3 #[.int .i64 lo, .int .i64 n]).run Tryz.prog w = .ok (.int .i64 lw) w := fun w => umin_i64 (by split <;> omega) _ _ _
  have hmx : ∀ w, (Builtin.max_ #[3, 3] 3 #[.int .i64 hi, .int .i64 n]).run Tryz.prog w = .ok (.int .i64 hg) w := fun w => umax_i64 (by split <;> omega) _ _ _
  rw [← hlw, ← hhg]
  clear hlw hhg
  go_enter Tryz.func35, Tryz.ntmps35
  go_wp2_with fail
  exact bodyPost_ret (v := .agg #[.int .i64 lw, .int .i64 hg]) (by simp [results, Tryz.results35, go_sem]) rfl ⟨rfl, by (repeat (first | exact Ext.refl _ | (with_reducible assumption) | (with_reducible refine Ext.drew ?_) | (with_reducible refine Ext.alloc ?_ _) | (with_reducible refine Ext.drewN ?_ _) | (with_reducible refine Ext.setCell ?_ (by omega) _) | (with_reducible refine Ext.trans ?_ (by with_reducible assumption))))⟩

set_option maxRecDepth 100000 in
set_option maxHeartbeats 4000000 in
theorem RMatters_any (c : Cas) (v : Value) (w : World) (hv : CasV w v c) (hc : CasOK c) (h0 : checkS c.tars = 0) :
    Calls Tryz.prog 15 #[v] w fun e w' => ∃ r, e = .returned r ∧ IntsV w' r (mattersS c) ∧ Ext w w' := by
  have HMA : Hid (∀ k (hk : k < c.flds.length) w', Ext w w' → Calls Tryz.prog 37 #[v, c.flds[k].c.val] w' fun e w'' => e = .returned (.bool (matterB c (c.flds.getD k default))) ∧ Ext w' w'') :=
    Lib.hid (fun k hk w' hx => by
      have e : c.flds.getD k default = c.flds[k] := by simp [hk]
      rw [e]
      exact IsMatter_any c v _ w' (hv.ext hx) hc h0 (hc.flds _ (List.getElem_mem hk)))
  obtain ⟨a1, c1, a2, c2, rfl, -, -, hcl, hl1, hl2⟩ := hv.open
  have HCL : Hid (∀ w', Ext w w' → Cells9 w' a2 (c.flds.map Fld.c)) := Lib.hid (fun w' hx => hcl.ext hx)
  obtain ⟨i1, hi1, hz10, hz11, hz12⟩ := info_parts info_int
  have HMS := Lib.hid (mattersS_upto c)
  have hfew := hc.few
  clear hv hcl hc h0
  generalize mattersS c = ms at *
  generalize hgg : (fun i => matterB c (c.flds.getD i default)) = g at *
  have HMA' : Hid (∀ k (hk : k < c.flds.length) w', Ext w w' → Calls Tryz.prog 37 #[casV a1 c.tars.length c1 c.day c.fee a2 c.flds.length c2, c.flds[k].c.val] w' fun e w'' => e = .returned (.bool (g k)) ∧ Ext w' w'') := Lib.hid (by rw [← hgg]; exact HMA.out)
  clear HMA hgg
  unfold casV at *
  go_enter Tryz.func15, Tryz.ntmps15
  go_wp2_with fail
  have X : Ext w (w.alloc (.cells #[.slice a1 c.tars.length c1, .int .i64 c.day, .int .i64 c.fee, .slice a2 c.flds.length c2] 25)) := by (repeat (first | exact Ext.refl _ | (with_reducible assumption) | (with_reducible refine Ext.drew ?_) | (with_reducible refine Ext.alloc ?_ _) | (with_reducible refine Ext.drewN ?_ _) | (with_reducible refine Ext.setCell ?_ (by omega) _) | (with_reducible refine Ext.trans ?_ (by with_reducible assumption))))
  have HS : Hid (∀ w', Ext (w.alloc (.cells #[.slice a1 c.tars.length c1, .int .i64 c.day, .int .i64 c.fee, .slice a2 c.flds.length c2] 25)) w' → (w'.cell? ⟨w.heap.size, 0, none⟩ = some (.slice a1 c.tars.length c1) ∧ w'.cell? ⟨w.heap.size, 1, none⟩ = some (.int .i64 c.day) ∧ w'.cell? ⟨w.heap.size, 2, none⟩ = some (.int .i64 c.fee) ∧ w'.cell? ⟨w.heap.size, 3, none⟩ = some (.slice a2 c.flds.length c2)) ∧ Ext (w.alloc (.cells #[.slice a1 c.tars.length c1, .int .i64 c.day, .int .i64 c.fee, .slice a2 c.flds.length c2] 25)) w') := Lib.hid (fun w' hx => ⟨⟨hx.keep (by simp [go_sem]), hx.keep (by simp [go_sem]), hx.keep (by simp [go_sem]), hx.keep (by simp [go_sem])⟩, hx⟩)
  have HSf : Hid (∀ w', Ext (w.alloc (.cells #[.slice a1 c.tars.length c1, .int .i64 c.day, .int .i64 c.fee, .slice a2 c.flds.length c2] 25)) w' → ∀ o, w'.frozen? ⟨w.heap.size, o, none⟩ = false) := Lib.hid (fun w' hx o => (hx.frozen (by simp)).trans (by simp [go_sem]))
  have HSz : w.heap.size + 1 ≤ (w.alloc (.cells #[.slice a1 c.tars.length c1, .int .i64 c.day, .int .i64 c.fee, .slice a2 c.flds.length c2] 25)).heap.size := by simp
  generalize (w.alloc (.cells #[.slice a1 c.tars.length c1, .int .i64 c.day, .int .i64 c.fee, .slice a2 c.flds.length c2] 25)) = W at *
  go_loopw [3, 4] (fun s3 s4 wr => ∃ (j m : Nat) (a5 : Option Addr) (q5 : Nat), j ≤ c.flds.length ∧ s4 = .int .i64 j ∧ s3 = .slice a5 m q5 ∧ Hid (m = (upto g j).length ∧ UpRow W.heap.size 3 g j (.slice a5 m q5) wr) ∧ Ext W wr) (fun _ s _ => c.flds.length - (intOf s).toNat)
  case atStart => exact ⟨0, 0, none, 0, Nat.zero_le _, rfl, rfl, Lib.hid ⟨rfl, World.ownsRow_nil _ _ _ _⟩, Ext.refl _⟩
  case round =>
    obtain ⟨j, m, a5, q5, hj, rfl, rfl, HR, hx⟩ := hrel
    obtain ⟨wo, rfl⟩ : ∃ x, x = wr := ⟨_, rfl⟩
    obtain ⟨⟨q0, q1, q2, q3⟩, -⟩ := HS.out wo hx
    by_cases hlt2 : j < c.flds.length
    · have hma := Lib.hid (HMA'.out j hlt2)
      obtain ⟨b, off, rfl, hce⟩ := HCL.out _ (X.trans hx) j (by simpa using hlt2)
      have e1 : (c.flds.map Fld.c)[j]'(by simpa using hlt2) = (c.flds[j]).c := by simp
      rw [e1] at hce
      clear e1
      generalize c.flds[j] = f at *
      obtain ⟨cr, va, ne, al, ah, bl, bh, ul, uh⟩ := f
      obtain ⟨m0, m1, m2, m3, m4, m5, m6, m7, m8⟩ := hce
      simp only [Fld.c] at m0 m1 m2 m3 m4 m5 m6 m7 m8 hma
      have hk0 : (0 : Int) ≤ (j : Int) := by omega
      have hki : (j : Int) < (c.flds.length : Int) := by omega
      go_upto_region 5 with fail
      refine wp_region_quiet (C := Ext wo) (by kernel_rfl) (by kernel_rfl) (Ext.drew (by (repeat (first | exact Ext.refl _ | (with_reducible assumption) | (with_reducible refine Ext.drew ?_) | (with_reducible refine Ext.alloc ?_ _) | (with_reducible refine Ext.drewN ?_ _) | (with_reducible refine Ext.setCell ?_ (by omega) _) | (with_reducible refine Ext.trans ?_ (by with_reducible assumption)))))) ?_
      rw [show ∀ (l : List Oper), l.toArray.toList = l from fun l => rfl]
      repeat (first
        | go_big_quiet_skip
        | (go_big_quiet_want
           first
            | (go_big_quiet_op; go_big_quiet_on)
            | (apply Exists.intro
               refine ⟨fun w' hxw => ?_, ?_⟩
               focus (have q0 := hxw.keep q0; have q1 := hxw.keep q1; have q2 := hxw.keep q2; have q3 := hxw.keep q3; have m0 := hxw.keep m0; have m1 := hxw.keep m1; have m2 := hxw.keep m2; have m3 := hxw.keep m3; have m4 := hxw.keep m4; have m5 := hxw.keep m5; have m6 := hxw.keep m6; have m7 := hxw.keep m7; have m8 := hxw.keep m8; go_simp; first | exact rfl | (with_reducible refine (hma.out w' (Ext.trans (Ext.trans X hx) hxw)).mono ?_; exact fun e w'' h => ⟨h.1, hxw.trans h.2⟩))
               simp only [Act.put, List.setIfInBounds_toArray, List.set_cons_zero, List.set_cons_succ]
               go_big_quiet_on)))
      refine wpQuiet_nil ?_
      intro w2 hx2
      obtain ⟨w4, rfl⟩ : ∃ x, x = w2 := ⟨_, rfl⟩
      have X4 : Ext W w4 := hx.trans hx2
      clear m0 m1 m2 m3 m4 m5 m6 m7 m8 q0 q1 q2 q3
      have OWN := HR.out.2.ext hx2
      have hm := HR.out.1
      cases hg : g j with
      | false =>
        have HR' : Hid (m = (upto g (j + 1)).length ∧ UpRow W.heap.size 3 g (j + 1) (.slice a5 m q5) w4) := Lib.hid (by unfold UpRow at *; rw [upto_no hg]; exact ⟨hm, OWN⟩)
        clear OWN hm
        go_wp2_with fail
        go_roundw
        case rel => exact ⟨j + 1, m, a5, q5, by omega, by go_num, rfl, HR', X4⟩
        case measure => simp [intOf]; omega
      | true =>
        have HU := Lib.hid (upto_yes hg)
        have hml : m ≤ 1000 := by have := upto_len g j; omega
        unfold UpRow at OWN
        rw [← hm] at OWN
        have HOW := Lib.hid OWN
        have HM := Lib.hid hm
        clear OWN hm
        go_wp2_with (at_builtin; refine wpList_append_own_at _ rfl _ _ 40 rfl W.heap.size 3 i1 (.int .i64 0) 1 8 Tryz.underlying40 hi1 hz10 hz11 hz12 rfl (by decide) (.slice a5 m q5) m ((upto g j).map (.int .i64)) rfl ?own ⟨w4.heap.size, 0, none⟩ 1 1 [.int .i64 (j : Int)] rfl rfl (cell_one_new _ _ _) ?one ?f1 ?f2 ?f3 ?next)
        case own => exact own_keep HOW.out (fun _ hg => ((Ext.refl w4).alloc _).heap (own_lt HOW.out hg).2)
        case one => first | rfl | (intro u hu; simp at hu; subst hu; rfl)
        case f1 => simp only [maxLen]; omega
        case f2 => omega
        case f3 => have h1 := X4.size; simp; omega
        case next =>
          intro v' w7 hown hgrow hnil hat
          have hx7 : Ext W w7 := grown_ext (X4.alloc _) hgrow (fun _ hg => (own_lt HOW.out hg).1)
          have HUR : Hid (m + 1 = (upto g (j + 1)).length ∧ UpRow W.heap.size 3 g (j + 1) v' w7) := Lib.hid (by
            unfold UpRow
            rw [HU.out]
            simp only [List.length_append, List.length_cons, List.length_nil, List.map_append, List.map_cons, List.map_nil]
            rw [← HM.out]
            exact ⟨rfl, hown⟩)
          clear hnil hat hgrow
          rcases own_open hown with ⟨-, h0⟩ | ⟨g', cap, rfl, -, -, -, -⟩
          · omega
          · clear hown
            go_wp2_with fail
            go_roundw
            case rel => exact ⟨j + 1, m + 1, _, _, by omega, by go_num, rfl, HUR, hx7⟩
            case measure => simp [intOf]; omega
    · have ek : j = c.flds.length := by omega
      subst ek
      have hi := HR.out.2.ints (by omega)
      have HI := Lib.hid hi
      clear hi
      go_wp2_with fail
      go_ret
      exact ⟨_, rfl, by rw [HMS.out]; exact HI.out, X.trans hx⟩
end Go.Proofs.YtedblocbcjoolaaGreat
