/- Contracts: a part. -/
import Derived.Test.YtfjecbfcnngacaaU
namespace Go.Proofs.Ytfjecbfcnngacaa
open Go.RowKit Go.Hs
attribute [local irreducible] World.setCell World.alloc

set_option maxRecDepth 100000 in
set_option maxHeartbeats 1000000 in
theorem part_any (l : List Tar) (hl : ValidL l) (c d n : Int) (hc0 : 0 ≤ c) (hc1 : c < cropsN l) (hd : 0 ≤ d) (hn0 : 0 ≤ n) (hn1 : n ≤ 100) (p r : Nat) (v : Value) (w : World) (hw : WorkAt l p r v w) :
    Calls Try.prog 62 #[.pointer (some ⟨p, 0, none⟩), spotV c d n] w fun e w' => e = .returned (.int .i64 (partS l c d n)) ∧ ExtBut r w w' ∧ WorkAt l p r v w' := by
  obtain ⟨vl, ok, hlk, hok, hno⟩ := lookup_spot (partS l) c d n r (w.alloc (.cells #[.int .i64 c, .int .i64 d, .int .i64 n] 107)) (hw.memo.ext ((Ext.refl w).alloc _))
  have X := (Ext.refl w).alloc (.cells #[.int .i64 c, .int .i64 d, .int .i64 n] 107)
  have hlk' : ∀ m : Nat, (Instr.lookup 102 (.map (some r)) (spotV c d n) true).run Try.prog ((w.alloc (.cells #[.int .i64 c, .int .i64 d, .int .i64 n] 107)).drewN m) = .ok (.tuple #[.int .i64 vl, .bool ok]) ((w.alloc (.cells #[.int .i64 c, .int .i64 d, .int .i64 n] 107)).drewN m) := fun m => hlk _ rfl
  have hw1 := hw.ext X
  have k0 := hw1.list
  have k1 := hw1.known
  have HW := Lib.hid hw1
  have HOK := Lib.hid hok
  have HNO := Lib.hid hno
  clear hlk hok hno hw hw1
  go_enter Try.func62, Try.ntmps62
  go_wp2_with fail
  have s0 : (w.alloc (.cells #[.int .i64 c, .int .i64 d, .int .i64 n] 107)).cell? ⟨w.heap.size, 0, none⟩ = some (.int .i64 c) := by simp
  have s1 : (w.alloc (.cells #[.int .i64 c, .int .i64 d, .int .i64 n] 107)).cell? ⟨w.heap.size, 1, none⟩ = some (.int .i64 d) := by simp
  have s2 : (w.alloc (.cells #[.int .i64 c, .int .i64 d, .int .i64 n] 107)).cell? ⟨w.heap.size, 2, none⟩ = some (.int .i64 n) := by simp
  generalize (w.alloc (.cells #[.int .i64 c, .int .i64 d, .int .i64 n] 107)) = W at *
  cases ok
  · have hv0 : vl = 0 := HNO.out rfl
    subst hv0
    have hat : ∀ W', Ext W W' → Calls Try.prog 81 #[.agg #[v], .int .i64 d] W' fun e w' => ∃ u : V6, e = .returned u.val ∧ TarU W u (atS l d) ∧ Ext W' w' := fun W' hx => at_any v l d W W' HW.out.tars hx
    have HAT := Lib.hid hat; clear hat
    go_quiet (fail)
    clear hlk'
    have YY : Ext W (W.drewN nq) := (Ext.refl W).drewN _
    have k0' := YY.keep k0
    have k1' := YY.keep k1
    have s0' := YY.keep s0
    have s1' := YY.keep s1
    have s2' := YY.keep s2
    generalize hV : W.drewN nq = V at *
    clear hV
    go_upto_region 4 with fail
    have HS : Hid (∀ w', Ext V w' → (w'.cell? ⟨p, 0, none⟩ = some v ∧ w'.cell? ⟨w.heap.size, 1, none⟩ = some (.int .i64 d)) ∧ Ext V w') := fun w' hx => ⟨⟨hx.keep k0', hx.keep s1'⟩, hx⟩
    go_cut [7] (fun s7 wx => PartCut V (atS l d) s7 wx)
    case first =>
      go_region_held3 (fun w' => (w'.cell? ⟨p, 0, none⟩ = some v ∧ w'.cell? ⟨w.heap.size, 1, none⟩ = some (.int .i64 d)) ∧ Ext V w')
        ((refine HS.out _ ?_; (repeat (first | exact Ext.refl _ | (with_reducible assumption) | (with_reducible refine Ext.drew ?_) | (with_reducible refine Ext.alloc ?_ _) | (with_reducible refine Ext.drewN ?_ _) | (with_reducible refine Ext.setCell ?_ (by omega) _) | (with_reducible refine Ext.trans ?_ (by with_reducible assumption))))))
        (first
          | (go_at_call 81; (with_reducible refine (HAT.out V.drew (YY.trans (Ext.refl V).drew)).mono ?_); rintro e w2 ⟨u, rfl, hu, hx2⟩; obtain ⟨a3, k3, a4, k4, a5, k5, rfl⟩ := hu.slices)
          | (go_at_call 81; (refine (HAT.out _ (by (repeat (first | exact Ext.refl _ | (with_reducible assumption) | (with_reducible refine Ext.drew ?_) | (with_reducible refine Ext.alloc ?_ _) | (with_reducible refine Ext.drewN ?_ _) | (with_reducible refine Ext.setCell ?_ (by omega) _) | (with_reducible refine Ext.trans ?_ (by with_reducible assumption)))))).mono ?_); rintro e w2 ⟨u, rfl, hu, hx2⟩; obtain ⟨a3, k3, a4, k4, a5, k5, rfl⟩ := hu.slices; have Z : Cell6 w2 V.heap.size 0 ⟨.int .i64 0, .bool false, .int .i64 0, .slice none 0 0, .slice none 0 0, .slice none 0 0⟩ := Cell6.ext hx2 _ _ _ (by simp [Cell6]); have FR : ∀ o, w2.frozen? ⟨V.heap.size, o, none⟩ = false := fun o => (hx2.frozen (by simp)).trans (by simp); have ZZ := Lib.hid Z; obtain ⟨z0, z1, z2, z3, z4, z5⟩ := Z; simp only [Nat.zero_add] at z0 z1 z2 z3 z4 z5))
      · go_wp2_with fail
        go_meet
        exact PartCut.late (u := ⟨_, _, _, _, _, _⟩) (by (repeat (first | exact Ext.refl _ | (with_reducible assumption) | (with_reducible refine Ext.drew ?_) | (with_reducible refine Ext.alloc ?_ _) | (with_reducible refine Ext.drewN ?_ _) | (with_reducible refine Ext.setCell ?_ (by omega) _) | (with_reducible refine Ext.trans ?_ (by with_reducible assumption))))) (hu.ext YY) _
      · go_wp2_with fail
        go_meet
        have hXX : Ext V w2 := by (repeat (first | exact Ext.refl _ | (with_reducible assumption) | (with_reducible refine Ext.drew ?_) | (with_reducible refine Ext.alloc ?_ _) | (with_reducible refine Ext.drewN ?_ _) | (with_reducible refine Ext.setCell ?_ (by omega) _) | (with_reducible refine Ext.trans ?_ (by with_reducible assumption))))
        have hfin := PartCut.early hXX (Nat.le_refl _) ZZ.out (hu.ext YY)
        simp only [World.set6] at hfin
        exact hfin
    case rest =>
      obtain ⟨B, u, rfl, hc, hu, hx, hB⟩ := hcut
      obtain ⟨a3, k3, a4, k4, a5, k5, rfl⟩ := hu.slices
      have HU := Lib.hid hu
      obtain ⟨q0, q1, q2, q3, q4, q5⟩ := hc
      simp only [Nat.zero_add] at q0 q1 q2 q3 q4 q5
      have n0 := hx.keep s0'
      have n1 := hx.keep s1'
      have n2 := hx.keep s2'
      obtain ⟨g1, g2, g3, g4⟩ := loss_pre hl hc0 hc1 hd
      have hls : Calls Try.prog 82 #[.agg #[.int .i64 (atS l d).start, .bool (atS l d).whole, .int .i64 (atS l d).least, .slice a3 (atS l d).weeks.length k3, .slice a4 (atS l d).counts.length k4, .slice a5 (atS l d).rates.length k5], spotV c d n] wc fun e w' => e = .returned (.int .i64 (lossS l c d n)) ∧ Ext wc w' := loss_any ⟨_, _, _, _, _, _⟩ (atS l d) c d n wc hu hc0 g1 g2 g3 g4 hn0 hn1
      have hlb := lossS_bd hl hc0 hc1 hd hn0 hn1
      have hle := (hl.at hd).1.least
      have HPS := Lib.hid (show partS l c d n = (if (atS l d).least ≤ lossS l c d n then (if (atS l d).whole then lossS l c d n else lossS l c d n - (atS l d).least) else 0) from rfl)
      clear g1 g2 g3 g4 hu
      generalize lossS l c d n = ls at *
      go_wp2_with fail
      (with_reducible refine hls.mono ?_)
      rintro e w3 ⟨rfl, hx3⟩
      have q0 := hx3.keep q0
      have q1 := hx3.keep q1
      have q2 := hx3.keep q2
      have q3 := hx3.keep q3
      have q4 := hx3.keep q4
      have q5 := hx3.keep q5
      have n0 := hx3.keep n0
      have n1 := hx3.keep n1
      have n2 := hx3.keep n2
      have kk1 := hx3.keep (hx.keep k1')
      have Y3 : Ext W w3 := YY.trans (hx.trans hx3)
      by_cases hge : (atS l d).least ≤ ls
      · have hS3 : Hid (∀ w', Ext w3 w' → (w'.cell? ⟨B, 0, none⟩ = some (.int .i64 (atS l d).start) ∧ w'.cell? ⟨B, 1, none⟩ = some (.bool (atS l d).whole) ∧ w'.cell? ⟨B, 2, none⟩ = some (.int .i64 (atS l d).least) ∧ w'.cell? ⟨B, 3, none⟩ = some (.slice a3 (atS l d).weeks.length k3) ∧ w'.cell? ⟨B, 4, none⟩ = some (.slice a4 (atS l d).counts.length k4) ∧ w'.cell? ⟨B, 5, none⟩ = some (.slice a5 (atS l d).rates.length k5)) ∧ Ext w3 w') :=
          fun w' hx' => ⟨⟨hx'.keep q0, hx'.keep q1, hx'.keep q2, hx'.keep q3, hx'.keep q4, hx'.keep q5⟩, hx'⟩
        have hps := HPS.out.trans (if_pos hge)
        clear hls
        go_wp2_with fail
        go_upto_region 7 with fail
        go_cut [5] (fun s5 wx => s5 = .int .i64 (partS l c d n) ∧ Ext w3 wx)
        case first =>
          cases hwh : (atS l d).whole
          · rw [hwh] at q1 hS3 hps
            simp only [Bool.false_eq_true, if_false] at hps
            have HPSF := Lib.hid hps
            clear hps hwh
            have hfield : ∀ W, (Instr.field 126 (.agg #[.func (.func 97) #[] #[]]) 0).run Try.prog W = .ok (.func (.func 97) #[] #[]) W := fun _ => by kernel_rfl
            go_region_held3 (fun w' => (w'.cell? ⟨B, 0, none⟩ = some (.int .i64 (atS l d).start) ∧ w'.cell? ⟨B, 1, none⟩ = some (.bool false) ∧ w'.cell? ⟨B, 2, none⟩ = some (.int .i64 (atS l d).least) ∧ w'.cell? ⟨B, 3, none⟩ = some (.slice a3 (atS l d).weeks.length k3) ∧ w'.cell? ⟨B, 4, none⟩ = some (.slice a4 (atS l d).counts.length k4) ∧ w'.cell? ⟨B, 5, none⟩ = some (.slice a5 (atS l d).rates.length k5)) ∧ Ext w3 w')
              ((refine hS3.out _ ?_; (repeat (first | exact Ext.refl _ | (with_reducible assumption) | (with_reducible refine Ext.drew ?_) | (with_reducible refine Ext.alloc ?_ _) | (with_reducible refine Ext.drewN ?_ _) | (with_reducible refine Ext.setCell ?_ (by omega) _) | (with_reducible refine Ext.trans ?_ (by with_reducible assumption))))))
              (first
                | (go_at_call 83; refine (rule_any _ _ _ _ _ _ _).mono ?_; rintro e w4 ⟨rfl, hx4⟩; simp only [ruleV, Bool.false_eq_true, if_false])
                | (go_at_call 97; refine (excess_any _ _ _ _ _ _ _ _ hle.1 hle.2 hlb.1 hlb.2).mono ?_; rintro e w5 ⟨rfl, hx5⟩))
            go_wp2_with fail
            go_meet
            exact ⟨congrArg (Value.int .i64) HPSF.out.symm, by (repeat (first | exact Ext.refl _ | (with_reducible assumption) | (with_reducible refine Ext.drew ?_) | (with_reducible refine Ext.alloc ?_ _) | (with_reducible refine Ext.drewN ?_ _) | (with_reducible refine Ext.setCell ?_ (by omega) _) | (with_reducible refine Ext.trans ?_ (by with_reducible assumption))))⟩
          · rw [hwh] at q1 hS3 hps
            simp only [if_true] at hps
            have HPSF := Lib.hid hps
            clear hps hwh
            have hfield : ∀ W, (Instr.field 126 (.agg #[.func (.func 96) #[] #[]]) 0).run Try.prog W = .ok (.func (.func 96) #[] #[]) W := fun _ => by kernel_rfl
            go_region_held3 (fun w' => (w'.cell? ⟨B, 0, none⟩ = some (.int .i64 (atS l d).start) ∧ w'.cell? ⟨B, 1, none⟩ = some (.bool true) ∧ w'.cell? ⟨B, 2, none⟩ = some (.int .i64 (atS l d).least) ∧ w'.cell? ⟨B, 3, none⟩ = some (.slice a3 (atS l d).weeks.length k3) ∧ w'.cell? ⟨B, 4, none⟩ = some (.slice a4 (atS l d).counts.length k4) ∧ w'.cell? ⟨B, 5, none⟩ = some (.slice a5 (atS l d).rates.length k5)) ∧ Ext w3 w')
              ((refine hS3.out _ ?_; (repeat (first | exact Ext.refl _ | (with_reducible assumption) | (with_reducible refine Ext.drew ?_) | (with_reducible refine Ext.alloc ?_ _) | (with_reducible refine Ext.drewN ?_ _) | (with_reducible refine Ext.setCell ?_ (by omega) _) | (with_reducible refine Ext.trans ?_ (by with_reducible assumption))))))
              (first
                | (go_at_call 83; refine (rule_any _ _ _ _ _ _ _).mono ?_; rintro e w4 ⟨rfl, hx4⟩; simp only [ruleV, if_true])
                | (go_at_call 96; refine (whole_any _ _ _ _ _ _ _ _ _ rfl).mono ?_; rintro e w5 ⟨rfl, hx5⟩))
            go_wp2_with fail
            go_meet
            exact ⟨congrArg (Value.int .i64) HPSF.out.symm, by (repeat (first | exact Ext.refl _ | (with_reducible assumption) | (with_reducible refine Ext.drew ?_) | (with_reducible refine Ext.alloc ?_ _) | (with_reducible refine Ext.drewN ?_ _) | (with_reducible refine Ext.setCell ?_ (by omega) _) | (with_reducible refine Ext.trans ?_ (by with_reducible assumption))))⟩
        case rest =>
          obtain ⟨rfl, hx5⟩ := hcut
          have Y5 := Y3.trans hx5
          have n0 := hx5.keep n0
          have n1 := hx5.keep n1
          have n2 := hx5.keep n2
          have kk1 := hx5.keep kk1
          obtain ⟨o, hup, hmm⟩ := update_spot (partS l) c d n r wc.drew ((HW.out.memo.ext Y5).ext (Ext.refl _).drew)
          clear hps
          generalize hpe : partS l c d n = ps at *
          have HPE := Lib.hid hpe; clear hpe
          go_wp2_with fail
          go_region
          all_goals
            go_wp2_with fail
            go_ret
            exact ⟨ret_int HPE.out.symm, ((X.trans Y5.drew).but r).trans (putObj_but _ _ _), (HW.out.ext Y5.drew).but (putObj_but _ _ _) hmm⟩
      · have hps := HPS.out.trans (if_neg hge)
        obtain ⟨o, hup, hmm⟩ := update_spot (partS l) c d n r w3.drew ((HW.out.memo.ext Y3).ext (Ext.refl _).drew)
        rw [hps] at hup
        have HPS0 := Lib.hid hps
        clear hps
        go_wp2_with fail
        clear q0 q1 q2 q3 q4 q5 hls hlb hle
        go_region
        all_goals
          go_wp2_with fail
          go_ret
          exact ⟨ret_int HPS0.out.symm, ((X.trans Y3.drew).but r).trans (putObj_but _ _ _), (HW.out.ext Y3.drew).but (putObj_but _ _ _) hmm⟩
  · have hvp : vl = partS l c d n := HOK.out rfl
    have HVP := Lib.hid hvp; clear hvp
    go_quiet (fail)
    go_wp2_with fail
    go_ret
    have XX : Ext W (W.drewN nq) := (Ext.refl _).drewN _
    exact ⟨ret_int HVP.out, ((X.trans XX).but r), HW.out.ext XX⟩
end Go.Proofs.Ytfjecbfcnngacaa
