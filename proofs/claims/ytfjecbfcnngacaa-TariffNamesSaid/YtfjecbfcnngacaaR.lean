/- Contracts: the bounds of a claim. -/
import Derived.Test.YtfjecbfcnngacaaY
import Derived.Test.YtfjecbfcnngacaaQ
import Derived.Shelf.RegionOpen
namespace Go.Proofs.Ytfjecbfcnngacaa
open Go.RowKit Go.Hs
attribute [local irreducible] World.setCell World.alloc
attribute [local go_sem] Oper.semAt_some
attribute [local simp] wide_fn wide_fn' wide_depth wide_round
attribute [local go_sem] wide_fn wide_fn' wide_depth wide_round

set_option maxHeartbeats 400000 in
theorem truths_any (c : Cla) (w : World) :
    Calls Try.prog 92 #[c.u.val] w fun e w' => e = .returned (.func (.func 110) #[] #[.pointer (some ⟨w.heap.size, 0, none⟩)]) ∧ w' = w.alloc (.cells #[c.u.c0, c.u.c1, c.u.c2, c.u.c3, c.u.c4, c.u.c5] 44) := by
  go_enter Try.func92, Try.ntmps92
  go_wp2_with fail
  go_ret
  exact ⟨rfl, rfl⟩

theorem fn_truths1 : FnOK 110 := fun args w => by simp [go_sem]

set_option maxRecDepth 100000 in
set_option maxHeartbeats 2000000 in
theorem ends_any (l : List Tar) (hl : ValidL l) (c : Cla) (hc : ClaimOK l c) (p r : Nat) (v : Value) (w : World) (hw : WorkAt l p r v w) :
    CallsIn Fence.wide 0 Try.prog 70 #[.pointer (some ⟨p, 0, none⟩), c.u.val] w fun e w' =>
      e = .returned (.tuple #[.agg #[.int .i64 (endsS l c).lo, .int .i64 (endsS l c).hi], .agg #[.int .i64 (endsS l c).ld, .int .i64 (endsS l c).ln], .agg #[.int .i64 (endsS l c).hd, .int .i64 (endsS l c).hn]]) ∧ ExtBut r w w' ∧ WorkAt l p r v w' := by
  refine callsIn_of_wp_marks Try.func70 rfl trivial ?_ rfl
  simp only [Try.ntmps70, List.size_toArray, List.length_cons, List.length_nil, Nat.reduceAdd, Nat.reduceSub, Array.replicate_succ, Array.replicate_zero, List.push_toArray, List.append_toArray, List.nil_append, List.cons_append]
  have htr : ∀ W, CallsIn Fence.wide 0 Try.prog 92 #[c.u.val] W _ := fun W => callsIn_wide.2 (truths_any c W)
  gi_wp2_with (gi_at_call 92; (with_reducible refine (htr _).mono ?_); rintro e w' ⟨rfl, rfl⟩)
  refine range_wide 110 #[.pointer (some ⟨w.heap.size + 6, 0, none⟩)] rfl fn_truths1 ?_
  intro fn
  have hsz : (endsW w p c).heap.size = w.heap.size + 7 := by simp [endsW]
  have HE := fun rec => endsW_I l c p r v w hw rec
  simp only [endsW] at hsz HE
  rw [hsz]
  generalize hrec : ({ state := .ready, pending := none, fn := fn, tmps := _, params := _, assign := _, body := _, defers := w.heap.size + 7 } : Loop) = rec
  have HE := HE rec
  have hCI : ((sizeOfR c.clo c.chi : Nat) : Int) = c.chi - c.clo + 1 := by have := hc.count; unfold sizeOfR; omega
  have hDI : ((sizeOfR c.dlo c.dhi : Nat) : Int) = c.dhi - c.dlo + 1 := by have := hc.day; unfold sizeOfR; omega
  have hrw : r < w.heap.size := hw.memo.lt
  refine (truths1_any (w.heap.size + 8) c hc.day hc.count (w.heap.size + 6) (fun d n W => EndsI l c p r w w.heap.size (w.heap.size + 8) (w.heap.size + 7) rec (endsTo l c d n) W) _ (fun d n W h => h.tb) ?hr ?hs HE).mono ?_
  case hs =>
    intro d n W1 hn h
    have e : n = sizeOfR c.clo c.chi := by omega
    subst e
    simp only [endsTo] at h ⊢
    rw [seqTo_turn] at h
    exact h
  case hr =>
    intro d n W1 hd hn hI
    refine ⟨_, _, _, _, run_yield hI.lo (by subst hrec; rfl), ?_⟩
    obtain ⟨RR, hRR⟩ : ∃ RR : Ending → World → Prop, RR = (fun e w2 => e = .returned (.bool true) ∧ EndsI l c p r w w.heap.size (w.heap.size + 8) (w.heap.size + 7) rec (endsTo l c d (n + 1)) w2) := ⟨_, rfl⟩
    have HRR := Lib.hid hRR
    refine RoundIn.mono (R := RR) ?_ (fun e w' h => by rw [HRR.out] at h; exact h)
    clear hRR
    refine roundIn_of_wpIn trivial ?_
    have hpay : ∀ W', WorkAt l p r v W' → CallsIn (Fence.wide.inRound (w.heap.size + 8)) 0 Try.prog 73 #[.pointer (some ⟨p, 0, none⟩), c.u.val, .agg #[.int .i64 (c.dlo + d), .int .i64 (c.clo + n)]] W' fun e w' => e = .returned (.int .i64 (payS l c (c.dlo + d) (c.clo + n))) ∧ ExtBut r W' w' ∧ WorkAt l p r v w' :=
      fun W' h => CallsIn.inRound _ (callsIn_wide.2 (pay_any l hl c hc (c.dlo + d) (c.clo + n) (by have := hc.day; omega) (by have := hc.count; omega) (by have := hc.count; omega) p r v W' h))
    have HPAY := Lib.hid hpay; clear hpay
    have hrst : rec.state = .ready := by subst hrec; rfl
    have HRS := Lib.hid hrst; clear hrst
    have hne : endsTo l c d (n + 1) = (endsTo l c d n).next (payS l c (c.dlo + d) (c.clo + n)) (c.dlo + d) (c.clo + n) := by
      simp only [endsTo]; rw [seqTo_next, foldE_snoc]
    have HNE := Lib.hid hne; clear hne
    generalize endsTo l c d n = s at *
    generalize payS l c (c.dlo + d) (c.clo + n) = pv at *
    have HI := Lib.hid hI
    rw [← hrec]
    simp only [Array.zip_eq_zipWith]
    have HREC := Lib.hid hrec; clear hrec
    gi_wp2_with fail
    have hA := HI.out.alloc (.cells #[.int .i64 (c.dlo + d), .int .i64 (c.clo + n)] 47)
    refine ⟨_, run_beginRound hA.lo HRS.out, ?_⟩
    have hT := hA.turn (by omega) { rec with state := .busy }
    have u0 : (W1.alloc (.cells #[.int .i64 (c.dlo + d), .int .i64 (c.clo + n)] 47)).cell? ⟨W1.heap.size, 0, none⟩ = some (.int .i64 (c.dlo + d)) := by simp
    have u1 : (W1.alloc (.cells #[.int .i64 (c.dlo + d), .int .i64 (c.clo + n)] 47)).cell? ⟨W1.heap.size, 1, none⟩ = some (.int .i64 (c.clo + n)) := by simp
    have hWs : w.heap.size + 8 < W1.heap.size := (Array.getElem?_eq_some_iff.1 hI.lo).1
    have hLne : w.heap.size + 8 ≠ W1.heap.size := by have := (Array.getElem?_eq_some_iff.1 hI.lo).1; omega
    have v0 := (putObj_cell hLne (.loop { rec with state := .busy })).trans u0
    have v1 := (putObj_cell hLne (.loop { rec with state := .busy })).trans u1
    generalize (W1.alloc (.cells #[.int .i64 (c.dlo + d), .int .i64 (c.clo + n)] 47)).putObj (w.heap.size + 8) (.loop { rec with state := .busy }) = W2 at *
    obtain ⟨z0, ⟨z1, z2, z3, z4, z5, z6⟩, ⟨z7, z8⟩, ⟨z9, z10⟩, ⟨z11, z12⟩, z13⟩ := hT.flat
    have HT := Lib.hid hT
    have hwk : WorkAt l p r v W2 := hw.but hT.but hT.memo
    clear hT hA u0 u1 hI hw HE
    gi_wp2_with fail
    (with_reducible refine (HPAY.out _ hwk).mono ?_)
    rintro e w3 ⟨rfl, hx3, hw3⟩
    have kk := hx3.kc hwk.memo.noCells
    have hE3 := HT.out.step hx3 hw3.memo
    have t0 := kk _ _ _ v0
    have t1 := kk _ _ _ v1
    clear v0 v1 z0 z1 z2 z3 z4 z5 z6 z7 z8 z9 z10 z11 z12 z13 kk hx3 hwk hw3
    obtain ⟨z0, ⟨z1, z2, z3, z4, z5, z6⟩, ⟨z7, z8⟩, ⟨z9, z10⟩, ⟨z11, z12⟩, z13⟩ := hE3.flat
    obtain ⟨ff2, ff3, ff4, ff5⟩ := hE3.flatF
    have HE3 := Lib.hid hE3; clear hE3
    clear z0 z1 z2 z3 z4 z5 z6
    obtain ⟨sf, slo, shi, sld, sln, shd, shn⟩ := s
    simp only at z7 z8 z9 z10 z11 z12 z13
    have hmix : Try.prog.follows .mixedOrders = true := by kernel_rfl
    have g2 : ¬ W1.heap.size = w.heap.size + 1 + 1 := by omega
    have g3 : ¬ W1.heap.size = w.heap.size + 1 + 1 + 1 := by omega
    have g4 : ¬ W1.heap.size = w.heap.size + 1 + 1 + 1 + 1 := by omega
    have g2' : ¬ w.heap.size + 1 + 1 = W1.heap.size := by omega
    have g3' : ¬ w.heap.size + 1 + 1 + 1 = W1.heap.size := by omega
    have g4' : ¬ w.heap.size + 1 + 1 + 1 + 1 = W1.heap.size := by omega
    have hB : w.heap.size ≤ w.heap.size := Nat.le_refl _
    have hfin : Hid (∀ (W : World) (s' : ES), EndsI l c p r w w.heap.size (w.heap.size + 8) (w.heap.size + 7) { rec with state := .busy } s' W → endsTo l c d (n + 1) = s' →
        ∃ v w', (Instr.endRound (w.heap.size + 8) none).run Try.prog W = .ok v w' ∧ RR (Ending.returned v) w') := by
      intro W s' hE hs
      refine ⟨_, _, run_endRound none hE.lo, ?_⟩
      rw [HRR.out, hs]
      refine ⟨rfl, ?_⟩
      have he : ({ ({ rec with state := .busy } : Loop) with state := .ready, pending := none } : Loop) = rec := by
        have := HREC.out
        rw [← this]
      have ht := hE.turn (by omega) rec
      rw [← he] at ht
      rw [← he]
      exact ht
    cases sf
    · by_cases hlow : pv < slo <;> by_cases hhigh : shi < pv
      · have d1 : decide (pv < slo) = true := by simp [hlow]
        have d2 : decide (shi < pv) = true := by simp [hhigh]
        gi_wp2_with fail
        gi_region_with_o (fail)
        all_goals
          gi_wp2_with fail
          gi_region_with_o (fail)
        all_goals
          gi_wp2_with fail
          refine hfin.out _ _ ((((((((HE3.out.setLo hB hrw pv).setLd hB hrw (c.dlo + d)).setLn hB hrw (c.clo + n)).setHi hB hrw pv).setHd hB hrw (c.dlo + d)).setHn hB hrw (c.clo + n)).setF hB hrw false).drew.drew) ?_
          rw [HNE.out]
          simp [ES.next, ES.low, ES.high, hlow, hhigh]
      · have d1 : decide (pv < slo) = true := by simp [hlow]
        have d2 : decide (shi < pv) = false := by simp; omega
        gi_wp2_with fail
        gi_region_with_o (fail)
        all_goals
          gi_wp2_with fail
          refine hfin.out _ _ (((((HE3.out.setLo hB hrw pv).setLd hB hrw (c.dlo + d)).setLn hB hrw (c.clo + n)).setF hB hrw false).drew) ?_
          rw [HNE.out]
          simp [ES.next, ES.low, ES.high, d1, d2]
      · have d1 : decide (pv < slo) = false := by simp; omega
        have d2 : decide (shi < pv) = true := by simp [hhigh]
        gi_wp2_with fail
        gi_region_with_o (fail)
        all_goals
          gi_wp2_with fail
          refine hfin.out _ _ (((((HE3.out.setHi hB hrw pv).setHd hB hrw (c.dlo + d)).setHn hB hrw (c.clo + n)).setF hB hrw false).drew) ?_
          rw [HNE.out]
          simp [ES.next, ES.low, ES.high, d1, d2]
      · have d1 : decide (pv < slo) = false := by simp; omega
        have d2 : decide (shi < pv) = false := by simp; omega
        gi_wp2_with fail
        refine hfin.out _ _ (HE3.out.setF hB hrw false) ?_
        rw [HNE.out]
        simp [ES.next, ES.low, ES.high, d1, d2]
    · gi_wp2_with fail
      gi_region_with_o (fail)
      all_goals
        gi_wp2_with fail
        gi_region_with_o (fail)
      all_goals
        gi_wp2_with fail
        refine hfin.out _ _ ((((((((HE3.out.setLo hB hrw pv).setLd hB hrw (c.dlo + d)).setLn hB hrw (c.clo + n)).setHi hB hrw pv).setHd hB hrw (c.dlo + d)).setHn hB hrw (c.clo + n)).setF hB hrw false).drew.drew) ?_
        rw [HNE.out]
        rfl
  · rintro e w2 ⟨rfl, d, hd, hE⟩
    have ed : d = sizeOfR c.dlo c.dhi := by omega
    subst ed
    have hE : EndsI l c p r w w.heap.size (w.heap.size + 8) (w.heap.size + 7) rec (endsS l c) w2 := hE
    have hst : rec.state ≠ .busy := by subst hrec; simp
    have hpe : rec.pending = none := by subst hrec; rfl
    have hend := run_endLoop (P := Try.prog) hE.lo hst
    rw [hpe] at hend
    refine ⟨none, _, hend, ?_⟩
    have hT := hE.turn (by omega) { rec with state := .exhausted, pending := none }
    clear hend hE HE hrec
    generalize w2.putObj (w.heap.size + 8) (.loop { rec with state := .exhausted, pending := none }) = W4 at *
    generalize hse : endsS l c = s at *
    have HSE := Lib.hid hse; clear hse
    obtain ⟨z0, ⟨z1, z2, z3, z4, z5, z6⟩, ⟨z7, z8⟩, ⟨z9, z10⟩, ⟨z11, z12⟩, z13⟩ := hT.flat
    obtain ⟨ff2, ff3, ff4, ff5⟩ := hT.flatF
    have HT := Lib.hid hT; clear hT
    clear z0 z1 z2 z3 z4 z5 z6
    have hmix : Try.prog.follows .mixedOrders = true := by kernel_rfl
    have hB : w.heap.size ≤ w.heap.size := Nat.le_refl _
    gi_wp2_with fail
    gi_region_with_o (fail)
    all_goals
      gi_wp2_with fail
      have hF := ((((((HT.out.setLo hB hrw s.lo).setHi hB hrw s.hi).setLd hB hrw s.ld).setLn hB hrw s.ln).setHd hB hrw s.hd).setHn hB hrw s.hn).drew
      generalize h5 : World.drew (World.setCell _ _ _) = W5
      have hG : EndsI l c p r w w.heap.size (w.heap.size + 8) (w.heap.size + 7) { rec with state := .exhausted, pending := none } s W5 := by
        rw [← h5]; exact hF
      clear h5 hF z7 z8 z9 z10 z11 z12 z13 ff2 ff3 ff4 ff5
      refine ⟨by simp, .inl ⟨_, _, rfl, run_takeDeferred hG.de, ?_⟩⟩
      obtain ⟨-, -, ⟨z7, z8⟩, ⟨z9, z10⟩, ⟨z11, z12⟩, -⟩ := hG.flat
      have y7 := (putObj_cell (r := w.heap.size + 7) (by omega) (.deferred none)).trans z7
      have y8 := (putObj_cell (r := w.heap.size + 7) (by omega) (.deferred none)).trans z8
      have y9 := (putObj_cell (r := w.heap.size + 7) (by omega) (.deferred none)).trans z9
      have y10 := (putObj_cell (r := w.heap.size + 7) (by omega) (.deferred none)).trans z10
      have y11 := (putObj_cell (r := w.heap.size + 7) (by omega) (.deferred none)).trans z11
      have y12 := (putObj_cell (r := w.heap.size + 7) (by omega) (.deferred none)).trans z12
      have hbut : ExtBut r w (W5.putObj (w.heap.size + 7) (.deferred none)) :=
        ⟨hG.but.os, hG.but.tape, hG.but.output, by simp; exact hG.but.size, fun i hi hir => (World.putObj_heap_other (by omega)).trans (hG.but.block i hi hir)⟩
      have hmem : Memo (partS l) r (W5.putObj (w.heap.size + 7) (.deferred none)) := by
        obtain ⟨es, clock, hr, he⟩ := hG.memo
        exact ⟨es, clock, (World.putObj_heap_other (by omega)).trans hr, he⟩
      clear z7 z8 z9 z10 z11 z12
      refine ⟨.tuple #[.agg #[.int .i64 s.lo, .int .i64 s.hi], .agg #[.int .i64 s.ld, .int .i64 s.ln], .agg #[.int .i64 s.hd, .int .i64 s.hn]], ?_, by rw [HSE.out], hbut, hw.but hbut hmem⟩
      simp [results, Try.results70, go_sem, y7, y8, y9, y10, y11, y12]
end Go.Proofs.Ytfjecbfcnngacaa
