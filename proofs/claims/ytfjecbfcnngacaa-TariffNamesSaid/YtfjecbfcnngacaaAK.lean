/- The reference's Fault: the error of a list of tariffs. -/
import Derived.Test.YtfjecbfcnngacaaAJ
namespace Go.Hs
open Go.RowKit
def goodT (l : List Tar) (k : Nat) : Prop := validB (l.getD k default) = true ∧ (l.getD k default).rates.length = (l.getD 0 default).rates.length ∧ (k = 0 → (l.getD k default).start = 0) ∧ (0 < k → (l.getD (k - 1) default).start < (l.getD k default).start)
theorem check3 {l : List Tar} (h : 3 < l.length) : checkS l = 3 := by unfold checkS; rw [if_pos (.inl h)]
theorem check3b {l : List Tar} {k : Nat} (hk : k < l.length) (h : fewB (l.getD k default) = false) : checkS l = 3 := by
  have e : allB l.length (fun i => fewB (l.getD i default)) = false := by
    rw [← Bool.not_eq_true, allB_iff]
    intro g
    rw [g k hk] at h; cases h
  unfold checkS
  rw [if_pos (.inr e)]
theorem check1 {l : List Tar} (h3 : l.length ≤ 3) (hf : ∀ k, k < l.length → fewB (l.getD k default) = true) {k : Nat} (hk : k < l.length) (h : ¬ goodT l k) : checkS l = 1 := by
  have h1 : ¬ (3 < l.length ∨ allB l.length (fun i => fewB (l.getD i default)) = false) := by
    rw [allB_iff.2 hf]; simp; omega
  unfold checkS
  rw [if_neg h1]
  split
  · rfl
  · rename_i h2
    rw [if_pos]
    cases e : chainB l with
    | false => rfl
    | true =>
      exfalso
      have hc := allB_iff.1 (chainB_link l ▸ e)
      have hv : allB l.length (fun i => validB (l.getD i default)) = true := by
        cases hh : allB l.length (fun i => validB (l.getD i default)) with
        | true => rfl
        | false => exact absurd (.inr (.inr hh)) h2
      have hs : (l.getD 0 default).start = 0 := by
        by_cases g : (l.getD 0 default).start = 0
        · exact g
        · exact absurd (.inr (.inl g)) h2
      apply h
      refine ⟨allB_iff.1 hv k hk, ?_, ?_, ?_⟩
      · cases k with
        | zero => rfl
        | succ k =>
          have := hc k (by omega)
          simp only [linkB, Bool.and_eq_true, decide_eq_true_eq] at this
          exact this.2
      · rintro rfl; exact hs
      · intro g
        have := hc (k - 1) (by omega)
        simp only [linkB, Bool.and_eq_true, decide_eq_true_eq] at this
        rw [show k - 1 + 1 = k by omega] at this
        exact this.1
theorem check1b {l : List Tar} (h : l.length = 0) : checkS l = 1 := by
  have e : l = [] := List.eq_nil_of_length_eq_zero h
  subst e; rfl
theorem check0 {l : List Tar} (h3 : l.length ≤ 3) (h0 : 0 < l.length) (hf : ∀ k, k < l.length → fewB (l.getD k default) = true) (h : ∀ k, k < l.length → goodT l k) : checkS l = 0 := by
  refine ValidL.check ⟨h0, h3, (h 0 h0).2.2.1 rfl, hf, fun i hi => (h i hi).1, fun i hi => ?_⟩
  simp only [linkB, Bool.and_eq_true, decide_eq_true_eq]
  have := h (i + 1) (by omega)
  exact ⟨by have := this.2.2.2 (by omega); simpa using this, this.2.1⟩
end Go.Hs
namespace Go.Proofs.Ytfjecbfcnngacaa
open Go.RowKit Go.Hs
attribute [local irreducible] World.setCell World.alloc

set_option maxRecDepth 100000 in
set_option maxHeartbeats 2000000 in
theorem Fault_any (v : Value) (l : List Tar) (w : World) (hv : TarsV w v l) :
    Calls Try.prog 64 #[v] w fun e w' => e = .returned (.int .i64 (checkS l)) ∧ Ext w w' := by
  obtain ⟨a, c, rfl, h1, h2, hr⟩ := hv
  by_cases h3 : l.length ≤ 3
  · have HR := Lib.hid hr
    have HG1 : Hid ((∀ k, k < l.length → fewB (l.getD k default) = true) → ∀ k, k < l.length → ¬ goodT l k → checkS l = 1) := fun hf k hk h => check1 h3 hf hk h
    have HG0 : Hid (0 < l.length → (∀ k, k < l.length → fewB (l.getD k default) = true) → (∀ k, k < l.length → goodT l k) → checkS l = 0) := fun h0 hf h => check0 h3 h0 hf h
    have HG3 : Hid (∀ k, k < l.length → fewB (l.getD k default) = false → checkS l = 3) := fun k => check3b
    have HGB : Hid (l.length = 0 → checkS l = 1) := check1b
    clear hr
    generalize checkS l = res at *
    go_enter Try.func64, Try.ntmps64
    go_wp2_with fail
    go_loop [3] (fun s3 => ∃ k : Nat, k ≤ l.length ∧ s3 = .int .i64 k ∧ Hid (∀ m, m < k → fewB (l.getD m default) = true)) (fun i => l.length - (intOf i).toNat)
    case atStart => exact ⟨0, Nat.zero_le _, rfl, fun m h => absurd h (Nat.not_lt_zero _)⟩
    case round =>
      obtain ⟨k, hk, rfl, HF⟩ := hrel
      by_cases hlt : k < l.length
      · obtain ⟨b, off, rfl, ht⟩ := HR.out k hlt
        obtain ⟨a3, k3, a4, k4, a5, k5, m0, m1, m2, m3, m4, m5, mc⟩ := ht.open
        have e1 : l[k] = l.getD k default := by simp [hlt]
        rw [e1] at m3 m4 m5
        have HFX : Hid (fewB (l.getD k default) = true → ∀ m, m < k + 1 → fewB (l.getD m default) = true) := fun h => upTo_next HF.out h
        have HFN : Hid (fewB (l.getD k default) = false → res = 3) := HG3.out k hlt
        clear ht mc m0 m1 m2 e1
        generalize l.getD k default = t at *
        by_cases hs : t.weeks.length ≤ 4 ∧ t.counts.length ≤ 5 ∧ t.rates.length ≤ 3
        · have HE := Lib.hid (HFX.out (by simp [fewB, hs]))
          obtain ⟨s1, s2, s3⟩ := hs
          go_wp2_with fail
          go_round
          case rel => exact ⟨k + 1, by omega, by go_num, HE.out⟩
          case measure => simp [intOf]; omega
        · have HE := Lib.hid (HFN.out (by
            rw [← Bool.not_eq_true]
            intro g
            simp only [fewB, Bool.and_eq_true, decide_eq_true_eq] at g
            exact hs ⟨g.1.1, g.1.2, g.2⟩))
          go_wp2_with fail
          all_goals go_ret
          all_goals exact ⟨congrArg (fun x => Ending.returned (.int .i64 x)) HE.out.symm, Ext.refl _⟩
      · have e : k = l.length := by omega
        subst e
        have HG1' := Lib.hid (HG1.out HF.out)
        have HG0' : Hid (0 < l.length → (∀ k, k < l.length → goodT l k) → res = 0) := fun h => HG0.out h HF.out
        clear HG1 HG0 HG3 HF
        go_wp2_with fail
        go_loopw [4] (fun s4 wr => ∃ k : Nat, k ≤ l.length ∧ s4 = .int .i64 k ∧ Hid (∀ m, m < k → goodT l m) ∧ Ext w wr) (fun i _ => l.length - (intOf i).toNat)
        case atStart => exact ⟨0, Nat.zero_le _, rfl, fun m h => absurd h (Nat.not_lt_zero _), Ext.refl _⟩
        case round =>
          obtain ⟨k, hk, rfl, HI, hx⟩ := hrel
          obtain ⟨wa, rfl⟩ : ∃ x, x = wr := ⟨_, rfl⟩
          by_cases hlt : k < l.length
          · obtain ⟨b, off, rfl, ht⟩ := HR.out k hlt
            obtain ⟨a3, k3, a4, k4, a5, k5, m0, m1, m2, m3, m4, m5, mc⟩ := (TarAt.ext hx _ _ _ ht).open
            have e1 : l[k] = l.getD k default := by simp [hlt]
            rw [e1] at m0 m1 m2 m3 m4 m5 mc
            have HIT : Hid (∀ W, Ext wa W → Calls Try.prog 84 #[.agg #[.int .i64 (l.getD k default).start, .bool (l.getD k default).whole, .int .i64 (l.getD k default).least, .slice a3 (l.getD k default).weeks.length k3, .slice a4 (l.getD k default).counts.length k4, .slice a5 (l.getD k default).rates.length k5]] W fun e w' => e = .returned (.bool (validB (l.getD k default))) ∧ Ext W w') :=
              fun W hxW => IsTariff_any ⟨_, _, _, _, _, _⟩ (l.getD k default) W ⟨rfl, rfl, rfl, mc.ext hxW⟩
            clear ht mc e1
            cases hval : validB (l.getD k default) with
            | false =>
              have HE := Lib.hid (HG1'.out k hlt (fun g => by have := g.1; rw [hval] at this; cases this))
              rw [hval] at HIT
              clear hval
              generalize l.getD k default = t at *
              have g0 : ∀ w', Ext wa w' → w'.cell? ⟨b, off + k * 6, none⟩ = some (.int .i64 t.start) := fun w' h => h.keep m0
              have g1 : ∀ w', Ext wa w' → w'.cell? ⟨b, off + k * 6 + 1, none⟩ = some (.bool t.whole) := fun w' h => h.keep m1
              have g2 : ∀ w', Ext wa w' → w'.cell? ⟨b, off + k * 6 + 2, none⟩ = some (.int .i64 t.least) := fun w' h => h.keep m2
              have g3 : ∀ w', Ext wa w' → w'.cell? ⟨b, off + k * 6 + 3, none⟩ = some (.slice a3 t.weeks.length k3) := fun w' h => h.keep m3
              have g4 : ∀ w', Ext wa w' → w'.cell? ⟨b, off + k * 6 + 4, none⟩ = some (.slice a4 t.counts.length k4) := fun w' h => h.keep m4
              have g5 : ∀ w', Ext wa w' → w'.cell? ⟨b, off + k * 6 + 5, none⟩ = some (.slice a5 t.rates.length k5) := fun w' h => h.keep m5
              go_wp2_with fail
              go_upto_region 11 with fail
              refine wp_region_quiet (C := Ext wa) (by kernel_rfl) (by kernel_rfl) (Ext.drew (by (repeat (first | exact Ext.refl _ | (with_reducible assumption) | (with_reducible refine Ext.drew ?_) | (with_reducible refine Ext.alloc ?_ _) | (with_reducible refine Ext.drewN ?_ _) | (with_reducible refine Ext.setCell ?_ (by omega) _) | (with_reducible refine Ext.trans ?_ (by with_reducible assumption)))))) ?_
              rw [show ∀ (l : List Oper), l.toArray.toList = l from fun l => rfl]
              repeat (first
                | go_big_quiet_skip
                | (go_big_quiet_want
                   first
                    | (go_big_quiet_op; go_big_quiet_on)
                    | (apply Exists.intro
                       refine ⟨fun w' hxw => ?_, ?_⟩
                       focus (have q0 := g0 w' hxw; have q1 := g1 w' hxw; have q2 := g2 w' hxw; have q3 := g3 w' hxw; have q4 := g4 w' hxw; have q5 := g5 w' hxw; go_simp; first | exact rfl | exact (HIT.out w' hxw).mono (fun e w'' h => ⟨h.1, hxw.trans h.2⟩))
                       simp only [Act.put, List.setIfInBounds_toArray, List.set_cons_zero, List.set_cons_succ]
                       go_big_quiet_on)))
              refine wpQuiet_nil ?_
              intro w2 hx2
              go_wp2_with fail
              go_ret
              exact ⟨congrArg (fun x => Ending.returned (.int .i64 x)) HE.out.symm, by (repeat (first | exact Ext.refl _ | (with_reducible assumption) | (with_reducible refine Ext.drew ?_) | (with_reducible refine Ext.alloc ?_ _) | (with_reducible refine Ext.drewN ?_ _) | (with_reducible refine Ext.setCell ?_ (by omega) _) | (with_reducible refine Ext.trans ?_ (by with_reducible assumption))))⟩
            | true =>
              obtain ⟨b0, off0, he0, ht0⟩ := HR.out 0 (by omega)
              cases he0
              obtain ⟨a30, k30, a40, k40, a50, k50, n0, n1, n2, n3, n4, n5, nc⟩ := (TarAt.ext hx _ _ _ ht0).open
              have e0 : l[0]'(by omega) = l.getD 0 default := by simp [show 0 < l.length by omega]
              rw [e0] at n5
              simp only [Nat.zero_mul, Nat.add_zero] at n5
              clear ht0 nc n0 n1 n2 n3 n4 e0
              have HGX : Hid (goodT l k → ∀ m, m < k + 1 → goodT l m) := fun h => upTo_next HI.out h
              have HBK : Hid (¬ goodT l k → res = 1) := HG1'.out k hlt
              rw [hval] at HIT
              have hlpos : (0 : Int) < (l.length : Int) := by omega
              have hlpos' : 0 < l.length := by omega
              have hlnil : ¬ l = [] := by intro e; rw [e] at hlpos'; exact absurd hlpos' (by decide)
              by_cases hrr : (l.getD k default).rates.length = (l.getD 0 default).rates.length
              · by_cases hk0 : k = 0
                · have hz1 : ((k : Int) == 0) = true := by rw [beq_iff_eq]; omega
                  have hz2 : decide (0 < k) = false := decide_eq_false (by omega)
                  have hz3 : decide ((0 : Int) < (k : Int)) = false := decide_eq_false (by omega)
                  by_cases hst : (l.getD k default).start = 0
                  · have HE := Lib.hid (HGX.out ⟨hval, hrr, fun _ => hst, fun g => absurd g (by omega)⟩)
                    have hs1 : ((l.getD k default).start != 0) = false := by rw [bne_eq_false_iff_eq]; exact hst
                    clear hst hk0
                    generalize (l.getD 0 default).rates.length = nr at *
                    clear hval
                    generalize l.getD k default = t at *
                    have g0 : ∀ w', Ext wa w' → w'.cell? ⟨b, off + k * 6, none⟩ = some (.int .i64 t.start) := fun w' h => h.keep m0
                    have g1 : ∀ w', Ext wa w' → w'.cell? ⟨b, off + k * 6 + 1, none⟩ = some (.bool t.whole) := fun w' h => h.keep m1
                    have g2 : ∀ w', Ext wa w' → w'.cell? ⟨b, off + k * 6 + 2, none⟩ = some (.int .i64 t.least) := fun w' h => h.keep m2
                    have g3 : ∀ w', Ext wa w' → w'.cell? ⟨b, off + k * 6 + 3, none⟩ = some (.slice a3 t.weeks.length k3) := fun w' h => h.keep m3
                    have g4 : ∀ w', Ext wa w' → w'.cell? ⟨b, off + k * 6 + 4, none⟩ = some (.slice a4 t.counts.length k4) := fun w' h => h.keep m4
                    have g5 : ∀ w', Ext wa w' → w'.cell? ⟨b, off + k * 6 + 5, none⟩ = some (.slice a5 t.rates.length k5) := fun w' h => h.keep m5
                    have g6 : ∀ w', Ext wa w' → w'.cell? ⟨b, off + 5, none⟩ = some (.slice a50 nr k50) := fun w' h => h.keep n5
                    have hne : ((t.rates.length : Int) != (nr : Int)) = false := by rw [bne_eq_false_iff_eq]; omega
                    clear hrr
                    go_wp2_with fail
                    go_upto_region 11 with fail
                    refine wp_region_quiet (C := Ext wa) (by kernel_rfl) (by kernel_rfl) (Ext.drew (by (repeat (first | exact Ext.refl _ | (with_reducible assumption) | (with_reducible refine Ext.drew ?_) | (with_reducible refine Ext.alloc ?_ _) | (with_reducible refine Ext.drewN ?_ _) | (with_reducible refine Ext.setCell ?_ (by omega) _) | (with_reducible refine Ext.trans ?_ (by with_reducible assumption)))))) ?_
                    rw [show ∀ (l : List Oper), l.toArray.toList = l from fun l => rfl]
                    repeat (first
                      | go_big_quiet_skip
                      | (go_big_quiet_want
                         first
                          | (go_big_quiet_op; go_big_quiet_on)
                          | (apply Exists.intro
                             refine ⟨fun w' hxw => ?_, ?_⟩
                             focus (have q0 := g0 w' hxw; have q1 := g1 w' hxw; have q2 := g2 w' hxw; have q3 := g3 w' hxw; have q4 := g4 w' hxw; have q5 := g5 w' hxw; have q6 := g6 w' hxw; go_simp; first | exact rfl | exact (HIT.out w' hxw).mono (fun e w'' h => ⟨h.1, hxw.trans h.2⟩))
                             simp only [Act.put, List.setIfInBounds_toArray, List.set_cons_zero, List.set_cons_succ]
                             go_big_quiet_on)))
                    refine wpQuiet_nil ?_
                    intro w2 hx2
                    go_wp2_with fail
                    go_roundw
                    case rel => exact ⟨k + 1, by omega, by go_num, HE.out, by (repeat (first | exact Ext.refl _ | (with_reducible assumption) | (with_reducible refine Ext.drew ?_) | (with_reducible refine Ext.alloc ?_ _) | (with_reducible refine Ext.drewN ?_ _) | (with_reducible refine Ext.setCell ?_ (by omega) _) | (with_reducible refine Ext.trans ?_ (by with_reducible assumption))))⟩
                    case measure => simp [intOf]; omega
                  · have HE := Lib.hid (HBK.out (fun g => hst (g.2.2.1 hk0)))
                    have hs1 : ((l.getD k default).start != 0) = true := by rw [bne_iff_ne]; exact hst
                    clear hst hk0
                    generalize (l.getD 0 default).rates.length = nr at *
                    clear hval
                    generalize l.getD k default = t at *
                    have g0 : ∀ w', Ext wa w' → w'.cell? ⟨b, off + k * 6, none⟩ = some (.int .i64 t.start) := fun w' h => h.keep m0
                    have g1 : ∀ w', Ext wa w' → w'.cell? ⟨b, off + k * 6 + 1, none⟩ = some (.bool t.whole) := fun w' h => h.keep m1
                    have g2 : ∀ w', Ext wa w' → w'.cell? ⟨b, off + k * 6 + 2, none⟩ = some (.int .i64 t.least) := fun w' h => h.keep m2
                    have g3 : ∀ w', Ext wa w' → w'.cell? ⟨b, off + k * 6 + 3, none⟩ = some (.slice a3 t.weeks.length k3) := fun w' h => h.keep m3
                    have g4 : ∀ w', Ext wa w' → w'.cell? ⟨b, off + k * 6 + 4, none⟩ = some (.slice a4 t.counts.length k4) := fun w' h => h.keep m4
                    have g5 : ∀ w', Ext wa w' → w'.cell? ⟨b, off + k * 6 + 5, none⟩ = some (.slice a5 t.rates.length k5) := fun w' h => h.keep m5
                    have g6 : ∀ w', Ext wa w' → w'.cell? ⟨b, off + 5, none⟩ = some (.slice a50 nr k50) := fun w' h => h.keep n5
                    have hne : ((t.rates.length : Int) != (nr : Int)) = false := by rw [bne_eq_false_iff_eq]; omega
                    clear hrr
                    go_wp2_with fail
                    go_upto_region 11 with fail
                    refine wp_region_quiet (C := Ext wa) (by kernel_rfl) (by kernel_rfl) (Ext.drew (by (repeat (first | exact Ext.refl _ | (with_reducible assumption) | (with_reducible refine Ext.drew ?_) | (with_reducible refine Ext.alloc ?_ _) | (with_reducible refine Ext.drewN ?_ _) | (with_reducible refine Ext.setCell ?_ (by omega) _) | (with_reducible refine Ext.trans ?_ (by with_reducible assumption)))))) ?_
                    rw [show ∀ (l : List Oper), l.toArray.toList = l from fun l => rfl]
                    repeat (first
                      | go_big_quiet_skip
                      | (go_big_quiet_want
                         first
                          | (go_big_quiet_op; go_big_quiet_on)
                          | (apply Exists.intro
                             refine ⟨fun w' hxw => ?_, ?_⟩
                             focus (have q0 := g0 w' hxw; have q1 := g1 w' hxw; have q2 := g2 w' hxw; have q3 := g3 w' hxw; have q4 := g4 w' hxw; have q5 := g5 w' hxw; have q6 := g6 w' hxw; go_simp; first | exact rfl | exact (HIT.out w' hxw).mono (fun e w'' h => ⟨h.1, hxw.trans h.2⟩))
                             simp only [Act.put, List.setIfInBounds_toArray, List.set_cons_zero, List.set_cons_succ]
                             go_big_quiet_on)))
                    refine wpQuiet_nil ?_
                    intro w2 hx2
                    go_wp2_with fail
                    go_ret
                    exact ⟨congrArg (fun x => Ending.returned (.int .i64 x)) HE.out.symm, by (repeat (first | exact Ext.refl _ | (with_reducible assumption) | (with_reducible refine Ext.drew ?_) | (with_reducible refine Ext.alloc ?_ _) | (with_reducible refine Ext.drewN ?_ _) | (with_reducible refine Ext.setCell ?_ (by omega) _) | (with_reducible refine Ext.trans ?_ (by with_reducible assumption))))⟩
                · obtain ⟨m, rfl⟩ : ∃ m, k = m + 1 := ⟨k - 1, by omega⟩
                  obtain ⟨b1, off1, he1, ht1⟩ := HR.out m (by omega)
                  cases he1
                  obtain ⟨a31, k31, a41, k41, a51, k51, p0, p1, p2, p3, p4, p5, pc⟩ := (TarAt.ext hx _ _ _ ht1).open
                  have e0 : l[m]'(by omega) = l.getD m default := by simp [show m < l.length by omega]
                  rw [e0] at p0
                  clear ht1 pc p1 p2 p3 p4 p5 e0 hk0
                  have hi0 : (0 : Int) ≤ (m : Int) + 1 := by omega
                  have hi1 : (m : Int) + 1 < (l.length : Int) := by omega
                  have hi2 : ((m : Int) + 1).toNat = m + 1 := by omega
                  have hi3 : (m : Int) < (l.length : Int) := by omega
                  have hw1 : IntKind.i64.wrap (m : Int) = (m : Int) := IntWalk.i64_in _ (by omega)
                  have hz1 : (((m + 1 : Nat) : Int) == 0) = false := by rw [beq_eq_false_iff_ne]; omega
                  have hz1' : ((m : Int) + 1 == 0) = false := by rw [beq_eq_false_iff_ne]; omega
                  have hz2 : decide (0 < m + 1) = true := decide_eq_true (by omega)
                  have hz3 : decide ((0 : Int) < (m : Int) + 1) = true := decide_eq_true (by omega)
                  by_cases hst : (l.getD m default).start < (l.getD (m + 1) default).start
                  · have HE := Lib.hid (HGX.out ⟨hval, hrr, fun g => absurd g (by omega), fun _ => by simpa using hst⟩)
                    have hs1 : ¬ (l.getD (m + 1) default).start ≤ (l.getD m default).start := by omega
                    have hs2 : decide ((l.getD (m + 1) default).start ≤ (l.getD m default).start) = false := decide_eq_false hs1
                    clear hst
                    generalize (l.getD 0 default).rates.length = nr at *
                    generalize (l.getD m default).start = fm at *
                    clear hval
                    generalize l.getD (m + 1) default = t at *
                    have g0 : ∀ w', Ext wa w' → w'.cell? ⟨b, off + (m + 1) * 6, none⟩ = some (.int .i64 t.start) := fun w' h => h.keep m0
                    have g1 : ∀ w', Ext wa w' → w'.cell? ⟨b, off + (m + 1) * 6 + 1, none⟩ = some (.bool t.whole) := fun w' h => h.keep m1
                    have g2 : ∀ w', Ext wa w' → w'.cell? ⟨b, off + (m + 1) * 6 + 2, none⟩ = some (.int .i64 t.least) := fun w' h => h.keep m2
                    have g3 : ∀ w', Ext wa w' → w'.cell? ⟨b, off + (m + 1) * 6 + 3, none⟩ = some (.slice a3 t.weeks.length k3) := fun w' h => h.keep m3
                    have g4 : ∀ w', Ext wa w' → w'.cell? ⟨b, off + (m + 1) * 6 + 4, none⟩ = some (.slice a4 t.counts.length k4) := fun w' h => h.keep m4
                    have g5 : ∀ w', Ext wa w' → w'.cell? ⟨b, off + (m + 1) * 6 + 5, none⟩ = some (.slice a5 t.rates.length k5) := fun w' h => h.keep m5
                    have g6 : ∀ w', Ext wa w' → w'.cell? ⟨b, off + 5, none⟩ = some (.slice a50 nr k50) := fun w' h => h.keep n5
                    have hne : ((t.rates.length : Int) != (nr : Int)) = false := by rw [bne_eq_false_iff_eq]; omega
                    clear hrr
                    have g7 : ∀ w', Ext wa w' → w'.cell? ⟨b, off + m * 6, none⟩ = some (.int .i64 fm) := fun w' h => h.keep p0
                    go_wp2_with fail
                    go_upto_region 11 with fail
                    refine wp_region_quiet (C := Ext wa) (by kernel_rfl) (by kernel_rfl) (Ext.drew (by (repeat (first | exact Ext.refl _ | (with_reducible assumption) | (with_reducible refine Ext.drew ?_) | (with_reducible refine Ext.alloc ?_ _) | (with_reducible refine Ext.drewN ?_ _) | (with_reducible refine Ext.setCell ?_ (by omega) _) | (with_reducible refine Ext.trans ?_ (by with_reducible assumption)))))) ?_
                    rw [show ∀ (l : List Oper), l.toArray.toList = l from fun l => rfl]
                    repeat (first
                      | go_big_quiet_skip
                      | (go_big_quiet_want
                         first
                          | (go_big_quiet_op; go_big_quiet_on)
                          | (apply Exists.intro
                             refine ⟨fun w' hxw => ?_, ?_⟩
                             focus (have q0 := g0 w' hxw; have q1 := g1 w' hxw; have q2 := g2 w' hxw; have q3 := g3 w' hxw; have q4 := g4 w' hxw; have q5 := g5 w' hxw; have q6 := g6 w' hxw; have q7 := g7 w' hxw; go_simp; first | exact rfl | exact (HIT.out w' hxw).mono (fun e w'' h => ⟨h.1, hxw.trans h.2⟩))
                             simp only [Act.put, List.setIfInBounds_toArray, List.set_cons_zero, List.set_cons_succ]
                             go_big_quiet_on)))
                    refine wpQuiet_nil ?_
                    intro w2 hx2
                    go_wp2_with fail
                    go_roundw
                    case rel => exact ⟨m + 1 + 1, by omega, by go_num, HE.out, by (repeat (first | exact Ext.refl _ | (with_reducible assumption) | (with_reducible refine Ext.drew ?_) | (with_reducible refine Ext.alloc ?_ _) | (with_reducible refine Ext.drewN ?_ _) | (with_reducible refine Ext.setCell ?_ (by omega) _) | (with_reducible refine Ext.trans ?_ (by with_reducible assumption))))⟩
                    case measure => simp [intOf]; omega
                  · have HE := Lib.hid (HBK.out (fun g => hst (by have := g.2.2.2 (by omega); simpa using this)))
                    have hs1 : (l.getD (m + 1) default).start ≤ (l.getD m default).start := by omega
                    have hs2 : decide ((l.getD (m + 1) default).start ≤ (l.getD m default).start) = true := decide_eq_true hs1
                    clear hst
                    generalize (l.getD 0 default).rates.length = nr at *
                    generalize (l.getD m default).start = fm at *
                    clear hval
                    generalize l.getD (m + 1) default = t at *
                    have g0 : ∀ w', Ext wa w' → w'.cell? ⟨b, off + (m + 1) * 6, none⟩ = some (.int .i64 t.start) := fun w' h => h.keep m0
                    have g1 : ∀ w', Ext wa w' → w'.cell? ⟨b, off + (m + 1) * 6 + 1, none⟩ = some (.bool t.whole) := fun w' h => h.keep m1
                    have g2 : ∀ w', Ext wa w' → w'.cell? ⟨b, off + (m + 1) * 6 + 2, none⟩ = some (.int .i64 t.least) := fun w' h => h.keep m2
                    have g3 : ∀ w', Ext wa w' → w'.cell? ⟨b, off + (m + 1) * 6 + 3, none⟩ = some (.slice a3 t.weeks.length k3) := fun w' h => h.keep m3
                    have g4 : ∀ w', Ext wa w' → w'.cell? ⟨b, off + (m + 1) * 6 + 4, none⟩ = some (.slice a4 t.counts.length k4) := fun w' h => h.keep m4
                    have g5 : ∀ w', Ext wa w' → w'.cell? ⟨b, off + (m + 1) * 6 + 5, none⟩ = some (.slice a5 t.rates.length k5) := fun w' h => h.keep m5
                    have g6 : ∀ w', Ext wa w' → w'.cell? ⟨b, off + 5, none⟩ = some (.slice a50 nr k50) := fun w' h => h.keep n5
                    have hne : ((t.rates.length : Int) != (nr : Int)) = false := by rw [bne_eq_false_iff_eq]; omega
                    clear hrr
                    have g7 : ∀ w', Ext wa w' → w'.cell? ⟨b, off + m * 6, none⟩ = some (.int .i64 fm) := fun w' h => h.keep p0
                    go_wp2_with fail
                    go_upto_region 11 with fail
                    refine wp_region_quiet (C := Ext wa) (by kernel_rfl) (by kernel_rfl) (Ext.drew (by (repeat (first | exact Ext.refl _ | (with_reducible assumption) | (with_reducible refine Ext.drew ?_) | (with_reducible refine Ext.alloc ?_ _) | (with_reducible refine Ext.drewN ?_ _) | (with_reducible refine Ext.setCell ?_ (by omega) _) | (with_reducible refine Ext.trans ?_ (by with_reducible assumption)))))) ?_
                    rw [show ∀ (l : List Oper), l.toArray.toList = l from fun l => rfl]
                    repeat (first
                      | go_big_quiet_skip
                      | (go_big_quiet_want
                         first
                          | (go_big_quiet_op; go_big_quiet_on)
                          | (apply Exists.intro
                             refine ⟨fun w' hxw => ?_, ?_⟩
                             focus (have q0 := g0 w' hxw; have q1 := g1 w' hxw; have q2 := g2 w' hxw; have q3 := g3 w' hxw; have q4 := g4 w' hxw; have q5 := g5 w' hxw; have q6 := g6 w' hxw; have q7 := g7 w' hxw; go_simp; first | exact rfl | exact (HIT.out w' hxw).mono (fun e w'' h => ⟨h.1, hxw.trans h.2⟩))
                             simp only [Act.put, List.setIfInBounds_toArray, List.set_cons_zero, List.set_cons_succ]
                             go_big_quiet_on)))
                    refine wpQuiet_nil ?_
                    intro w2 hx2
                    go_wp2_with fail
                    go_ret
                    exact ⟨congrArg (fun x => Ending.returned (.int .i64 x)) HE.out.symm, by (repeat (first | exact Ext.refl _ | (with_reducible assumption) | (with_reducible refine Ext.drew ?_) | (with_reducible refine Ext.alloc ?_ _) | (with_reducible refine Ext.drewN ?_ _) | (with_reducible refine Ext.setCell ?_ (by omega) _) | (with_reducible refine Ext.trans ?_ (by with_reducible assumption))))⟩
              · have HE := Lib.hid (HBK.out (fun g => hrr g.2.1))
                have hnr : ¬ (l.getD k default).rates.length = (l.getD 0 default).rates.length := hrr
                generalize (l.getD 0 default).rates.length = nr at *
                clear hval
                generalize l.getD k default = t at *
                have g0 : ∀ w', Ext wa w' → w'.cell? ⟨b, off + k * 6, none⟩ = some (.int .i64 t.start) := fun w' h => h.keep m0
                have g1 : ∀ w', Ext wa w' → w'.cell? ⟨b, off + k * 6 + 1, none⟩ = some (.bool t.whole) := fun w' h => h.keep m1
                have g2 : ∀ w', Ext wa w' → w'.cell? ⟨b, off + k * 6 + 2, none⟩ = some (.int .i64 t.least) := fun w' h => h.keep m2
                have g3 : ∀ w', Ext wa w' → w'.cell? ⟨b, off + k * 6 + 3, none⟩ = some (.slice a3 t.weeks.length k3) := fun w' h => h.keep m3
                have g4 : ∀ w', Ext wa w' → w'.cell? ⟨b, off + k * 6 + 4, none⟩ = some (.slice a4 t.counts.length k4) := fun w' h => h.keep m4
                have g5 : ∀ w', Ext wa w' → w'.cell? ⟨b, off + k * 6 + 5, none⟩ = some (.slice a5 t.rates.length k5) := fun w' h => h.keep m5
                have g6 : ∀ w', Ext wa w' → w'.cell? ⟨b, off + 5, none⟩ = some (.slice a50 nr k50) := fun w' h => h.keep n5
                have hne : ((t.rates.length : Int) != (nr : Int)) = true := by rw [bne_iff_ne]; omega
                clear hrr hnr
                go_wp2_with fail
                go_upto_region 11 with fail
                refine wp_region_quiet (C := Ext wa) (by kernel_rfl) (by kernel_rfl) (Ext.drew (by (repeat (first | exact Ext.refl _ | (with_reducible assumption) | (with_reducible refine Ext.drew ?_) | (with_reducible refine Ext.alloc ?_ _) | (with_reducible refine Ext.drewN ?_ _) | (with_reducible refine Ext.setCell ?_ (by omega) _) | (with_reducible refine Ext.trans ?_ (by with_reducible assumption)))))) ?_
                rw [show ∀ (l : List Oper), l.toArray.toList = l from fun l => rfl]
                repeat (first
                  | go_big_quiet_skip
                  | (go_big_quiet_want
                     first
                      | (go_big_quiet_op; go_big_quiet_on)
                      | (apply Exists.intro
                         refine ⟨fun w' hxw => ?_, ?_⟩
                         focus (have q0 := g0 w' hxw; have q1 := g1 w' hxw; have q2 := g2 w' hxw; have q3 := g3 w' hxw; have q4 := g4 w' hxw; have q5 := g5 w' hxw; have q6 := g6 w' hxw; go_simp; first | exact rfl | exact (HIT.out w' hxw).mono (fun e w'' h => ⟨h.1, hxw.trans h.2⟩))
                         simp only [Act.put, List.setIfInBounds_toArray, List.set_cons_zero, List.set_cons_succ]
                         go_big_quiet_on)))
                refine wpQuiet_nil ?_
                intro w2 hx2
                go_wp2_with fail
                go_ret
                exact ⟨congrArg (fun x => Ending.returned (.int .i64 x)) HE.out.symm, by (repeat (first | exact Ext.refl _ | (with_reducible assumption) | (with_reducible refine Ext.drew ?_) | (with_reducible refine Ext.alloc ?_ _) | (with_reducible refine Ext.drewN ?_ _) | (with_reducible refine Ext.setCell ?_ (by omega) _) | (with_reducible refine Ext.trans ?_ (by with_reducible assumption))))⟩
          · have e : k = l.length := by omega
            subst e
            by_cases hz : l.length = 0
            · have HE := Lib.hid (HGB.out hz)
              go_wp2_with fail
              go_ret
              exact ⟨congrArg (fun x => Ending.returned (.int .i64 x)) HE.out.symm, hx⟩
            · have HE := Lib.hid (HG0'.out (by omega) HI.out)
              go_wp2_with fail
              go_ret
              exact ⟨congrArg (fun x => Ending.returned (.int .i64 x)) HE.out.symm, hx⟩
  · have e : checkS l = 3 := check3 (by omega)
    rw [e]
    clear e hr
    go_enter Try.func64, Try.ntmps64
    go_wp2_with fail
    go_ret
    exact ⟨rfl, Ext.refl _⟩
end Go.Proofs.Ytfjecbfcnngacaa
