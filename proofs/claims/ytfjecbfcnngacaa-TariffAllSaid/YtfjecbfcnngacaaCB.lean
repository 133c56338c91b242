/- The walk of TariffAll. -/
import Derived.Test.YtfjecbfcnngacaaCA
import Derived.RegionTactic
import Derived.BigRegion
import Derived.Deep.CutRange
import Derived.Deep.DeepCutAuto
import Derived.Deep.AppendLies
set_option pp.deepTerms true
set_option pp.maxSteps 10000000
namespace Go.Proofs.Ytfjecbfcnngacaa
open Go.RowKit Go.Hs
attribute [local irreducible] World.setCell World.alloc

theorem info_rclaim : (Try.prog.info? 39).map (fun i => (i.zero, i.size, i.bytes)) = some (some (.agg #[.int .i64 0, .int .i64 0, .int .i64 0, .int .i64 0, .int .i64 0, .int .i64 0]), 6, 48) := by kernel_rfl
theorem ZB.new2 {W w : World} {t : TypeId} {o : Obj} (h : Ext ((W.alloc (.cells #[.int .i64 0, .int .i64 0] t)).alloc o) w) : ZB w W.heap.size :=
  ZB.new (W := W) (t := t) (((Ext.refl _).alloc o).trans h)
theorem ZB.newd2 {W w : World} {t : TypeId} {o : Obj} (h : Ext ((W.alloc (.cells #[.int .i64 0, .int .i64 0] t)).alloc o).drew w) : ZB w W.heap.size :=
  ZB.new (W := W) (t := t) (((Ext.refl _).alloc o).drew.trans h)
theorem step_is_append {P : Program} {w : World} {ops : Array Oper} {o : Oper} {a : Act} {K : Act → World → Prop} {Q : Exit → Act → World → Prop} {E : Prop} (s x : Operand) (t : TypeId)
    (_ : o.op = .call { callee := .builtin .append, args := #[s, x], argTypes := #[t, t] }) (h : if Region.wanted o (yielded ops a.tmps) = true then Oper.wp P o a w K Q else E) : if Region.wanted o (yielded ops a.tmps) = true then Oper.wp P o a w K Q else E := h
theorem ask_fine {l : List Tar} {c : Cla} (h : fineB l c = true) : claimB l c = true ∧ askS1 l c = 0 := by
  simp only [fineB, Bool.and_eq_true, beq_iff_eq] at h
  exact ⟨(askS1_zero h.2).2, h.2⟩

set_option maxRecDepth 100000 in
set_option maxHeartbeats 8000000 in
theorem walk_TariffAll (v : Value) (l : List Tar) (vc : Value) (cs : List Cla) (m : Cla) (by0 : Int) (w : World) (hv : TarsW w v l) (hc : ClasW w vc cs) (_ : ClaOK m) (hb0 : (Lit.int .u8 by0).wf = true) :
    Calls Try.prog 14 #[v, vc, m.u.val, .int .u8 by0] w fun e w' => e = .returned (.bool true) ∧ Ext w w' := by
  obtain ⟨b, rfl, hb⟩ : ∃ b : Nat, by0 = (b : Int) ∧ b ≤ 255 := by
    have h1 := bounds_u8 hb0
    exact ⟨by0.toNat, by omega, by omega⟩
  clear hb0
  have HAW : Hid (∀ W, Calls Try.prog 19 #[] W fun e w' => e = .returned (.bool true) ∧ Ext W w') := awake_any
  have HFI : Hid (∀ c W, Ext w W → Calls Try.prog 41 #[v, c.u.val] W fun e w' => e = .returned (.bool (fineB l c)) ∧ Ext W w') := fun c W hx => fine_any v l c W (TarsW.ext hx hv)
  obtain ⟨i3, hi3, hz30, hz31, hz32⟩ := info_parts info_rclaim
  have X0 : Ext w (w.alloc (.cells #[.int .i64 m.crop, .int .i64 m.value, .int .i64 m.dlo, .int .i64 m.dhi, .int .i64 m.clo, .int .i64 m.chi] 39)) := by (repeat (first | exact Ext.refl _ | (with_reducible assumption) | (with_reducible refine Ext.drew ?_) | (with_reducible refine Ext.alloc ?_ _) | (with_reducible refine Ext.drewN ?_ _) | (with_reducible refine Ext.setCell ?_ (by omega) _) | (with_reducible refine Ext.trans ?_ (by with_reducible assumption))))
  have hmc := HFI.out m
  have hcw := hc
  obtain ⟨ac, kc, rfl, hc1, hc2, -⟩ := hc
  have ME := Lib.hid (rfl : m = m)
  obtain ⟨m', hm'⟩ : ∃ x, x = m := ⟨_, rfl⟩
  have HM' := Lib.hid hm'
  clear ME hm'
  have hcell : Cell6 (w.alloc (.cells #[.int .i64 m.crop, .int .i64 m.value, .int .i64 m.dlo, .int .i64 m.dhi, .int .i64 m.clo, .int .i64 m.chi] 39)) w.heap.size 0 m.u := by simp [Cell6]
  cases hf : fineB l m with
  | false =>
    rw [hf] at hmc
    obtain ⟨a, k, rfl, -⟩ := hv
    clear hf hcw hcell HM' m'
    generalize cs.length = n at *
    obtain ⟨cr, va, dl, dh, cl, ch⟩ := m
    go_enter Try.func14, Try.ntmps14
    go_wp2_with fail
    (with_reducible refine (hmc _ X0).mono ?_)
    rintro e w1 ⟨rfl, hx1⟩
    go_wp2_with fail
    (with_reducible refine (HAW.out _).mono ?_)
    rintro e w2 ⟨rfl, hx2⟩
    go_wp2_with fail
    go_ret
    exact ⟨rfl, X0.trans (hx1.trans hx2)⟩
  | true =>
    rw [hf] at hmc
    obtain ⟨ht, hl, hmok⟩ := fine_of hf
    obtain ⟨hmb, hma⟩ := ask_fine hf
    have hvv := hv.toV ht
    by_cases h4 : 4 < cs.length
    · obtain ⟨a, k, rfl, -⟩ := hv
      clear hf hcw hcell hvv ht hl hmok hmb hma HM' m'
      generalize cs.length = n at *
      obtain ⟨cr, va, dl, dh, cl, ch⟩ := m
      go_enter Try.func14, Try.ntmps14
      go_wp2_with fail
      (with_reducible refine (hmc _ X0).mono ?_)
      rintro e w1 ⟨rfl, hx1⟩
      go_wp2_with fail
      (with_reducible refine (HAW.out _).mono ?_)
      rintro e w2 ⟨rfl, hx2⟩
      go_wp2_with fail
      go_ret
      exact ⟨rfl, X0.trans (hx1.trans hx2)⟩
    · have hn4 : cs.length ≤ 4 := by omega
      have hcv := hcw.toV (by omega)
      have HTA : Hid (∀ W, Ext w W → Calls Try.prog 21 #[v] W fun e w' => ∃ v', e = .returned v' ∧ TarsV w' v' l ∧ Ext W w') := fun W hx => Tariffs_any v l W (hvv.ext hx) ht
      have HTN : Hid (∀ W, Ext w W → Calls Try.prog 21 #[v] W fun e w' => ∃ v', e = .returned v' ∧ TarsV (mask (oldB W) w') v' l ∧ Ext W w') := fun W hx => Tariffs_new v l W (hvv.ext hx) ht
      have HCS : Hid (∀ W, Ext w W → Calls Try.prog 49 #[.slice ac cs.length kc] W fun e w' => ∃ v', e = .returned v' ∧ ClasV Cla.u w' v' cs ∧ Ext W w') := fun W hx => Claims_any _ cs W (hcv.ext hx) (by omega)
      have HCR : Hid (∀ vr W, ClasV Cla.u W vr (rotC cs b) → Calls Try.prog 49 #[vr] W fun e w' => ∃ v', e = .returned v' ∧ ClasV Cla.u w' v' (rotC cs b) ∧ Ext W w') := fun vr W h => Claims_any vr _ W h (by rw [rot_len]; omega)
      have HCT : Hid (∀ vr W, ClasV Cla.u W vr (rotC cs b ++ [m]) → Calls Try.prog 49 #[vr] W fun e w' => ∃ v', e = .returned v' ∧ ClasV Cla.u w' v' (rotC cs b ++ [m]) ∧ Ext W w') := fun vr W h => Claims_any vr _ W h (by simp [rot_len]; omega)
      have HCM : Hid (∀ W, Calls Try.prog 28 #[m.u.val] W fun e w' => e = .returned m.u.val ∧ Ext W w') := fun W => Claim_any m W
      have HBO : Hid (∀ v' W, TarsV W v' l → Calls Try.prog 27 #[v', m.u.val] W fun e w' => e = .returned (.tuple #[.agg #[.int .i64 (endsS l m).lo, .int .i64 (endsS l m).hi], .int .i64 0]) ∧ Ext W w') := fun v' W h => by
        have g := BoundsQ_any v' l m W h
        unfold bLo bHi at g
        rw [hma, if_pos rfl, if_pos rfl] at g
        exact g
      have HGO : Hid ((∀ c, c ∈ cs → claimB l c = true) → (∀ v' vc' W, TarsV W v' l → ClasV Cla.u W vc' cs → Calls Try.prog 48 #[v', vc'] W fun e w' => e = .returned (.tuple #[.agg #[.int .i64 (sumLo l cs), .int .i64 (sumHi l cs)], .int .i64 0]) ∧ Ext W w') ∧
          (∀ v' vc' W, TarsV W v' l → ClasV Cla.u W vc' (rotC cs b) → Calls Try.prog 48 #[v', vc'] W fun e w' => e = .returned (.tuple #[.agg #[.int .i64 (sumLo l cs), .int .i64 (sumHi l cs)], .int .i64 0]) ∧ Ext W w') ∧
          (∀ v' vc' W, TarsV W v' l → ClasV Cla.u W vc' (rotC cs b ++ [m]) → Calls Try.prog 48 #[v', vc'] W fun e w' => e = .returned (.tuple #[.agg #[.int .i64 (sumLo l cs + (endsS l m).lo), .int .i64 (sumHi l cs + (endsS l m).hi)], .int .i64 0]) ∧ Ext W w') ∧
          (0 ≤ sumLo l cs ∧ sumLo l cs ≤ 10000000 * cs.length ∧ 0 ≤ sumHi l cs ∧ sumHi l cs ≤ 10000000 * cs.length)) := Lib.hid (fun hall => by
        obtain ⟨e1, e2, e3⟩ := tot_ok (l := l) hl.check (by omega : cs.length ≤ 5) hall
        obtain ⟨f1, f2, f3⟩ := tot_ok (l := l) (cs := rotC cs b) hl.check (by rw [rot_len]; omega) (fun c hc => hall c (rot_mem hc))
        obtain ⟨g1, g2, g3⟩ := tot_ok (l := l) (cs := rotC cs b ++ [m]) hl.check (by simp [rot_len]; omega) (fun c hc => by
          rcases List.mem_append.1 hc with h | h
          · exact hall c (rot_mem h)
          · have : c = m := by simpa using h
            rw [this]; exact hmb)
        refine ⟨fun v' vc' W h h' => ?_, fun v' vc' W h h' => ?_, fun v' vc' W h h' => ?_, ?_⟩
        · have := Total_any v' vc' l cs W h h'
          rw [e1, e2, e3] at this; exact this
        · have := Total_any v' vc' l _ W h h'
          rw [f1, f2, f3, rot_lo, rot_hi] at this; exact this
        · have := Total_any v' vc' l _ W h h'
          rw [g1, g2, g3, sumLo_snoc, sumHi_snoc, rot_lo, rot_hi] at this; exact this
        · exact sum_bd hl cs (fun c hc => claimB_iff.1 (hall c hc)))
      have heb := ends_bd hl hmok
      have HBT : Hid (∀ a b W, Calls Try.prog 44 #[.int .i64 a, .int .i64 b] W fun e w' => e = .returned (.agg #[.int .i64 a, .int .i64 b]) ∧ Ext W w') := between_any
      have HFB : Hid (∀ c, fineB l c = true → claimB l c = true) := Lib.hid (fun c h => (ask_fine h).1)
      have hc3 : Cells6 w ac (cs.map Cla.u) := by
        obtain ⟨a', c', he, -, -, h3⟩ := hcv
        cases he
        exact h3
      have HC3 := Lib.hid hc3
      have HNIL : Hid (cs.length = 0 → sumLo l cs = 0 ∧ sumHi l cs = 0) := Lib.hid (fun h => by
        have : cs = [] := List.eq_nil_of_length_eq_zero h
        subst this; exact ⟨rfl, rfl⟩)
      have HRL : Hid ((rotC cs b).length = cs.length) := Lib.hid (rot_len cs b)
      have HRN : Hid (∀ k (hk : k < cs.length) (j : Nat), j = (k + b) % cs.length → ∀ hjn : j < cs.length, (rotC cs b).take k ++ [cs[j]] = (rotC cs b).take (k + 1)) := Lib.hid (fun k hk j hj hjn => rot_next hk hj hjn)
      obtain ⟨a, kv, rfl, -⟩ := hvv
      clear hv ht hcw hf hl hmok hmb hma hc3 hcv h4
      generalize sumLo l cs = sL at *
      generalize sumHi l cs = sH at *
      generalize (endsS l m).lo = eL at *
      generalize (endsS l m).hi = eH at *
      generalize hrot : rotC cs b = rot at *
      clear hrot
      obtain ⟨cr, va, dl, dh, cl, ch⟩ := m
      obtain ⟨m0, m1, m2, m3, m4, m5⟩ := hcell
      simp only [Nat.zero_add] at m0 m1 m2 m3 m4 m5 HCM HBO hmc X0
      go_enter Try.func14, Try.ntmps14
      go_wp2_with fail
      (with_reducible refine (hmc _ X0).mono ?_)
      rintro e w1 ⟨rfl, hx1⟩
      clear hmc
      replace m0 := hx1.keep m0
      replace m1 := hx1.keep m1
      replace m2 := hx1.keep m2
      replace m3 := hx1.keep m3
      replace m4 := hx1.keep m4
      replace m5 := hx1.keep m5
      have X1 : Ext w w1 := X0.trans hx1
      have hB0 : w.heap.size < w1.heap.size := lt_of_cell m0
      clear hx1 X0
      generalize hBB : w.heap.size = B0 at *
      go_wp2_with fail
      go_loopw [9] (fun s9 wr => ∃ k : Nat, k ≤ cs.length ∧ s9 = .int .i64 k ∧ Hid (∀ i (h : i < cs.length), i < k → claimB l cs[i] = true) ∧ Ext w1 wr) (fun s _ => cs.length - (intOf s).toNat)
      case atStart => exact ⟨0, Nat.zero_le _, rfl, Lib.hid (fun i _ h => absurd h (Nat.not_lt_zero _)), Ext.refl _⟩
      case round =>
        obtain ⟨k, hk, rfl, HK, hxr⟩ := hrel
        obtain ⟨wo, rfl⟩ : ∃ x, x = wr := ⟨_, rfl⟩
        have XO := X1.trans hxr
        by_cases hkt : k < cs.length
        · obtain ⟨bk, off, rfl, hce⟩ := HC3.out k (by simpa using hkt)
          have hce := hce.ext XO
          have e1 : (cs.map Cla.u)[k]'(by simpa using hkt) = (cs[k]).u := by simp
          rw [e1] at hce
          have hcall := HFI.out cs[k]
          have HB := Lib.hid (HFB.out cs[k])
          have HS : Hid (claimB l cs[k] = true → ∀ i (h : i < cs.length), i < k + 1 → claimB l cs[i] = true) := Lib.hid (fun h i hi h2 => by
            rcases Nat.lt_succ_iff_lt_or_eq.1 h2 with h3 | rfl
            · exact HK.out i hi h3
            · exact h)
          clear e1
          generalize cs[k] = x at *
          obtain ⟨xr, xa, xl, xh, yl, yh⟩ := x
          obtain ⟨n0, n1, n2, n3, n4, n5⟩ := hce
          simp only at n0 n1 n2 n3 n4 n5 hcall
          cases hfk : fineB l ⟨xr, xa, xl, xh, yl, yh⟩ with
          | true =>
            rw [hfk] at hcall
            have HS2 := Lib.hid (HS.out (HB.out hfk))
            clear HS HB hfk
            go_wp2_with fail
            (refine (hcall _ XO).mono ?_)
            rintro e w2 ⟨rfl, hx2⟩
            go_wp2_with fail
            go_roundw
            case rel => exact ⟨k + 1, by omega, by go_num, HS2, hxr.trans hx2⟩
            case measure => simp [intOf]; omega
          | false =>
            rw [hfk] at hcall
            clear HS HB hfk
            go_wp2_with fail
            (refine (hcall _ XO).mono ?_)
            rintro e w2 ⟨rfl, hx2⟩
            go_wp2_with fail
            (with_reducible refine (HAW.out _).mono ?_)
            rintro e w3 ⟨rfl, hx3⟩
            go_wp2_with fail
            go_ret
            exact ⟨rfl, XO.trans (hx2.trans hx3)⟩
        · have ek : k = cs.length := by omega
          obtain ⟨HT1, HT2, HT3, hsb⟩ := HGO.out (fun c hc => by
            obtain ⟨i, hi, rfl⟩ := List.getElem_of_mem hc
            exact HK.out i hi (by omega))
          replace HT1 := Lib.hid HT1
          replace HT2 := Lib.hid HT2
          replace HT3 := Lib.hid HT3
          replace m0 := hxr.keep m0
          replace m1 := hxr.keep m1
          replace m2 := hxr.keep m2
          replace m3 := hxr.keep m3
          replace m4 := hxr.keep m4
          replace m5 := hxr.keep m5
          clear HGO HK HFI HFB
          have hBo : B0 < wo.heap.size := lt_of_cell m0
          clear X1 hxr hB0
          go_wp2_with fail
          clear ek hkt hk
          go_loopw [10, 11] (fun s10 s11 wr => ∃ (k : Nat) (a5 : Option Addr) (q5 : Nat), k ≤ cs.length ∧ s11 = .int .i64 k ∧ s10 = .slice a5 k q5 ∧ Hid (Build6 (UIs Cla.u) (fun _ => false) wo.heap.size 39 wr (.slice a5 k q5) (rot.take k)) ∧ Ext wo wr) (fun _ s _ => cs.length - (intOf s).toNat)
          case atStart => exact ⟨0, none, 0, Nat.zero_le _, rfl, rfl, Build6.nil _, Ext.refl _⟩
          case round =>
            obtain ⟨k, a5, q5, hk, rfl, rfl, HB, hx⟩ := hrel
            obtain ⟨wp, rfl⟩ : ∃ x, x = wr := ⟨_, rfl⟩
            by_cases hlt : k < cs.length
            · have hn0 : ¬ cs.length = 0 := by omega
              have hn0' : ¬ ((cs.length : Int) = 0) := by omega
              obtain ⟨j, hj⟩ : ∃ j, j = (k + b) % cs.length := ⟨_, rfl⟩
              have hjn : j < cs.length := by rw [hj]; exact Nat.mod_lt _ (by omega)
              have ht1 : ((k : Int) + (b : Int)) % (cs.length : Int) = (j : Int) := by rw [hj]; simp
              have ht2 : ((k : Int) + (b : Int)).tmod (cs.length : Int) = (j : Int) := by rw [Int.tmod_eq_emod_of_nonneg (by omega)]; exact ht1
              have hw1 : IntKind.i64.wrap (b : Int) = (b : Int) := IntWalk.i64_in _ (by omega)
              have hw2 : IntKind.i64.wrap ((k : Int) + (b : Int)) = (k : Int) + (b : Int) := IntWalk.i64_in _ (by omega)
              have hw3 : IntKind.i64.wrap (j : Int) = (j : Int) := IntWalk.i64_in _ (by omega)
              have hj0 : (0 : Int) ≤ (j : Int) := by omega
              have hj1 : (j : Int) < (cs.length : Int) := by omega
              obtain ⟨bk, off, rfl, hce⟩ := HC3.out j (by simpa using hjn)
              have hce := hce.ext (XO.trans hx)
              have e1 : (cs.map Cla.u)[j]'(by simpa using hjn) = (cs[j]).u := by simp
              rw [e1] at hce
              clear e1
              have ek : (rot.take k).length = k := by simp [HRL.out]; omega
              have E2 := Lib.hid (HRN.out k hlt j hj hjn)
              obtain ⟨us, hul, hown0, hp0, hs0⟩ := HB.out
              rw [ek] at hown0
              have HUL := Lib.hid (And.intro hul hs0)
              have OWN := Lib.hid hown0
              have hlb := fun g hg => own_lt hown0 (g := g) hg
              have HLB := Lib.hid hlb
              have EK := Lib.hid ek
              clear hul hp0 hs0 hown0 hlb ek hj
              generalize cs[j] = x at *
              obtain ⟨xr, xa, xl, xh, yl, yh⟩ := x
              obtain ⟨n0, n1, n2, n3, n4, n5⟩ := hce
              simp only at n0 n1 n2 n3 n4 n5
              go_wp2_with (at_builtin; refine wpList_append_own_at _ rfl _ _ 81 rfl wo.heap.size 39 i3 (.agg #[.int .i64 0, .int .i64 0, .int .i64 0, .int .i64 0, .int .i64 0, .int .i64 0]) 6 48 Try.underlying81 hi3 hz30 hz31 hz32 rfl (by decide) (.slice a5 k q5) k (us.flatMap V6.cs) rfl ?own ⟨wp.heap.size, 0, none⟩ 1 1 (V6.cs (Cla.u ⟨xr, xa, xl, xh, yl, yh⟩)) rfl rfl (cell_six_new _ (Cla.u ⟨xr, xa, xl, xh, yl, yh⟩) _) ?one ?f1 ?f2 ?f3 ?next)
              case own => exact own_keep OWN.out (fun g hg => ((Ext.refl wp).alloc _).heap (HLB.out g hg).2)
              case one =>
                intro u hu
                simp only [V6.cs, List.mem_cons, List.not_mem_nil, or_false] at hu
                rcases hu with rfl | rfl | rfl | rfl | rfl | rfl <;> rfl
              case f1 => simp only [maxLen]; omega
              case f2 => omega
              case f3 => have h1 := hx.size; simp; omega
              case next =>
                intro v' w3 hown hgrow hnil hat
                obtain ⟨hul, hs0⟩ := HUL.out
                have hb : Build6 (UIs Cla.u) (fun _ => false) wo.heap.size 39 w3 v' (rot.take k ++ [⟨xr, xa, xl, xh, yl, yh⟩]) :=
                  Build6.next (S := UIs Cla.u) (fun h k => UIs.kc h k) (us := us) (w := wp.alloc _) hul (fun _ _ => rfl) hs0 rfl (by rw [EK.out]; exact hown) hgrow (hat.imp_right (fun h => h.trans (by simp))) rfl
                rw [E2.out] at hb
                have hx3 : Ext wo w3 := grown_ext (hx.alloc _) hgrow (fun g hg => (HLB.out g hg).1)
                rcases own_open hown with ⟨-, h0⟩ | ⟨g, cap, rfl, -, -, -, -⟩
                · omega
                · have HB3 := Lib.hid hb
                  clear hb hown hgrow hnil hat hul hs0
                  go_wp2_with fail
                  go_roundw
                  case rel => exact ⟨k + 1, _, _, by omega, by go_num, rfl, HB3.out, hx3⟩
                  case measure => simp [intOf]; omega
            · have ek : k = cs.length := by omega
              subst ek
              have hb := HB.out
              rw [show rot.take cs.length = rot from by rw [← HRL.out, List.take_length]] at hb
              have hcv := Build6.claims hb (by rw [HRL.out]; omega)
              have how := Build6.own hb
              rw [HRL.out] at how
              have HCV := Lib.hid hcv
              have OWN := Lib.hid how
              have hlb : ∀ g, (Value.slice a5 cs.length q5).ownBlock = some g → wo.heap.size ≤ g ∧ g < wp.heap.size := fun g hg => own_lt how hg
              replace m0 := hx.keep m0
              replace m1 := hx.keep m1
              replace m2 := hx.keep m2
              replace m3 := hx.keep m3
              replace m4 := hx.keep m4
              replace m5 := hx.keep m5
              have XP : Ext w wp := XO.trans hx
              have hop := hx.size
              clear hb hcv how HB HC3 HRN hlt hk
              have HLO : Hid (∃ x, x = wo.heap.size) := Lib.hid ⟨_, rfl⟩
              have HHI : Hid (∃ x, x = wp.heap.size) := Lib.hid ⟨_, rfl⟩
              obtain ⟨LO, hLO⟩ := HLO.out
              obtain ⟨HI, hHI⟩ := HHI.out
              rw [← hLO] at OWN hlb hBo hop
              rw [← hHI] at hlb hop
              clear HLO HHI hLO
              have HLB0 := Lib.hid hlb
              clear hlb XO hx
              (try clear wo)
              obtain ⟨n, hn⟩ : ∃ n, n = cs.length := ⟨_, rfl⟩
              have HUS : Hid ((rot.map Cla.u).flatMap V6.cs ++ V6.cs ⟨.int .i64 cr, .int .i64 va, .int .i64 dl, .int .i64 dh, .int .i64 cl, .int .i64 ch⟩ = ((rot ++ [(⟨cr, va, dl, dh, cl, ch⟩ : Cla)]).map Cla.u).flatMap V6.cs) := Lib.hid (by simp)
              have HUN : Hid (n + 1 = (rot ++ [(⟨cr, va, dl, dh, cl, ch⟩ : Cla)]).length) := Lib.hid (by simp [HRL.out, hn])
              have HUL : Hid ((rot ++ [(⟨cr, va, dl, dh, cl, ch⟩ : Cla)]).length ≤ 1000) := Lib.hid (by simp [HRL.out]; omega)
              have HONE : Hid (∀ u ∈ V6.cs ⟨.int .i64 cr, .int .i64 va, .int .i64 dl, .int .i64 dh, .int .i64 cl, .int .i64 ch⟩, u.oneCell' = true) := Lib.hid (by
                intro u hu
                simp only [V6.cs, List.mem_cons, List.not_mem_nil, or_false] at hu
                rcases hu with rfl | rfl | rfl | rfl | rfl | rfl <;> rfl)
              have HF1 : Hid (n + 1 ≤ maxLen) := Lib.hid (by simp only [maxLen]; omega)
              have HF2 : Hid ((n + 1) * 48 ≤ 140737488355328) := Lib.hid (by omega)
              rw [← hn] at OWN HCV HLB0 hn4 hc1 hc2 HNIL HCS hsb
              rw [← hn]
              clear HRL hn
              go_wp2_with fail
              (with_reducible refine (HTA.out _ XP).mono ?_)
              rintro e w2 ⟨v2, rfl, hv2, hx2⟩
              go_wp2_with fail
              (with_reducible refine (HCS.out _ (XP.trans hx2)).mono ?_)
              rintro e w3 ⟨v3, rfl, hv3, hx3⟩
              go_wp2_with fail
              (with_reducible refine (HT1.out _ _ _ (hv2.ext hx3) hv3).mono ?_)
              rintro e w4 ⟨rfl, hx4⟩
              have P4 : Ext wp w4 := hx2.trans (hx3.trans hx4)
              clear hx2 hx3 hx4 hv2 hv3 HT1 HCS
              go_wp2_with fail
              have P5 : Ext wp (w4.alloc (.cells #[.int .i64 sL, .int .i64 sH] 40)) := P4.alloc _
              have hRa : HI ≤ w4.heap.size := by rw [hHI]; exact P4.size
              (with_reducible refine (HTA.out _ (XP.trans P5)).mono ?_)
              rintro e w6 ⟨v6, rfl, hv6, hx6⟩
              have q0 := hx6.keep (k := w4.heap.size) (o := 0) (v := .int .i64 sL) (by simp)
              have q1 := hx6.keep (k := w4.heap.size) (o := 1) (v := .int .i64 sH) (by simp)
              have P6 := P5.trans hx6
              clear hx6 P4 P5
              generalize w4.heap.size = Ra at *
              (try clear w4)
              go_wp2_with fail
              (with_reducible refine (HCR.out _ _ (HCV.out.ext P6)).mono ?_)
              rintro e w7 ⟨v7, rfl, hv7, hx7⟩
              go_wp2_with fail
              (with_reducible refine (HT2.out _ _ _ (hv6.ext hx7) hv7).mono ?_)
              rintro e w8 ⟨rfl, hx8⟩
              have P8 : Ext wp w8 := P6.trans (hx7.trans hx8)
              replace q0 := hx8.keep (hx7.keep q0)
              replace q1 := hx8.keep (hx7.keep q1)
              clear hx7 hx8 hv6 hv7 HT2 HCR P6
              have hRb : HI ≤ w8.heap.size := by rw [hHI]; exact P8.size
              go_upto_region 15 with fail
              obtain ⟨W9, hW9⟩ : ∃ x, x = (w8.alloc (.cells #[.int .i64 sL, .int .i64 sH] 40)) := ⟨_, rfl⟩
              rw [← hW9]
              have P9 : Ext wp W9 := by rw [hW9]; exact P8.alloc _
              have t0 : W9.cell? ⟨w8.heap.size, 0, none⟩ = some (.int .i64 sL) := by rw [hW9]; simp
              have t1 : W9.cell? ⟨w8.heap.size, 1, none⟩ = some (.int .i64 sH) := by rw [hW9]; simp
              have hx9 : Ext w8 W9 := by rw [hW9]; exact (Ext.refl _).alloc _
              replace q0 := hx9.keep q0
              replace q1 := hx9.keep q1
              clear hx9 hW9 P8
              generalize w8.heap.size = Rb at *
              (try clear w8)
              replace m0 := P9.keep m0
              replace m1 := P9.keep m1
              replace m2 := P9.keep m2
              replace m3 := P9.keep m3
              replace m4 := P9.keep m4
              replace m5 := P9.keep m5
              have X9 : Ext w W9 := XP.trans P9
              have HSA : Hid (∀ w', Ext W9 w' → (w'.cell? ⟨B0, 0, none⟩ = some (.int .i64 cr) ∧ w'.cell? ⟨B0, 1, none⟩ = some (.int .i64 va) ∧ w'.cell? ⟨B0, 2, none⟩ = some (.int .i64 dl) ∧ w'.cell? ⟨B0, 3, none⟩ = some (.int .i64 dh) ∧ w'.cell? ⟨B0, 4, none⟩ = some (.int .i64 cl) ∧ w'.cell? ⟨B0, 5, none⟩ = some (.int .i64 ch)) ∧ Ext W9 w') := fun w' hx => ⟨⟨hx.keep m0, hx.keep m1, hx.keep m2, hx.keep m3, hx.keep m4, hx.keep m5⟩, hx⟩
              go_upto_region 15 with fail
              go_cut [16, 17] from 79 to 86 (fun sA sB wx => ∃ T, sA = .pointer (some ⟨T, 0, none⟩) ∧ sB = .int .i64 0 ∧ BoxI W9 T eL eH wx)
              case first =>
                go_region_held3 (fun w' => (w'.cell? ⟨B0, 0, none⟩ = some (.int .i64 cr) ∧ w'.cell? ⟨B0, 1, none⟩ = some (.int .i64 va) ∧ w'.cell? ⟨B0, 2, none⟩ = some (.int .i64 dl) ∧ w'.cell? ⟨B0, 3, none⟩ = some (.int .i64 dh) ∧ w'.cell? ⟨B0, 4, none⟩ = some (.int .i64 cl) ∧ w'.cell? ⟨B0, 5, none⟩ = some (.int .i64 ch)) ∧ Ext W9 w')
                  ((refine HSA.out _ ?_; (repeat (first | exact Ext.refl _ | (with_reducible assumption) | (with_reducible refine Ext.drew ?_) | (with_reducible refine Ext.alloc ?_ _) | (with_reducible refine Ext.drewN ?_ _) | (with_reducible refine Ext.setCell ?_ (by omega) _) | (with_reducible refine Ext.trans ?_ (by with_reducible assumption))))))
                  (first
                    | (go_at_call 21; (refine (HTA.out _ (by (repeat (first | exact Ext.refl _ | (with_reducible assumption) | (with_reducible refine Ext.drew ?_) | (with_reducible refine Ext.alloc ?_ _) | (with_reducible refine Ext.drewN ?_ _) | (with_reducible refine Ext.setCell ?_ (by omega) _) | (with_reducible refine Ext.trans ?_ (by with_reducible assumption)))))).mono ?_); rintro e w3 ⟨v3, rfl, hv3, hx3⟩; have s3 := hx3.size; (try simp at s3); (first | have Z := ZB.new hx3 | have Z := ZB.newd hx3 | skip))
                    | (go_at_call 28; (refine (HCM.out _).mono ?_); rintro e w4 ⟨rfl, hx4⟩; have s4 := hx4.size; (try simp at s4); (first | have Z := ZB.new hx4 | have Z := Z.keep hx4 | skip))
                    | (go_at_call 27; (refine (HBO.out _ _ (hv3.ext (by (repeat (first | exact Ext.refl _ | (with_reducible assumption) | (with_reducible refine Ext.drew ?_) | (with_reducible refine Ext.alloc ?_ _) | (with_reducible refine Ext.drewN ?_ _) | (with_reducible refine Ext.setCell ?_ (by omega) _) | (with_reducible refine Ext.trans ?_ (by with_reducible assumption))))))).mono ?_); rintro e w5 ⟨rfl, hx5⟩; have s5 := hx5.size; (try simp at s5); (first | have Z := ZB.new hx5 | have Z := Z.keep hx5 | skip); (first | (have z0 := Z.z0; have z1 := Z.z1; have f0 := Z.f0; have f1 := Z.f1) | skip)))
                all_goals
                  go_wp2_with fail
                  go_meet
                  first
                    | exact ⟨_, rfl, rfl, BoxI.stored Z (by (repeat (first | exact Ext.refl _ | (with_reducible assumption) | (with_reducible refine Ext.drew ?_) | (with_reducible refine Ext.alloc ?_ _) | (with_reducible refine Ext.drewN ?_ _) | (with_reducible refine Ext.setCell ?_ (by omega) _) | (with_reducible refine Ext.trans ?_ (by with_reducible assumption))))) (by omega)⟩
                    | exact ⟨_, rfl, rfl, BoxI.made (by (repeat (first | exact Ext.refl _ | (with_reducible assumption) | (with_reducible refine Ext.drew ?_) | (with_reducible refine Ext.alloc ?_ _) | (with_reducible refine Ext.drewN ?_ _) | (with_reducible refine Ext.setCell ?_ (by omega) _) | (with_reducible refine Ext.trans ?_ (by with_reducible assumption))))) _ _ _⟩
              case rest =>
                obtain ⟨T1, rfl, rfl, hb1⟩ := hcut
                obtain ⟨W2, rfl⟩ : ∃ x, x = wc := ⟨_, rfl⟩
                have hxb := hb1.ext
                have u0 := hb1.b0
                have u1 := hb1.b1
                replace q0 := hxb.keep q0
                replace q1 := hxb.keep q1
                replace t0 := hxb.keep t0
                replace t1 := hxb.keep t1
                replace m0 := hxb.keep m0
                replace m1 := hxb.keep m1
                replace m2 := hxb.keep m2
                replace m3 := hxb.keep m3
                replace m4 := hxb.keep m4
                replace m5 := hxb.keep m5
                have hRc : HI ≤ T1 := by rw [hHI]; exact Nat.le_trans P9.size hb1.ge
                have P10 : Ext wp W2 := P9.trans hxb
                have X10 : Ext w W2 := XP.trans P10
                have HF3 : Hid (LO ≤ W2.heap.size) := Lib.hid (by have := P10.size; omega)
                have HLB : Hid (∀ g, (Value.slice a5 n q5).ownBlock = some g → LO ≤ g ∧ g < W2.heap.size ∧ g < HI) := Lib.hid (fun g hg => by have := HLB0.out g hg; have := P10.size; omega)
                replace OWN := Lib.hid (own_keep OWN.out (fun g hg => P10.heap (by have := HLB0.out g hg; omega)))
                have hHW : HI ≤ W2.heap.size := by rw [hHI]; exact P10.size
                clear hb1 hxb HSA P9 X9 HLB0 HCV P10 XP hHI HTA HCM HBO
                (try clear wp W9)
                have HSB : Hid (∀ w', EG LO HI W2 w' → (w'.cell? ⟨B0, 0, none⟩ = some (.int .i64 cr) ∧ w'.cell? ⟨B0, 1, none⟩ = some (.int .i64 va) ∧ w'.cell? ⟨B0, 2, none⟩ = some (.int .i64 dl) ∧ w'.cell? ⟨B0, 3, none⟩ = some (.int .i64 dh) ∧ w'.cell? ⟨B0, 4, none⟩ = some (.int .i64 cl) ∧ w'.cell? ⟨B0, 5, none⟩ = some (.int .i64 ch)) ∧ EG LO HI W2 w') := fun w' hx => ⟨⟨hx.keep (.inl hBo) m0, hx.keep (.inl hBo) m1, hx.keep (.inl hBo) m2, hx.keep (.inl hBo) m3, hx.keep (.inl hBo) m4, hx.keep (.inl hBo) m5⟩, hx⟩
                have HQ : Hid (W2.cell? ⟨Ra, 0, none⟩ = some (.int .i64 sL) ∧ W2.cell? ⟨Ra, 1, none⟩ = some (.int .i64 sH) ∧ W2.cell? ⟨Rb, 0, none⟩ = some (.int .i64 sL) ∧ W2.cell? ⟨Rb, 1, none⟩ = some (.int .i64 sH) ∧ W2.cell? ⟨T1, 0, none⟩ = some (.int .i64 eL) ∧ W2.cell? ⟨T1, 1, none⟩ = some (.int .i64 eH)) := ⟨q0, q1, t0, t1, u0, u1⟩
                clear q0 q1 t0 t1 u0 u1
                go_upto_region 16 with fail
                go_cut [18, 19] from 87 to 97 (fun sA sB wx => ∃ T, sA = .pointer (some ⟨T, 0, none⟩) ∧ sB = .int .i64 0 ∧ BoxG LO HI W2 T (sL + eL) (sH + eH) wx)
                case first =>
                  go_region_held3 (fun w' => (w'.cell? ⟨B0, 0, none⟩ = some (.int .i64 cr) ∧ w'.cell? ⟨B0, 1, none⟩ = some (.int .i64 va) ∧ w'.cell? ⟨B0, 2, none⟩ = some (.int .i64 dl) ∧ w'.cell? ⟨B0, 3, none⟩ = some (.int .i64 dh) ∧ w'.cell? ⟨B0, 4, none⟩ = some (.int .i64 cl) ∧ w'.cell? ⟨B0, 5, none⟩ = some (.int .i64 ch)) ∧ EG LO HI W2 w')
                    ((refine HSB.out _ ?_; (repeat (first | exact EG.refl _ | (with_reducible assumption) | (with_reducible refine EG.drew ?_) | (with_reducible refine EG.alloc ?_ _) | (with_reducible refine EG.drewN ?_ _) | (with_reducible refine EG.setCell ?_ (by omega) _) | (with_reducible refine EG.ext ?_ (by with_reducible assumption)) | (with_reducible refine EG.trans ?_ (by with_reducible assumption))))))
                    (first
                      | (go_at_call 21; (refine (HTN.out _ (by (repeat (first | exact Ext.refl _ | (with_reducible assumption) | (with_reducible refine Ext.drew ?_) | (with_reducible refine Ext.alloc ?_ _) | (with_reducible refine Ext.drewN ?_ _) | (with_reducible refine Ext.setCell ?_ (by omega) _) | (with_reducible refine Ext.trans ?_ (by with_reducible assumption)))))).mono ?_); rintro e w3 ⟨v3, rfl, hv3, hx3⟩; have s3 := hx3.size; (try simp at s3); (first | have Z := ZB.new hx3 | have Z := ZB.newd hx3 | have Z := ZB.new2 hx3 | have Z := ZB.newd2 hx3 | skip); (try simp at Z))
                      | (go_at_call 49; (refine (HCT.out _ _ (hcv4.ext (by (repeat (first | exact Ext.refl _ | (with_reducible assumption) | (with_reducible refine Ext.drew ?_) | (with_reducible refine Ext.alloc ?_ _) | (with_reducible refine Ext.drewN ?_ _) | (with_reducible refine Ext.setCell ?_ (by omega) _) | (with_reducible refine Ext.trans ?_ (by with_reducible assumption))))))).mono ?_); rintro e w5 ⟨v5, rfl, hv5, hx5⟩; have s5 := hx5.size; (try simp at s5); (first | have Z := ZB.new hx5 | have Z := Z.keep hx5 | skip))
                      | (go_at_call 48; (refine (HT3.out _ _ _ (hv34.ext (by (repeat (first | exact Ext.refl _ | (with_reducible assumption) | (with_reducible refine Ext.drew ?_) | (with_reducible refine Ext.alloc ?_ _) | (with_reducible refine Ext.drewN ?_ _) | (with_reducible refine Ext.setCell ?_ (by omega) _) | (with_reducible refine Ext.trans ?_ (by with_reducible assumption)))))) (hv5.ext (by (repeat (first | exact Ext.refl _ | (with_reducible assumption) | (with_reducible refine Ext.drew ?_) | (with_reducible refine Ext.alloc ?_ _) | (with_reducible refine Ext.drewN ?_ _) | (with_reducible refine Ext.setCell ?_ (by omega) _) | (with_reducible refine Ext.trans ?_ (by with_reducible assumption))))))).mono ?_); rintro e w6 ⟨rfl, hx6⟩; have s6 := hx6.size; (try simp at s6); (first | have Z := ZB.new hx6 | have Z := Z.keep hx6 | skip); (first | (have z0 := Z.z0; have z1 := Z.z1; have f0 := Z.f0; have f1 := Z.f1) | skip))
                      | ((refine step_is_append _ _ 81 rfl ?_); (refine step_append_lies _ (by rfl) _ _ 81 (by rfl) LO 39 i3 (.agg #[.int .i64 0, .int .i64 0, .int .i64 0, .int .i64 0, .int .i64 0, .int .i64 0]) 6 48 Try.underlying81 hi3 hz30 hz31 hz32 rfl (by decide) (.slice a5 n q5) n ((rot.map Cla.u).flatMap V6.cs) (by rfl) (own_keep OWN.out (fun g hg => Ext.heap (by (repeat (first | exact Ext.refl _ | (with_reducible assumption) | (with_reducible refine Ext.drew ?_) | (with_reducible refine Ext.alloc ?_ _) | (with_reducible refine Ext.drewN ?_ _) | (with_reducible refine Ext.setCell ?_ (by omega) _) | (with_reducible refine Ext.trans ?_ (by with_reducible assumption))))) (HLB.out g hg).2.1)) ⟨_, 0, none⟩ 1 1 (V6.cs ⟨.int .i64 cr, .int .i64 va, .int .i64 dl, .int .i64 dh, .int .i64 cl, .int .i64 ch⟩) (by rfl) rfl (six_in (by (repeat (first | exact Ext.refl _ | (with_reducible assumption) | (with_reducible refine Ext.drew ?_) | (with_reducible refine Ext.alloc ?_ _) | (with_reducible refine Ext.drewN ?_ _) | (with_reducible refine Ext.setCell ?_ (by omega) _) | (with_reducible refine Ext.trans ?_ (by with_reducible assumption))))) (by first | rfl | simp)) HONE.out (by decide) HF1.out HF2.out (Nat.le_trans HF3.out (Ext.size (by (repeat (first | exact Ext.refl _ | (with_reducible assumption) | (with_reducible refine Ext.drew ?_) | (with_reducible refine Ext.alloc ?_ _) | (with_reducible refine Ext.drewN ?_ _) | (with_reducible refine Ext.setCell ?_ (by omega) _) | (with_reducible refine Ext.trans ?_ (by with_reducible assumption))))))) _ rfl ?_); intro g cap w4 hown hgrow hat hlt; have s4 := hgrow.size; (try simp at s4); have hg4 := EG.grown (lo := LO) (hi := HI) hgrow (fun g hg => ⟨(HLB.out g hg).1, (HLB.out g hg).2.2⟩); have hcv4 := own_clas (cs := rot ++ [(⟨cr, va, dl, dh, cl, ch⟩ : Cla)]) hown HUS.out HUN.out HUL.out; (first | have Z := ZB.keepG (ZB.new (Ext.refl _)) hg4 (by first | omega | (simp; omega)) | have Z := ZB.keepG (ZB.new2 (Ext.refl _)) hg4 (by first | omega | (simp; omega)) | have Z := Z.keepG (EG.trans (Ext.eg (by (repeat (first | exact Ext.refl _ | (with_reducible assumption) | (with_reducible refine Ext.drew ?_) | (with_reducible refine Ext.alloc ?_ _) | (with_reducible refine Ext.drewN ?_ _) | (with_reducible refine Ext.setCell ?_ (by omega) _) | (with_reducible refine Ext.trans ?_ (by with_reducible assumption)))))) hg4) (by omega) | skip); (try simp at Z); (first | have hv34 := tars_grown hv3 (by (repeat (first | exact Ext.refl _ | (with_reducible assumption) | (with_reducible refine Ext.drew ?_) | (with_reducible refine Ext.alloc ?_ _) | (with_reducible refine Ext.drewN ?_ _) | (with_reducible refine Ext.setCell ?_ (by omega) _) | (with_reducible refine Ext.trans ?_ (by with_reducible assumption))))) hgrow (fun g hg => Nat.lt_of_lt_of_le (HLB.out g hg).2.1 (Ext.size (by (repeat (first | exact Ext.refl _ | (with_reducible assumption) | (with_reducible refine Ext.drew ?_) | (with_reducible refine Ext.alloc ?_ _) | (with_reducible refine Ext.drewN ?_ _) | (with_reducible refine Ext.setCell ?_ (by omega) _) | (with_reducible refine Ext.trans ?_ (by with_reducible assumption))))))) | skip)))
                  all_goals
                    go_wp2_with fail
                    go_meet
                    first
                      | exact ⟨_, rfl, rfl, BoxG.stored Z (by (repeat (first | exact EG.refl _ | (with_reducible assumption) | (with_reducible refine EG.drew ?_) | (with_reducible refine EG.alloc ?_ _) | (with_reducible refine EG.drewN ?_ _) | (with_reducible refine EG.setCell ?_ (by omega) _) | (with_reducible refine EG.ext ?_ (by with_reducible assumption)) | (with_reducible refine EG.trans ?_ (by with_reducible assumption))))) (by omega)⟩
                      | exact ⟨_, rfl, rfl, BoxG.made (by (repeat (first | exact EG.refl _ | (with_reducible assumption) | (with_reducible refine EG.drew ?_) | (with_reducible refine EG.alloc ?_ _) | (with_reducible refine EG.drewN ?_ _) | (with_reducible refine EG.setCell ?_ (by omega) _) | (with_reducible refine EG.ext ?_ (by with_reducible assumption)) | (with_reducible refine EG.trans ?_ (by with_reducible assumption))))) _ _ _⟩
                case rest =>
                  obtain ⟨T2, rfl, rfl, hb2⟩ := hcut
                  obtain ⟨W3, rfl⟩ : ∃ x, x = wc := ⟨_, rfl⟩
                  obtain ⟨q0, q1, t0, t1, u0, u1⟩ := HQ.out
                  have hg := hb2.ext
                  replace q0 := hg.keep (.inr hRa) q0
                  replace q1 := hg.keep (.inr hRa) q1
                  replace t0 := hg.keep (.inr hRb) t0
                  replace t1 := hg.keep (.inr hRb) t1
                  replace u0 := hg.keep (.inr hRc) u0
                  replace u1 := hg.keep (.inr hRc) u1
                  have s0 := hb2.b0
                  have s1 := hb2.b1
                  have X11 : Ext w W3 := EG.over X10 (by omega) hg
                  have hk1 : IntKind.i64.wrap (sL + eL) = sL + eL := IntWalk.i64_in _ (by omega)
                  have hk2 : IntKind.i64.wrap (sH + eH) = sH + eH := IntWalk.i64_in _ (by omega)
                  have hk3 : IntKind.i64.wrap eL = eL := IntWalk.i64_in _ (by omega)
                  have hk4 : IntKind.i64.wrap eH = eH := IntWalk.i64_in _ (by omega)
                  clear hb2 hg HQ HSB HF3 HLB OWN X10 HTN HCT HT3 m0 m1 m2 m3 m4 m5 HUS HUN HUL HONE HF1 HF2
                  have HS : Hid (∀ w', Ext W3 w' → (w'.cell? ⟨Ra, 0, none⟩ = some (.int .i64 sL) ∧ w'.cell? ⟨Ra, 1, none⟩ = some (.int .i64 sH) ∧ w'.cell? ⟨Rb, 0, none⟩ = some (.int .i64 sL) ∧ w'.cell? ⟨Rb, 1, none⟩ = some (.int .i64 sH) ∧ w'.cell? ⟨T1, 0, none⟩ = some (.int .i64 eL) ∧ w'.cell? ⟨T1, 1, none⟩ = some (.int .i64 eH) ∧ w'.cell? ⟨T2, 0, none⟩ = some (.int .i64 (sL + eL)) ∧ w'.cell? ⟨T2, 1, none⟩ = some (.int .i64 (sH + eH))) ∧ Ext W3 w') := fun w' hx => ⟨⟨hx.keep q0, hx.keep q1, hx.keep t0, hx.keep t1, hx.keep u0, hx.keep u1, hx.keep s0, hx.keep s1⟩, hx⟩
                  by_cases h0 : n = 0
                  · obtain ⟨hz1, hz2⟩ := HNIL.out h0
                    subst h0 hz1 hz2
                    go_upto_region 17 with fail
                    refine wp_region_quiet (C := Ext W3) (by kernel_rfl) (by kernel_rfl) (Ext.drew (by (repeat (first | exact Ext.refl _ | (with_reducible assumption) | (with_reducible refine Ext.drew ?_) | (with_reducible refine Ext.alloc ?_ _) | (with_reducible refine Ext.drewN ?_ _) | (with_reducible refine Ext.setCell ?_ (by omega) _) | (with_reducible refine Ext.trans ?_ (by with_reducible assumption)))))) ?_
                    rw [show ∀ (l : List Oper), l.toArray.toList = l from fun l => rfl]
                    repeat (first
                      | go_big_quiet_skip
                      | (go_big_quiet_want
                         first
                          | (go_big_quiet_op; go_big_quiet_on)
                          | (apply Exists.intro
                             refine ⟨fun w' hxw => ?_, ?_⟩
                             focus (obtain ⟨⟨q0, q1, t0, t1, u0, u1, s0, s1⟩, -⟩ := HS.out w' hxw; go_simp; first | exact rfl | (first | (go_at_call 44; (refine (HBT.out _ _ w').mono ?_; exact fun e w'' h => ⟨h.1, hxw.trans h.2⟩)) | (go_at_call 19; (refine (HAW.out w').mono ?_; exact fun e w'' h => ⟨h.1, hxw.trans h.2⟩))))
                             simp only [Act.put, List.setIfInBounds_toArray, List.set_cons_zero, List.set_cons_succ]
                             go_big_quiet_on)))
                    refine wpQuiet_nil ?_
                    intro w2 hx2
                    go_wp2_with fail
                    go_ret
                    exact ⟨rfl, X11.trans hx2⟩
                  · have hpos : 0 < n := by omega
                    have hpos' : (0 : Int) < (n : Int) := by omega
                    have hdec : decide (0 < n) = true := decide_eq_true hpos
                    have hdec' : decide ((0 : Int) < (n : Int)) = true := decide_eq_true hpos'
                    go_upto_region 17 with fail
                    refine wp_region_quiet (C := Ext W3) (by kernel_rfl) (by kernel_rfl) (Ext.drew (by (repeat (first | exact Ext.refl _ | (with_reducible assumption) | (with_reducible refine Ext.drew ?_) | (with_reducible refine Ext.alloc ?_ _) | (with_reducible refine Ext.drewN ?_ _) | (with_reducible refine Ext.setCell ?_ (by omega) _) | (with_reducible refine Ext.trans ?_ (by with_reducible assumption)))))) ?_
                    rw [show ∀ (l : List Oper), l.toArray.toList = l from fun l => rfl]
                    repeat (first
                      | go_big_quiet_skip
                      | (go_big_quiet_want
                         first
                          | (go_big_quiet_op; go_big_quiet_on)
                          | (apply Exists.intro
                             refine ⟨fun w' hxw => ?_, ?_⟩
                             focus (obtain ⟨⟨q0, q1, t0, t1, u0, u1, s0, s1⟩, -⟩ := HS.out w' hxw; go_simp; first | exact rfl | (first | (go_at_call 44; (refine (HBT.out _ _ w').mono ?_; exact fun e w'' h => ⟨h.1, hxw.trans h.2⟩)) | (go_at_call 19; (refine (HAW.out w').mono ?_; exact fun e w'' h => ⟨h.1, hxw.trans h.2⟩))))
                             simp only [Act.put, List.setIfInBounds_toArray, List.set_cons_zero, List.set_cons_succ]
                             go_big_quiet_on)))
                    refine wpQuiet_nil ?_
                    intro w2 hx2
                    go_wp2_with fail
                    go_ret
                    exact ⟨rfl, X11.trans hx2⟩
end Go.Proofs.Ytfjecbfcnngacaa
