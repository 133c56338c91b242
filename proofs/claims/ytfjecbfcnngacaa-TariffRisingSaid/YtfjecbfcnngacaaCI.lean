/- Contracts: 'try', by induction on how many rates more. -/
import Derived.Test.YtfjecbfcnngacaaCH
namespace Go.Proofs.Ytfjecbfcnngacaa
open Go.RowKit Go.Hs
attribute [local irreducible] World.setCell World.alloc

theorem step_is_app {P : Program} {w : World} {ops : Array Oper} {o : Oper} {a : Act} {K : Act → World → Prop} {Q : Exit → Act → World → Prop} {E : Prop} (s x : Operand) (t : TypeId)
    (_ : o.op = .call { callee := .builtin .append, args := #[s, x], argTypes := #[t, t] }) (h : if Region.wanted o (yielded ops a.tmps) = true then Oper.wp P o a w K Q else E) : if Region.wanted o (yielded ops a.tmps) = true then Oper.wp P o a w K Q else E := h
theorem scan_step {α : Type} {f : Nat → Option α} {n i : Nat} : scan f (n + 1) i = match f i with | some x => some x | none => scan f n (i + 1) := rfl
theorem scan_yes {α : Type} {f : Nat → Option α} {n i : Nat} {x : α} (h : f i = some x) : scan f (n + 1) i = some x := by rw [scan_step, h]
theorem scan_no {α : Type} {f : Nat → Option α} {n i : Nat} (h : f i = none) : scan f (n + 1) i = scan f n (i + 1) := by rw [scan_step, h]
def TryM (wb : World) (R F L T : Nat) (vr : Value) (r : List Int) (want : Option (List Nat)) (W : World) (s : Value) (w' : World) : Prop := ∃ b, s = .bool b ∧ TryP wb R F L T vr r want W b w'
def TryC (wb : World) (R F L T : Nat) (vr : Value) (r : List Int) (m : Nat) : Prop := ∀ (fI mI : Int) (start : Nat) (out : List Nat) (vo : Value) (f : Nat → Bool) (W : World), fI = start → mI = m →
    TrySt wb R F L T vr f W → IntsV (mask (lowB (T + 1)) W) vo (ints out) → (∀ x, x ∈ out → x < 5) → out.length + m ≤ 5 → start ≤ 5 → (keptB r f = false ∨ (out = [] ∧ m = 0)) →
    Calls Try.prog 75 #[vo, .int .i64 fI, .int .i64 mI, .pointer (some ⟨L, 0, none⟩), .pointer (some ⟨F, 0, none⟩), .pointer (some ⟨R, 0, none⟩), .pointer (some ⟨T, 0, none⟩)] W fun e w' => TryQ wb R F L T vr r (tryS r m out start) W e w'

set_option maxRecDepth 100000 in
set_option maxHeartbeats 4000000 in
theorem try_succ (wb : World) (R F L T : Nat) (vr : Value) (r : List Int) (hr : IntsV wb vr r) (h5 : r.length ≤ 5) (m : Nat) (ih : TryC wb R F L T vr r m) : TryC wb R F L T vr r (m + 1) := by
  intro fI mI start out vo f W hfI hmI hs ho hx5 hlm hst hpre
  have hkf : keptB r f = false := by
    rcases hpre with h | ⟨-, h⟩
    · exact h
    · omega
  have HIH : Hid (∀ (fI mI : Int) (i : Nat) (vo' : Value) (f' : Nat → Bool) (W' : World), fI = (i : Int) + 1 → mI = m → i < r.length → TrySt wb R F L T vr f' W' → IntsV (mask (lowB (T + 1)) W') vo' (ints (out ++ [i])) → keptB r f' = false →
      Calls Try.prog 75 #[vo', .int .i64 fI, .int .i64 mI, .pointer (some ⟨L, 0, none⟩), .pointer (some ⟨F, 0, none⟩), .pointer (some ⟨R, 0, none⟩), .pointer (some ⟨T, 0, none⟩)] W' fun e w' => TryQ wb R F L T vr r (tryS r m (out ++ [i]) (i + 1)) W' e w') :=
    Lib.hid (fun fI mI i vo' f' W' h1 h2 h3 h4 h6 h7 => ih fI mI (i + 1) (out ++ [i]) vo' f' W' (by omega) h2 h4 h6 (fun x hx => by
      rcases List.mem_append.1 hx with h | h
      · exact hx5 x h
      · have : x = i := by simpa using h
        omega) (by simp; omega) (by omega) (.inl h7))
  have HSC : Hid (tryS r (m + 1) out start = scan (fun i => tryS r m (out ++ [i]) (i + 1)) (r.length - m - start) start) := Lib.hid rfl
  have HO := Lib.hid ho
  have HX5 := Lib.hid hx5
  have o1 := hs.o1
  have o2 := hs.o2
  have o3 := hs.o3
  have hTl : T < W.heap.size := lt_of_cell hs.tc
  have HS0 : Hid (∃ f', TrySt wb R F L T vr f' W ∧ keptB r f' = false) := Lib.hid ⟨f, hs, hkf⟩
  obtain ⟨ao, co, rfl, hlo, hlo2, -⟩ := ho
  have hlen : (ints out).length = out.length := by simp [ints]
  obtain ⟨ar, cr, rfl, -, -, -⟩ := hr
  rw [hlen] at HO hlo hlo2 ⊢
  obtain ⟨i0, hi0, hz0, hz1, hz2⟩ := info_parts info_int
  generalize hwa : tryS r (m + 1) out start = want at *
  have hm0 : ¬ mI = 0 := by omega
  have hmb : (mI == 0) = false := by rw [beq_eq_false_iff_ne]; exact hm0
  have hw1 : IntKind.i64.wrap ((r.length : Int) - mI) = (r.length : Int) - mI := IntWalk.i64_in _ (by omega)
  have hw2 : IntKind.i64.wrap (mI - 1) = mI - 1 := IntWalk.i64_in _ (by omega)
  have hol : out.length ≤ 5 := by omega
  have HM0 := Lib.hid hmI
  have HFI0 := Lib.hid hfI
  clear hpre hx5 hs hkf ih hwa hlen hmI hfI
  go_enter Try.func75, Try.ntmps75
  go_wp2_with fail
  go_loopw [12] (fun s12 wr => ∃ i : Nat, i ≤ 5 ∧ s12 = .int .i64 i ∧ Hid (∃ f', TrySt wb R F L T (.slice ar r.length cr) f' wr ∧ keptB r f' = false) ∧ EG F T W wr ∧ Hid (want = scan (fun i => tryS r m (out ++ [i]) (i + 1)) (r.length - m - i) i)) (fun s _ => 10 - (intOf s).toNat)
  case atStart => exact ⟨start, hst, by rw [HFI0.out], HS0, EG.refl _, HSC⟩
  case round =>
    obtain ⟨i, hi5, rfl, HS, hg, HSI⟩ := hrel
    obtain ⟨wo, rfl⟩ : ∃ x, x = wr := ⟨_, rfl⟩
    obtain ⟨f', hs', hk'⟩ := HS.out
    have rc := hs'.rc
    have tc := hs'.tc
    have HST := Lib.hid (And.intro hs' hk')
    clear hs' hk' HS
    by_cases hlt : i + m < r.length
    · have hd : decide ((i : Int) ≤ (r.length : Int) - mI) = true := decide_eq_true (by have := HM0.out; omega)
      have hw3 : IntKind.i64.wrap ((i : Int) + 1) = (i : Int) + 1 := IntWalk.i64_in _ (by omega)
      have hTo : T < wo.heap.size := lt_of_cell tc
      have HV := Lib.hid ((HO.out.kc (eg_low hg (by omega))))
      have HCLN : Hid (∀ W', Ext wo W' → Calls Try.prog 78 #[.slice ao out.length co] W' fun e w' => ∃ v', e = .returned v' ∧ w'.ownsRow wo.heap.size 3 1 v' out.length ((ints out).map (.int .i64)) ∧ Ext W' w') := Lib.hid (fun W' hx => (clone_any _ (ints out) W' ((HV.out.kc (mask_kc0 _ _)).ext hx) (by simp [ints]; omega)).mono (fun e w' ⟨v', g1, g2, g3⟩ => ⟨v', g1, by
        have := own_mono g2 hx.size
        simpa [ints] using this, g3⟩))
      have e2 : r.length - m - i = (r.length - m - (i + 1)) + 1 := by omega
      have HYES : Hid (∀ x, tryS r m (out ++ [i]) (i + 1) = some x → want = some x) := Lib.hid (fun x h => by rw [HSI.out, e2]; exact scan_yes h)
      have HNO : Hid (tryS r m (out ++ [i]) (i + 1) = none → want = scan (fun i => tryS r m (out ++ [i]) (i + 1)) (r.length - m - (i + 1)) (i + 1)) := Lib.hid (fun h => by rw [HSI.out, e2]; exact scan_no h)
      have HUS : Hid ((ints out).map (Value.int .i64) ++ [Value.int .i64 (i : Int)] = (ints (out ++ [i])).map (Value.int .i64)) := Lib.hid (by simp [ints])
      have HUN : Hid (out.length + 1 = (out ++ [i]).length) := Lib.hid (by simp)
      have HU5 : Hid (∀ x, x ∈ out ++ [i] → x < 5) := Lib.hid (fun x hx => by
        rcases List.mem_append.1 hx with h | h
        · exact HX5.out x h
        · have : x = i := by simpa using h
          omega)
      have HUL : Hid ((out ++ [i]).length ≤ 5) := Lib.hid (by simp; omega)
      have HONE : Hid (∀ u ∈ ([.int .i64 (i : Int)] : List Value), u.oneCell' = true) := Lib.hid (by
        intro u hu
        simp only [List.mem_cons, List.not_mem_nil, or_false] at hu
        rw [hu]; rfl)
      have HF1 : Hid (out.length + 1 ≤ maxLen) := Lib.hid (by simp only [maxLen]; omega)
      have HF2 : Hid ((out.length + 1) * 8 ≤ 140737488355328) := Lib.hid (by omega)
      have HIL : Hid (i < r.length) := Lib.hid (by omega)
      have HSS : Hid (∀ w', EG F T wo w' → w'.cell? ⟨T, 0, none⟩ = some (tryV R F L T) ∧ EG F T wo w') := fun w' hx => ⟨hx.keep (.inr (Nat.le_refl _)) tc, hx⟩
      have HMI : Hid (mI - 1 = (m : Int)) := Lib.hid (by have := HM0.out; omega)
      clear e2 HSI HSC HS0
      generalize hn : out.length = n at *
      go_upto_region 10 with fail
      go_cut [49] from 39 to 49 (fun s49 wx => TryM wb R F L T (.slice ar r.length cr) r (tryS r m (out ++ [i]) (i + 1)) wo s49 wx)
      case first =>
        unfold tryV at HSS
        go_region_held3 (fun w' => w'.cell? ⟨T, 0, none⟩ = some (.func (.func 75) #[] #[.pointer (some ⟨L, 0, none⟩), .pointer (some ⟨F, 0, none⟩), .pointer (some ⟨R, 0, none⟩), .pointer (some ⟨T, 0, none⟩)]) ∧ EG F T wo w')
          ((refine HSS.out _ ?_; (repeat (first | exact EG.refl _ | (with_reducible assumption) | (with_reducible refine EG.drew ?_) | (with_reducible refine EG.alloc ?_ _) | (with_reducible refine EG.ext ?_ (by with_reducible assumption)) | (with_reducible refine EG.trans ?_ (by with_reducible assumption)))))) 
          (first
            | (go_at_call 78; (refine (HCLN.out _ (by (repeat (first | exact Ext.refl _ | (with_reducible assumption) | (with_reducible refine Ext.drew ?_) | (with_reducible refine Ext.alloc ?_ _) | (with_reducible refine Ext.drewN ?_ _) | (with_reducible refine Ext.setCell ?_ (by omega) _) | (with_reducible refine Ext.trans ?_ (by with_reducible assumption)))))).mono ?_); rintro e w3 ⟨v3, rfl, hown3, hx3⟩)
            | (go_at_call 75; (refine (HIH.out _ _ i _ _ _ rfl HMI.out HIL.out (HST.out.1.grow (hx4.trans (by (repeat (first | exact Ext.refl _ | (with_reducible assumption) | (with_reducible refine Ext.drew ?_) | (with_reducible refine Ext.alloc ?_ _) | (with_reducible refine Ext.drewN ?_ _) | (with_reducible refine Ext.setCell ?_ (by omega) _) | (with_reducible refine Ext.trans ?_ (by with_reducible assumption))))))) (hv4.kc (eg_low (lo := F) (hi := T) (Ext.eg (by (repeat (first | exact Ext.refl _ | (with_reducible assumption) | (with_reducible refine Ext.drew ?_) | (with_reducible refine Ext.alloc ?_ _) | (with_reducible refine Ext.drewN ?_ _) | (with_reducible refine Ext.setCell ?_ (by omega) _) | (with_reducible refine Ext.trans ?_ (by with_reducible assumption)))))) (by omega))) HST.out.2).mono ?_); rintro e w5 ⟨b5, rfl, hp5⟩; have hg5 := hp5.eg; have HP5 := Lib.hid hp5)
            | ((refine step_is_app _ _ 59 rfl ?_); (refine step_append_lies _ (by rfl) _ _ 59 (by rfl) wo.heap.size 3 i0 (.int .i64 0) 1 8 Try.underlying59 hi0 hz0 hz1 hz2 rfl (by decide) v3 n ((ints out).map (.int .i64)) (by rfl) (own_keep hown3 (fun g hg => Ext.heap (by (repeat (first | exact Ext.refl _ | (with_reducible assumption) | (with_reducible refine Ext.drew ?_) | (with_reducible refine Ext.alloc ?_ _) | (with_reducible refine Ext.drewN ?_ _) | (with_reducible refine Ext.setCell ?_ (by omega) _) | (with_reducible refine Ext.trans ?_ (by with_reducible assumption))))) (own_lt hown3 hg).2)) ⟨_, 0, none⟩ 1 1 [.int .i64 (i : Int)] (by rfl) rfl (one_in (by (repeat (first | exact Ext.refl _ | (with_reducible assumption) | (with_reducible refine Ext.drew ?_) | (with_reducible refine Ext.alloc ?_ _) | (with_reducible refine Ext.drewN ?_ _) | (with_reducible refine Ext.setCell ?_ (by omega) _) | (with_reducible refine Ext.trans ?_ (by with_reducible assumption))))) (by first | rfl | simp)) HONE.out (by decide) HF1.out HF2.out (Ext.size (by (repeat (first | exact Ext.refl _ | (with_reducible assumption) | (with_reducible refine Ext.drew ?_) | (with_reducible refine Ext.alloc ?_ _) | (with_reducible refine Ext.drewN ?_ _) | (with_reducible refine Ext.setCell ?_ (by omega) _) | (with_reducible refine Ext.trans ?_ (by with_reducible assumption)))))) _ rfl ?_); intro g cap w4 hown4 hgrow hat hlt4; have hx4 : Ext wo w4 := grown_ext (by (repeat (first | exact Ext.refl _ | (with_reducible assumption) | (with_reducible refine Ext.drew ?_) | (with_reducible refine Ext.alloc ?_ _) | (with_reducible refine Ext.drewN ?_ _) | (with_reducible refine Ext.setCell ?_ (by omega) _) | (with_reducible refine Ext.trans ?_ (by with_reducible assumption))))) hgrow (fun g hg => (own_lt hown3 hg).1); have hv4 := own_ints (N := T + 1) hown4 HUS.out HUN.out hTo HU5.out HUL.out))
        all_goals
          go_wp2_with fail
          go_meet
          exact ⟨_, rfl, ⟨hx4.eg.trans (EG.trans (Ext.eg (by (repeat (first | exact Ext.refl _ | (with_reducible assumption) | (with_reducible refine Ext.drew ?_) | (with_reducible refine Ext.alloc ?_ _) | (with_reducible refine Ext.drewN ?_ _) | (with_reducible refine Ext.setCell ?_ (by omega) _) | (with_reducible refine Ext.trans ?_ (by with_reducible assumption)))))) hg5), HP5.out.yes, HP5.out.no⟩⟩
      case rest =>
        obtain ⟨b, rfl, hp⟩ := hcut
        have HP := Lib.hid hp
        clear hp
        obtain ⟨wd, rfl⟩ : ∃ x, x = wc := ⟨_, rfl⟩
        cases b with
        | true =>
          obtain ⟨x, vx, hx1, hx2, hx3⟩ := HP.out.yes rfl
          have HF := Lib.hid (And.intro (HYES.out x hx1) (And.intro hx2 hx3))
          clear hx1 hx2 hx3
          go_wp2_with fail
          go_ret
          exact ⟨true, rfl, ⟨hg.trans HP.out.eg, fun _ => ⟨x, vx, HF.out.1, HF.out.2.1, HF.out.2.2⟩, fun h => (by cases h)⟩⟩
        | false =>
          obtain ⟨hn1, hn2⟩ := HP.out.no rfl
          have HN1 := Lib.hid (HNO.out hn1)
          have HN2 := Lib.hid hn2
          clear hn1 hn2
          go_wp2_with fail
          go_roundw
          case rel => exact ⟨i + 1, by omega, by go_num, HN2, hg.trans HP.out.eg, HN1⟩
          case measure => simp [intOf]; omega
    · have hd : decide ((i : Int) ≤ (r.length : Int) - mI) = false := decide_eq_false (by have := HM0.out; omega)
      have HN : Hid (want = none) := Lib.hid (by rw [HSI.out, show r.length - m - i = 0 by omega]; rfl)
      clear HSI HSC HS0
      go_wp2_with fail
      go_ret
      exact ⟨false, rfl, ⟨hg, fun h => (by cases h), fun _ => ⟨HN.out, f', HST.out.1, HST.out.2⟩⟩⟩
end Go.Proofs.Ytfjecbfcnngacaa
