/- Contracts of the reference of layer 7: how a case ends, by the outcomes of all fields. -/
import Derived.Test.YtedblocbcjoolaaGreatKRD
set_option linter.unusedSimpArgs false
set_option linter.unusedVariables false
namespace Go.Hs
open Go.RowKit Go.Proofs.YtedblocbcjoolaaGreat
/-- The result that is being made, in a variable. -/
structure EndL (W : World) (R : Nat) (a f s : Int) (w : World) : Prop where
  kp : KP (fun j => j = R) W w
  r0 : w.cell? ⟨R, 0, none⟩ = some (.slice none 0 0)
  r1 : w.cell? ⟨R, 1, none⟩ = some (.int .i64 a)
  r2 : w.cell? ⟨R, 2, none⟩ = some (.int .i64 f)
  r3 : w.cell? ⟨R, 3, none⟩ = some (.int .i64 s)
  fr : ∀ o, w.frozen? ⟨R, o, none⟩ = false
theorem EndL.ext {W : World} {R : Nat} {a f s : Int} {w w' : World} (h : EndL W R a f s w) (hx : Ext w w') : EndL W R a f s w' :=
  ⟨h.kp.ext hx, hx.keep h.r0, hx.keep h.r1, hx.keep h.r2, hx.keep h.r3, fun o => (hx.frozen (lt_of_cell h.r0)).trans (h.fr o)⟩
theorem EndL.award {W : World} {R : Nat} {a f s : Int} {w : World} (h : EndL W R a f s w) (x : Int) : EndL W R x f s (w.setCell ⟨R, 1, none⟩ (.int .i64 x)) :=
  ⟨h.kp.setCell (p := fun j => j = R) rfl _, sc_ne' (.inr (by decide)) h.r0, sc_eq' h.r1, sc_ne' (.inr (by decide)) h.r2, sc_ne' (.inr (by decide)) h.r3, fun o => by rw [World.frozen?_setCell]; exact h.fr o⟩
theorem EndL.far {W : World} {R : Nat} {a f s : Int} {w : World} (h : EndL W R a f s w) (x : Int) : EndL W R a x s (w.setCell ⟨R, 2, none⟩ (.int .i64 x)) :=
  ⟨h.kp.setCell (p := fun j => j = R) rfl _, sc_ne' (.inr (by decide)) h.r0, sc_ne' (.inr (by decide)) h.r1, sc_eq' h.r2, sc_ne' (.inr (by decide)) h.r3, fun o => by rw [World.frozen?_setCell]; exact h.fr o⟩
theorem EndL.soc {W : World} {R : Nat} {a f s : Int} {w : World} (h : EndL W R a f s w) (x : Int) : EndL W R a f x (w.setCell ⟨R, 3, none⟩ (.int .i64 x)) :=
  ⟨h.kp.setCell (p := fun j => j = R) rfl _, sc_ne' (.inr (by decide)) h.r0, sc_ne' (.inr (by decide)) h.r1, sc_ne' (.inr (by decide)) h.r2, sc_eq' h.r3, fun o => by rw [World.frozen?_setCell]; exact h.fr o⟩
theorem sumR_n {l : List Oc} (h : ∀ o ∈ l, OcOK o) : ∀ k, k ≤ l.length → RsN k (sumR (l.take k))
  | 0, _ => RsN.zero
  | k + 1, hk => by
    rw [← sumR_next hk]
    exact (sumR_n h k (by omega)).plus (h _ (List.getElem_mem hk))
end Go.Hs
namespace Go.Proofs.YtedblocbcjoolaaGreat
open Go.RowKit Go.Hs
attribute [local irreducible] World.setCell World.alloc

set_option maxRecDepth 100000 in
set_option maxHeartbeats 4000000 in
theorem REnd_any (c : Cas) (v : Value) (l : List Oc) (vl : Value) (w : World) (hv : CasV w v c) (hl : OcsV w vl l) (hn : l.length ≤ 3) (hok : ∀ o ∈ l, OcOK o) (hfee : 0 ≤ c.fee ∧ c.fee ≤ 10000) :
    Calls Tryz.prog 60 #[v, vl] w fun e w' => e = .returned (.agg #[.slice none 0 0, .int .i64 (sumR l).award, .int .i64 ((sumR l).far c.fee), .int .i64 ((sumR l).soc c.fee)]) ∧ Ext w w' := by
  obtain ⟨a1, c1, a2, c2, rfl, -, -, -, -, -⟩ := hv.open
  obtain ⟨al, ql, rfl, -, -, hcl⟩ := hl
  have HCL := Lib.hid hcl
  have HN : Hid (∀ k (h : k < l.length), (sumR (l.take k)).plus l[k] = sumR (l.take (k + 1))) := Lib.hid (fun k h => sumR_next h)
  have HB := Lib.hid (sumR_n hok)
  have HO := Lib.hid hok
  have HE : Hid (sumR (l.take l.length) = sumR l) := Lib.hid (by rw [List.take_length])
  have HF : Hid ((sumR l).far c.fee = if (sumR l).called then (if 0 < (sumR l).lost then c.fee else if (sumR l).lost < 0 then 0 else c.fee - c.fee / 2) else 0) := rfl
  have HS : Hid ((sumR l).soc c.fee = if (sumR l).called then (if 0 < (sumR l).lost then 0 else if (sumR l).lost < 0 then c.fee else c.fee / 2) else 0) := rfl
  have w0 : IntKind.i64.wrap (c.fee.tdiv 2) = c.fee / 2 := by rw [Int.tdiv_eq_ediv_of_nonneg hfee.1]; exact IntWalk.i64_in _ (by omega)
  have w1' : IntKind.i64.wrap (c.fee - c.fee / 2) = c.fee - c.fee / 2 := IntWalk.i64_in _ (by omega)
  have w2' : c.fee.tdiv 2 = c.fee / 2 := Int.tdiv_eq_ediv_of_nonneg hfee.1
  have w3' : IntKind.i64.wrap (c.fee / 2) = c.fee / 2 := IntWalk.i64_in _ (by omega)
  clear hv hcl hok hfee
  generalize (sumR l).far c.fee = F at *
  generalize (sumR l).soc c.fee = S at *
  unfold casV
  go_enter Tryz.func60, Tryz.ntmps60
  go_upto_region 4 with fail
  have c2' : (((w.alloc (.cells #[.slice a1 c.tars.length c1, .int .i64 c.day, .int .i64 c.fee, .slice a2 c.flds.length c2] 25)).alloc (.cells #[.slice none 0 0, .int .i64 0, .int .i64 0, .int .i64 0] 62)).alloc (.cells #[.slice none 0 0, .int .i64 0, .int .i64 0, .int .i64 0] 62)).cell? ⟨w.heap.size, 2, none⟩ = some (.int .i64 c.fee) := by simp [go_sem]
  have z0 : ∀ o : Nat, o < 4 → ∃ x, (((w.alloc (.cells #[.slice a1 c.tars.length c1, .int .i64 c.day, .int .i64 c.fee, .slice a2 c.flds.length c2] 25)).alloc (.cells #[.slice none 0 0, .int .i64 0, .int .i64 0, .int .i64 0] 62)).alloc (.cells #[.slice none 0 0, .int .i64 0, .int .i64 0, .int .i64 0] 62)).cell? ⟨w.heap.size + 1, o, none⟩ = some x := fun o ho => by
    have : o = 0 ∨ o = 1 ∨ o = 2 ∨ o = 3 := by omega
    rcases this with rfl | rfl | rfl | rfl <;> exact ⟨_, by simp [go_sem]; rfl⟩
  have zf : ∀ o, (((w.alloc (.cells #[.slice a1 c.tars.length c1, .int .i64 c.day, .int .i64 c.fee, .slice a2 c.flds.length c2] 25)).alloc (.cells #[.slice none 0 0, .int .i64 0, .int .i64 0, .int .i64 0] 62)).alloc (.cells #[.slice none 0 0, .int .i64 0, .int .i64 0, .int .i64 0] 62)).frozen? ⟨w.heap.size + 1, o, none⟩ = false := fun o => by simp [go_sem]
  have X : Ext w (((w.alloc (.cells #[.slice a1 c.tars.length c1, .int .i64 c.day, .int .i64 c.fee, .slice a2 c.flds.length c2] 25)).alloc (.cells #[.slice none 0 0, .int .i64 0, .int .i64 0, .int .i64 0] 62)).alloc (.cells #[.slice none 0 0, .int .i64 0, .int .i64 0, .int .i64 0] 62)) := by (repeat (first | exact Ext.refl _ | (with_reducible assumption) | (with_reducible refine Ext.drew ?_) | (with_reducible refine Ext.alloc ?_ _) | (with_reducible refine Ext.drewN ?_ _) | (with_reducible refine Ext.setCell ?_ (by omega) _) | (with_reducible refine Ext.trans ?_ (by with_reducible assumption))))
  have HL0 : EndL (((w.alloc (.cells #[.slice a1 c.tars.length c1, .int .i64 c.day, .int .i64 c.fee, .slice a2 c.flds.length c2] 25)).alloc (.cells #[.slice none 0 0, .int .i64 0, .int .i64 0, .int .i64 0] 62)).alloc (.cells #[.slice none 0 0, .int .i64 0, .int .i64 0, .int .i64 0] 62)) (w.heap.size + 1 + 1) 0 0 0 (((w.alloc (.cells #[.slice a1 c.tars.length c1, .int .i64 c.day, .int .i64 c.fee, .slice a2 c.flds.length c2] 25)).alloc (.cells #[.slice none 0 0, .int .i64 0, .int .i64 0, .int .i64 0] 62)).alloc (.cells #[.slice none 0 0, .int .i64 0, .int .i64 0, .int .i64 0] 62)) :=
    ⟨KP.refl _, by simp [go_sem], by simp [go_sem], by simp [go_sem], by simp [go_sem], fun o => by simp [go_sem]⟩
  generalize ((w.alloc (.cells #[.slice a1 c.tars.length c1, .int .i64 c.day, .int .i64 c.fee, .slice a2 c.flds.length c2] 25)).alloc (.cells #[.slice none 0 0, .int .i64 0, .int .i64 0, .int .i64 0] 62)).alloc (.cells #[.slice none 0 0, .int .i64 0, .int .i64 0, .int .i64 0] 62) = W at *
  have HC2 := Lib.hid c2'
  have HZ0 := Lib.hid z0
  have HZF := Lib.hid zf
  have HL1 : Hid (EndL W (w.heap.size + 1 + 1) (sumR (l.take 0)).award 0 0 W) := Lib.hid HL0
  clear c2' z0 zf HL0
  go_loopw [6, 7, 8] (fun s6 s7 s8 wr => ∃ k : Nat, k ≤ l.length ∧ s8 = .int .i64 k ∧ s6 = .bool (sumR (l.take k)).called ∧ s7 = .int .i64 (sumR (l.take k)).lost ∧ Hid (EndL W (w.heap.size + 1 + 1) (sumR (l.take k)).award 0 0 wr)) (fun _ _ s _ => l.length - (intOf s).toNat)
  case atStart => exact ⟨0, Nat.zero_le _, rfl, rfl, rfl, HL1⟩
  case round =>
    obtain ⟨k, hk, rfl, rfl, rfl, HL⟩ := hrel
    obtain ⟨wo, rfl⟩ : ∃ x, x = wr := ⟨_, rfl⟩
    have hb := HB.out k hk
    by_cases hlt : k < l.length
    · obtain ⟨b, off, rfl, hce⟩ := HCL.out k (by simpa using hlt)
      have e1 : (l.map Oc.c)[k]'(by simpa using hlt) = (l[k]).c := by simp
      rw [e1] at hce
      have hbl : b < w.heap.size := lt_of_cell hce.1
      have hnx := HN.out k hlt
      have hox := HO.out _ (List.getElem_mem hlt)
      obtain ⟨m0, m1, m2⟩ := hce.ext X _ _ _
      have hnb : ¬ b = w.heap.size + 1 + 1 := by omega
      replace m0 := HL.out.kp.keep hnb m0
      replace m1 := HL.out.kp.keep hnb m1
      replace m2 := HL.out.kp.keep hnb m2
      have HNX := Lib.hid hnx
      clear hnx hce e1 HCL HN HB HO HE HF HS HL1
      generalize sumR (l.take k) = r at *
      generalize l[k] = o at *
      obtain ⟨A, cb, lo⟩ := r
      obtain ⟨p, oc, ol⟩ := o
      simp only [Oc.c, Rs.plus] at *
      have g1 := hb.award
      have g2 := hb.lost
      have g3 := hox.pay
      have g4 := hox.lost
      simp only at g1 g2 g3 g4
      have hw1 : IntKind.i64.wrap (A + p) = A + p := IntWalk.i64_in _ (by omega)
      have hw2 : IntKind.i64.wrap (lo + ol) = lo + ol := IntWalk.i64_in _ (by omega)
      have hk0 : (0 : Int) ≤ (k : Int) := by omega
      have hki : (k : Int) < (l.length : Int) := by omega
      have r1 := HL.out.r1
      have fr := HL.out.fr
      have HLN := Lib.hid (HL.out.award (A + p))
      have n0 := sc_ne' (v := .int .i64 (A + p)) (i' := 1) (.inl hnb) m1
      have n1 := sc_ne' (v := .int .i64 (A + p)) (i' := 1) (.inl hnb) m2
      have HM1 := Lib.hid (fun W' (h : Ext (wo.setCell ⟨w.heap.size + 1 + 1, 1, none⟩ (.int .i64 (A + p))) W') => (⟨h.keep n0, h.keep n1⟩ : _ ∧ _))
      clear hb hox g1 g2 g3 g4 n0 n1
      go_upto_region 6 with fail
      go_cut [] from 15 to 22 (fun wx => Ext (wo.setCell ⟨w.heap.size + 1 + 1, 1, none⟩ (.int .i64 (A + p))) wx)
      case first =>
        clear HLN HM1 HNX HL HC2 HZ0 HZF m1 m2
        go_region
        all_goals
          go_wp2_with fail
          go_meet
          (repeat (first | exact Ext.refl _ | (with_reducible assumption) | (with_reducible refine Ext.drew ?_) | (with_reducible refine Ext.alloc ?_ _) | (with_reducible refine Ext.drewN ?_ _) | (with_reducible refine Ext.setCell ?_ (by omega) _) | (with_reducible refine Ext.trans ?_ (by with_reducible assumption))))
      case rest =>
        obtain ⟨w5, rfl⟩ : ∃ x, x = wc := ⟨_, rfl⟩
        have HL5 := Lib.hid (HLN.out.ext hcut)
        obtain ⟨m1, m2⟩ := HM1.out _ hcut
        clear HLN HM1 HL hcut m0 r1 fr
        have HRL : Hid (EndL W (w.heap.size + 1 + 1) (sumR (l.take (k + 1))).award 0 0 w5) := Lib.hid (by rw [← HNX.out]; exact HL5.out)
        have HC : Hid (Rs.mk (A + p) (cb || oc) (lo + ol) = sumR (l.take (k + 1))) := HNX
        clear HNX HL5
        cases cb with
        | true =>
          go_wp2_with fail
          go_roundw
          case rel => exact ⟨k + 1, by omega, by go_num, by rw [← HC.out]; rfl, by rw [← HC.out], HRL⟩
          case measure => simp [intOf]; omega
        | false =>
          cases oc with
          | true =>
            go_wp2_with fail
            go_roundw
            case rel => exact ⟨k + 1, by omega, by go_num, by rw [← HC.out]; rfl, by rw [← HC.out], HRL⟩
            case measure => simp [intOf]; omega
          | false =>
            go_wp2_with fail
            go_roundw
            case rel => exact ⟨k + 1, by omega, by go_num, by rw [← HC.out]; rfl, by rw [← HC.out], HRL⟩
            case measure => simp [intOf]; omega
    · obtain rfl : k = l.length := by omega
      rw [HE.out] at HL ⊢
      have hbd := HB.out l.length (Nat.le_refl _)
      have hne : ¬ w.heap.size + 1 = w.heap.size + 1 + 1 := by omega
      have hWs : w.heap.size + 1 < W.heap.size := by
        obtain ⟨x, hx⟩ := HZ0.out 0 (by decide)
        exact lt_of_cell hx
      obtain ⟨z0, hz0⟩ := HZ0.out 0 (by decide)
      obtain ⟨z1, hz1⟩ := HZ0.out 1 (by decide)
      obtain ⟨z2, hz2⟩ := HZ0.out 2 (by decide)
      obtain ⟨z3, hz3⟩ := HZ0.out 3 (by decide)
      have XO : Ext w wo := HL.out.kp.toExt X (fun j hj => by omega)
      have q2 := HL.out.kp.keep (show ¬ w.heap.size = w.heap.size + 1 + 1 by omega) HC2.out
      replace hz0 := HL.out.kp.keep hne hz0
      replace hz1 := HL.out.kp.keep hne hz1
      replace hz2 := HL.out.kp.keep hne hz2
      replace hz3 := HL.out.kp.keep hne hz3
      have zf : ∀ o, wo.frozen? ⟨w.heap.size + 1, o, none⟩ = false := fun o => (HL.out.kp.frozen hWs hne).trans (HZF.out o)
      have HT : Hid (∀ a f s w', EndL W (w.heap.size + 1 + 1) a f s w' → KP (fun j => j = w.heap.size + 1 + 1) wo w' → (w'.cell? ⟨w.heap.size + 1 + 1, 0, none⟩ = some (.slice none 0 0) ∧ w'.cell? ⟨w.heap.size + 1 + 1, 1, none⟩ = some (.int .i64 a) ∧ w'.cell? ⟨w.heap.size + 1 + 1, 2, none⟩ = some (.int .i64 f) ∧ w'.cell? ⟨w.heap.size + 1 + 1, 3, none⟩ = some (.int .i64 s) ∧ (∀ o, w'.frozen? ⟨w.heap.size + 1 + 1, o, none⟩ = false)) ∧ (w'.cell? ⟨w.heap.size, 2, none⟩ = some (.int .i64 c.fee) ∧ w'.cell? ⟨w.heap.size + 1, 0, none⟩ = some z0 ∧ w'.cell? ⟨w.heap.size + 1, 1, none⟩ = some z1 ∧ w'.cell? ⟨w.heap.size + 1, 2, none⟩ = some z2 ∧ w'.cell? ⟨w.heap.size + 1, 3, none⟩ = some z3 ∧ (∀ o, w'.frozen? ⟨w.heap.size + 1, o, none⟩ = false)) ∧ Ext w w') := Lib.hid (fun a f s w' h hk => ⟨⟨h.r0, h.r1, h.r2, h.r3, h.fr⟩, ⟨hk.keep (by omega) q2, hk.keep hne hz0, hk.keep hne hz1, hk.keep hne hz2, hk.keep hne hz3, fun o => (hk.frozen (lt_of_cell hz0) hne).trans (zf o)⟩, hk.toExt XO (fun j hj => by omega)⟩)
      have HWL := HL.out
      clear HL HZ0 HZF HC2 HL1 HN HB HO HE HCL hz0 hz1 hz2 hz3 zf q2 XO X hbd
      generalize hr : sumR l = r at *
      have HR := Lib.hid hr
      clear hr
      obtain ⟨A, cb, lo⟩ := r
      simp only at *
      cases cb with
      | false =>
        obtain rfl : F = 0 := HF.out
        obtain rfl : S = 0 := HS.out
        obtain ⟨⟨r0, r1, r2, r3, rf⟩, ⟨q2, y0, y1, y2, y3, yf⟩, XO⟩ := HT.out _ _ _ wo HWL (KP.refl _)
        clear HT HWL HF HS
        go_wp2_with fail
        exact bodyPost_ret (v := .agg #[.slice none 0 0, .int .i64 A, .int .i64 0, .int .i64 0]) (by simp [results, Tryz.results60, go_sem, y0, y1, y2, y3]) rfl ⟨by rw [HR.out], by (repeat (first | exact Ext.refl _ | (with_reducible assumption) | (with_reducible refine Ext.drew ?_) | (with_reducible refine Ext.alloc ?_ _) | (with_reducible refine Ext.drewN ?_ _) | (with_reducible refine Ext.setCell ?_ (by omega) _) | (with_reducible refine Ext.trans ?_ (by with_reducible assumption))))⟩
      | true =>
        have HF' : Hid (F = if 0 < lo then c.fee else if lo < 0 then 0 else c.fee - c.fee / 2) := HF.out
        have HS' : Hid (S = if 0 < lo then 0 else if lo < 0 then c.fee else c.fee / 2) := HS.out
        clear HF HS
        by_cases h1 : 0 < lo
        · have d1 : decide (0 < lo) = true := decide_eq_true h1
          obtain rfl : F = c.fee := by rw [HF'.out, if_pos h1]
          obtain rfl : S = 0 := by rw [HS'.out, if_pos h1]
          obtain ⟨⟨r0, r1, r2, r3, rf⟩, ⟨q2, y0, y1, y2, y3, yf⟩, XO⟩ := HT.out _ _ _ wo HWL (KP.refl _)
          have HT2 := Lib.hid (HT.out _ _ _ _ (HWL.far c.fee) (KP.one _))
          clear HT HWL HF' HS'
          go_upto_region 17 with fail
          clear r0 r1 r2 r3 rf q2 y0 y1 y2 y3 yf XO
          obtain ⟨⟨r0, r1, r2, r3, rf⟩, ⟨q2, y0, y1, y2, y3, yf⟩, XO⟩ := HT2.out
          clear HT2
          generalize wo.setCell ⟨w.heap.size + 1 + 1, 2, none⟩ (.int .i64 c.fee) = w6 at *
          go_wp2_with fail
          exact bodyPost_ret (v := .agg #[.slice none 0 0, .int .i64 A, .int .i64 c.fee, .int .i64 0]) (by simp [results, Tryz.results60, go_sem, y0, y1, y2, y3]) rfl ⟨by rw [HR.out], by (repeat (first | exact Ext.refl _ | (with_reducible assumption) | (with_reducible refine Ext.drew ?_) | (with_reducible refine Ext.alloc ?_ _) | (with_reducible refine Ext.drewN ?_ _) | (with_reducible refine Ext.setCell ?_ (by omega) _) | (with_reducible refine Ext.trans ?_ (by with_reducible assumption))))⟩
        · have d1 : decide (0 < lo) = false := decide_eq_false h1
          by_cases h2 : lo < 0
          · have d2 : decide (lo < 0) = true := decide_eq_true h2
            obtain rfl : F = 0 := by rw [HF'.out, if_neg h1, if_pos h2]
            obtain rfl : S = c.fee := by rw [HS'.out, if_neg h1, if_pos h2]
            obtain ⟨⟨r0, r1, r2, r3, rf⟩, ⟨q2, y0, y1, y2, y3, yf⟩, XO⟩ := HT.out _ _ _ wo HWL (KP.refl _)
            have HT2 := Lib.hid (HT.out _ _ _ _ (HWL.soc c.fee) (KP.one _))
            clear HT HWL HF' HS'
            go_upto_region 17 with fail
            clear r0 r1 r2 r3 rf q2 y0 y1 y2 y3 yf XO
            obtain ⟨⟨r0, r1, r2, r3, rf⟩, ⟨q2, y0, y1, y2, y3, yf⟩, XO⟩ := HT2.out
            clear HT2
            generalize wo.setCell ⟨w.heap.size + 1 + 1, 3, none⟩ (.int .i64 c.fee) = w6 at *
            go_wp2_with fail
            exact bodyPost_ret (v := .agg #[.slice none 0 0, .int .i64 A, .int .i64 0, .int .i64 c.fee]) (by simp [results, Tryz.results60, go_sem, y0, y1, y2, y3]) rfl ⟨by rw [HR.out], by (repeat (first | exact Ext.refl _ | (with_reducible assumption) | (with_reducible refine Ext.drew ?_) | (with_reducible refine Ext.alloc ?_ _) | (with_reducible refine Ext.drewN ?_ _) | (with_reducible refine Ext.setCell ?_ (by omega) _) | (with_reducible refine Ext.trans ?_ (by with_reducible assumption))))⟩
          · have d2 : decide (lo < 0) = false := decide_eq_false h2
            have HEF : Hid (F = c.fee - c.fee / 2) := Lib.hid (by rw [HF'.out, if_neg h1, if_neg h2])
            have HES : Hid (S = c.fee / 2) := Lib.hid (by rw [HS'.out, if_neg h1, if_neg h2])
            obtain ⟨⟨r0, r1, r2, r3, rf⟩, ⟨q2, y0, y1, y2, y3, yf⟩, XO⟩ := HT.out _ _ _ wo HWL (KP.refl _)
            have HW2 := HWL.soc (c.fee / 2)
            have HT2 := Lib.hid (HT.out _ _ _ _ HW2 (KP.one _))
            have HT3 := Lib.hid (HT.out _ _ _ _ (HW2.far (c.fee - c.fee / 2)) ((KP.one _).trans (KP.one _)))
            clear HT HWL HF' HS' HW2
            go_upto_region 16 with fail
            clear r0 r1 r2 r3 rf q2 y0 y1 y2 y3 yf XO
            obtain ⟨⟨r0, r1, r2, r3, rf⟩, ⟨q2, y0, y1, y2, y3, yf⟩, XO⟩ := HT2.out
            clear HT2
            generalize wo.setCell ⟨w.heap.size + 1 + 1, 3, none⟩ (.int .i64 (c.fee / 2)) = w5 at *
            go_upto_region 17 with fail
            clear r0 r1 r2 r3 rf q2 y0 y1 y2 y3 yf XO
            obtain ⟨⟨r0, r1, r2, r3, rf⟩, ⟨q2, y0, y1, y2, y3, yf⟩, XO⟩ := HT3.out
            clear HT3
            generalize w5.setCell ⟨w.heap.size + 1 + 1, 2, none⟩ (.int .i64 (c.fee - c.fee / 2)) = w6 at *
            go_wp2_with fail
            refine bodyPost_ret (v := .agg #[.slice none 0 0, .int .i64 A, .int .i64 (c.fee - c.fee / 2), .int .i64 (c.fee / 2)]) (by simp [results, Tryz.results60, go_sem, y0, y1, y2, y3]) rfl ⟨?_, by (repeat (first | exact Ext.refl _ | (with_reducible assumption) | (with_reducible refine Ext.drew ?_) | (with_reducible refine Ext.alloc ?_ _) | (with_reducible refine Ext.drewN ?_ _) | (with_reducible refine Ext.setCell ?_ (by omega) _) | (with_reducible refine Ext.trans ?_ (by with_reducible assumption))))⟩
            rw [HEF.out, HES.out, HR.out]
end Go.Proofs.YtedblocbcjoolaaGreat
