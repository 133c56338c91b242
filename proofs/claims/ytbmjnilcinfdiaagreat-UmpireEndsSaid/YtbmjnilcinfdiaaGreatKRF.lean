/- Contracts of the reference of layer 7: how a case ends in a truth. -/
import Derived.Test.YtbmjnilcinfdiaaGreatKRE
import Derived.Test.YtbmjnilcinfdiaaGreatKVO
import Derived.Test.YtbmjnilcinfdiaaGreatKRA
import Derived.Test.YtbmjnilcinfdiaaGreatKYH
set_option linter.unusedSimpArgs false
set_option linter.unusedVariables false
namespace Go.Hs
open Go.RowKit Go.Proofs.YtbmjnilcinfdiaaGreat
/-- The two lists that are being made. -/
structure Rows2 (B e1 e2 : Nat) (c : Cas) (t : List Thr) (k : Nat) (v1 v2 : Value) (w : World) : Prop where
  o1 : w.ownsRow B e1 3 v1 k ((ocsT c (c.flds.take k) (t.take k)).flatMap (fun o => o.c.cs))
  o2 : w.ownsRow B e2 1 v2 k ((countsT (c.flds.take k) (t.take k)).map (Value.int .i64))
  ne : ∀ g, v1.ownBlock = some g → ¬ v2.ownBlock = some g
theorem Rows2.nil (B e1 e2 : Nat) (c : Cas) (t : List Thr) (w : World) : Rows2 B e1 e2 c t 0 (.slice none 0 0) (.slice none 0 0) w :=
  ⟨World.ownsRow_nil _ _ _ _, World.ownsRow_nil _ _ _ _, fun g h => by simp [Value.ownBlock] at h⟩
theorem ocsT_len {c : Cas} {fs : List Fld} {t : List Thr} (h : t.length = fs.length) : (ocsT c fs t).length = fs.length := by simp [ocsT, h]
theorem ocsT_ok {c : Cas} (hc : CasOK c) (h0 : checkS c.tars = 0) {t : List Thr} (ht : TruthOf c.flds t) : ∀ o ∈ ocsT c c.flds t, OcOK o := fun o ho => by
  obtain ⟨hl, hx⟩ := truthOf_iff.1 ht
  obtain ⟨i, hi, rfl⟩ := List.getElem_of_mem ho
  have h1 : i < c.flds.length := by rw [ocsT_len hl] at hi; exact hi
  have h2 : i < t.length := by omega
  have e : (ocsT c c.flds t)[i] = ocS c c.flds[i] t[i] := by simp [ocsT]
  rw [e]
  exact ocS_ok hc h0 (hc.flds _ (List.getElem_mem h1)) (hx i h1 h2)
theorem sum_like {c : Cas} (hc : CasOK c) (h0 : checkS c.tars = 0) {t : List Thr} (ht : TruthOf c.flds t) : Like (sumT c c.flds t) (sumR (ocsT c c.flds t)) :=
  (like_truth hc h0 c.flds t 0 Sm.zero Rs.zero (fun k h1 h2 => ⟨List.getElem_mem h1, (truthOf_iff.1 ht).2 k h1 h2⟩) SmN.zero Like.zero).2
theorem fresh_put {W w w' : World} {a : Option Addr} {n q T : Nat} {xs : List Int} (h : IntsV w (.slice a n q) xs) (hf : ∀ g o, a = some ⟨g, o, none⟩ → W.heap.size ≤ g) (hT : T < W.heap.size) (hk : KP (fun j => j = T) w w') : IntsV w' (.slice a n q) xs := by
  obtain ⟨a', c, he, h1, h2, hr⟩ := h
  refine ⟨a', c, he, h1, h2, fun i hi => ?_⟩
  obtain ⟨b, o, hb, hx, ho⟩ := hr i hi
  simp only [Value.slice.injEq] at he
  have := hf b o (he.1.trans hb)
  exact ⟨b, o, hb, hk.keep (by omega) hx, ho⟩
theorem kp_four {T : Nat} {w : World} (a b c d : Value) : KP (fun j => j = T) w ((((w.setCell ⟨T, 0, none⟩ a).setCell ⟨T, 1, none⟩ b).setCell ⟨T, 2, none⟩ c).setCell ⟨T, 3, none⟩ d) :=
  (((KP.one _).trans (KP.one _)).trans (KP.one _)).trans (KP.one _)
end Go.Hs
namespace Go.Proofs.YtbmjnilcinfdiaaGreat
open Go.RowKit Go.Hs
attribute [local irreducible] World.setCell World.alloc
theorem info_roc : (Tryz.prog.info? 132).map (fun i => (i.zero, i.size, i.bytes)) = some (some (.agg #[.int .i64 0, .bool false, .int .i64 0]), 3, 24) := by kernel_rfl
theorem info_rint : (Tryz.prog.info? 3).map (fun i => (i.zero, i.size, i.bytes)) = some (some (.int .i64 0), 1, 8) := by kernel_rfl
theorem oneInt_in {W wa : World} {b : Nat} {x : Value} (h : Ext (W.alloc (.cells #[x] 3)) wa) (hb : b = W.heap.size) : ∀ j y, ([x] : List Value)[j]? = some y → wa.cell? ((⟨b, 0, none⟩ : Addr).add j) = some y := one_in h hb

set_option maxRecDepth 100000 in
set_option maxHeartbeats 8000000 in
theorem RPlay_new (c : Cas) (v : Value) (t : List Thr) (vt : Value) (w : World) (hv : CasV w v c) (hc : CasOK c) (h0 : checkS c.tars = 0) (ht : ThrsV w vt t) (htr : TruthOf c.flds t) :
    Calls Tryz.prog 34 #[v, vt] w fun e w' => ∃ a q, e = .returned (.agg #[.slice a c.flds.length q, .int .i64 (sumT c c.flds t).award, .int .i64 (feeA c.fee (sumT c c.flds t)), .int .i64 (feeB c.fee (sumT c c.flds t))]) ∧ IntsV w' (.slice a c.flds.length q) (countsT c.flds t) ∧ (∀ g o, a = some ⟨g, o, none⟩ → w.heap.size ≤ g) ∧ Ext w w' := by
  have HV := Lib.hid hv
  obtain ⟨htl, htx⟩ := truthOf_iff.1 htr
  have hlk := sum_like hc h0 htr
  obtain ⟨a1, c1, a2, c2, rfl, -, -, hcl, hl1, hl2⟩ := hv.open
  obtain ⟨at', qt, rfl, -, -, hct⟩ := ht
  rw [htl]
  obtain ⟨i3, hi3, hz30, hz31, hz32⟩ := info_parts info_roc
  obtain ⟨i1, hi1, hz10, hz11, hz12⟩ := info_parts info_rint
  have HCL := Lib.hid hcl
  have HCT := Lib.hid hct
  have hn3 := hc.few
  have HOF : Hid (∀ k (h1 : k < c.flds.length) (h2 : k < t.length), ∀ W, Ext w W → Calls Tryz.prog 70 #[.agg #[.slice a1 c.tars.length c1, .int .i64 c.day, .int .i64 c.fee, .slice a2 c.flds.length c2], (c.flds[k]).c.val, (t[k]).c.val] W fun e w' => e = .returned (ocS c c.flds[k] t[k]).v ∧ Ext W w') := Lib.hid (fun k h1 h2 W hx => ROf_any c _ _ _ W (hv.ext hx) hc h0 (hc.flds _ (List.getElem_mem h1)) (htx k h1 h2))
  have HST : Hid (∀ k (h1 : k < c.flds.length) (h2 : k < t.length), ∀ W, Calls Tryz.prog 58 #[(c.flds[k]).c.val, (t[k]).c.val] W fun e w' => e = .returned (.int .i64 (settledS c.flds[k] t[k])) ∧ Ext W w') := Lib.hid (fun k h1 h2 W => by
    have hf := hc.flds _ (List.getElem_mem h1)
    have hx := htx k h1 h2
    exact Settled_any _ _ (by have := hx.a; have := hf.a; omega) (by have := hx.b; have := hf.b; omega) W)
  have HEN : Hid (∀ vl W, Ext w W → OcsV W vl (ocsT c c.flds t) → Calls Tryz.prog 71 #[.agg #[.slice a1 c.tars.length c1, .int .i64 c.day, .int .i64 c.fee, .slice a2 c.flds.length c2], vl] W fun e w' => e = .returned (.agg #[.slice none 0 0, .int .i64 (sumT c c.flds t).award, .int .i64 (feeA c.fee (sumT c c.flds t)), .int .i64 (feeB c.fee (sumT c c.flds t))]) ∧ Ext W w') := Lib.hid (fun vl W hx h => by
    have := REnd_any c _ _ vl W (hv.ext hx) h (by rw [ocsT_len htl]; exact hn3) (ocsT_ok hc h0 htr) hc.fee
    rw [← hlk.award, ← hlk.far, ← hlk.soc] at this
    exact this)
  have HON : Hid (∀ k (h1 : k < c.flds.length) (h2 : k < t.length), ocsT c (c.flds.take k) (t.take k) ++ [ocS c c.flds[k] t[k]] = ocsT c (c.flds.take (k + 1)) (t.take (k + 1))) := Lib.hid (fun k h1 h2 => ocsT_next h1 h2)
  have HCN : Hid (∀ k (h1 : k < c.flds.length) (h2 : k < t.length), countsT (c.flds.take k) (t.take k) ++ [settledS c.flds[k] t[k]] = countsT (c.flds.take (k + 1)) (t.take (k + 1))) := Lib.hid (fun k h1 h2 => countsT_next h1 h2)
  have HFI : Hid (∀ W B e1 e2 v1 v2, Rows2 B e1 e2 c t c.flds.length v1 v2 W → OcsV W v1 (ocsT c c.flds t) ∧ W.ownsRow B e2 1 v2 c.flds.length ((countsT c.flds t).map (Value.int .i64))) := Lib.hid (fun W B e1 e2 v1 v2 h => by
    have h1 := h.o1
    have h2 := h.o2
    rw [List.take_length, ← htl, List.take_length, htl] at h1 h2
    refine ⟨Own.slice3 (U := Oc.c) (B := B) (e := e1) (by unfold Go.Hs.Own; rw [ocsT_len htl]; exact h1) (by rw [ocsT_len htl]; omega), h2⟩)
  have HCB : Hid (∀ x ∈ countsT c.flds t, i64ok x) := Lib.hid (fun x hx => by
    obtain ⟨i, hi, rfl⟩ := List.getElem_of_mem hx
    have h1 : i < c.flds.length := by rw [countsT_len htl] at hi; exact hi
    have h2 : i < t.length := by omega
    have e : (countsT c.flds t)[i] = settledS c.flds[i] t[i] := by simp [countsT]
    rw [e]
    have hf := hc.flds _ (List.getElem_mem h1)
    have hxx := htx i h1 h2
    have := settled_bd (f := c.flds[i]) (x := t[i]) (by have := hxx.a; have := hf.a; omega) (by have := hxx.b; have := hf.b; omega)
    unfold i64ok
    omega)
  have HLC : Hid ((countsT c.flds t).length = c.flds.length) := Lib.hid (countsT_len htl)
  have HTL := Lib.hid htl
  clear hv hcl hct htx htr hlk hc h0 hl1 hl2 HV htl
  go_enter Tryz.func34, Tryz.ntmps34
  go_wp2_with fail
  have X : Ext w ((w.alloc (.cells #[.slice a1 c.tars.length c1, .int .i64 c.day, .int .i64 c.fee, .slice a2 c.flds.length c2] 25)).alloc (.cells #[.slice none 0 0, .int .i64 0, .int .i64 0, .int .i64 0] 64)) := by (repeat (first | exact Ext.refl _ | (with_reducible assumption) | (with_reducible refine Ext.drew ?_) | (with_reducible refine Ext.alloc ?_ _) | (with_reducible refine Ext.drewN ?_ _) | (with_reducible refine Ext.setCell ?_ (by omega) _) | (with_reducible refine Ext.trans ?_ (by with_reducible assumption))))
  have HS : Hid (∀ w', Ext ((w.alloc (.cells #[.slice a1 c.tars.length c1, .int .i64 c.day, .int .i64 c.fee, .slice a2 c.flds.length c2] 25)).alloc (.cells #[.slice none 0 0, .int .i64 0, .int .i64 0, .int .i64 0] 64)) w' → (w'.cell? ⟨w.heap.size, 0, none⟩ = some (.slice a1 c.tars.length c1) ∧ w'.cell? ⟨w.heap.size, 1, none⟩ = some (.int .i64 c.day) ∧ w'.cell? ⟨w.heap.size, 2, none⟩ = some (.int .i64 c.fee) ∧ w'.cell? ⟨w.heap.size, 3, none⟩ = some (.slice a2 c.flds.length c2) ∧ w'.cell? ⟨w.heap.size + 1, 0, none⟩ = some (.slice none 0 0) ∧ w'.cell? ⟨w.heap.size + 1, 1, none⟩ = some (.int .i64 0) ∧ w'.cell? ⟨w.heap.size + 1, 2, none⟩ = some (.int .i64 0) ∧ w'.cell? ⟨w.heap.size + 1, 3, none⟩ = some (.int .i64 0)) ∧ Ext ((w.alloc (.cells #[.slice a1 c.tars.length c1, .int .i64 c.day, .int .i64 c.fee, .slice a2 c.flds.length c2] 25)).alloc (.cells #[.slice none 0 0, .int .i64 0, .int .i64 0, .int .i64 0] 64)) w') := Lib.hid (fun w' hx => ⟨⟨hx.keep (by simp [go_sem]), hx.keep (by simp [go_sem]), hx.keep (by simp [go_sem]), hx.keep (by simp [go_sem]), hx.keep (by simp [go_sem]), hx.keep (by simp [go_sem]), hx.keep (by simp [go_sem]), hx.keep (by simp [go_sem])⟩, hx⟩)
  have HSf : Hid (∀ w', Ext ((w.alloc (.cells #[.slice a1 c.tars.length c1, .int .i64 c.day, .int .i64 c.fee, .slice a2 c.flds.length c2] 25)).alloc (.cells #[.slice none 0 0, .int .i64 0, .int .i64 0, .int .i64 0] 64)) w' → ∀ o, w'.frozen? ⟨w.heap.size + 1, o, none⟩ = false) := Lib.hid (fun w' hx o => (hx.frozen (by simp)).trans (by simp [go_sem]))
  have HSz : w.heap.size + 1 + 1 ≤ ((w.alloc (.cells #[.slice a1 c.tars.length c1, .int .i64 c.day, .int .i64 c.fee, .slice a2 c.flds.length c2] 25)).alloc (.cells #[.slice none 0 0, .int .i64 0, .int .i64 0, .int .i64 0] 64)).heap.size := by simp
  generalize ((w.alloc (.cells #[.slice a1 c.tars.length c1, .int .i64 c.day, .int .i64 c.fee, .slice a2 c.flds.length c2] 25)).alloc (.cells #[.slice none 0 0, .int .i64 0, .int .i64 0, .int .i64 0] 64)) = W at *
  go_loopw [5, 6, 7] (fun s5 s6 s7 wr => ∃ (k : Nat) (al : Option Addr) (ql : Nat) (ac : Option Addr) (qc : Nat), k ≤ c.flds.length ∧ s7 = .int .i64 k ∧ s5 = .slice al k ql ∧ s6 = .slice ac k qc ∧ Hid (Rows2 W.heap.size 132 3 c t k (.slice al k ql) (.slice ac k qc) wr) ∧ Ext W wr) (fun _ _ s _ => c.flds.length - (intOf s).toNat)
  case atStart => exact ⟨0, none, 0, none, 0, Nat.zero_le _, rfl, rfl, rfl, Lib.hid (Rows2.nil _ _ _ _ _ _), Ext.refl _⟩
  case round =>
    obtain ⟨k, al, ql, ac, qc, hk, rfl, rfl, rfl, HR, hx⟩ := hrel
    obtain ⟨wo, rfl⟩ : ∃ x, x = wr := ⟨_, rfl⟩
    by_cases hlt : k < c.flds.length
    · have hlt2 : k < t.length := by have := HTL.out; omega
      obtain ⟨b, off, rfl, hce⟩ := HCL.out k (by simpa using hlt)
      obtain ⟨bt, ot, rfl, hcc⟩ := HCT.out k (by simpa using hlt2)
      have hbl : b < w.heap.size := lt_of_cell hce.1
      have htl2 : bt < w.heap.size := lt_of_cell hcc.1
      have hce := hce.ext (X.trans hx) _ _ _
      have hcc := hcc.ext (X.trans hx) _ _ _
      have e1 : (c.flds.map Fld.c)[k]'(by simpa using hlt) = (c.flds[k]).c := by simp
      have e2 : (t.map Thr.c)[k]'(by simpa using hlt2) = (t[k]).c := by simp
      rw [e1] at hce
      rw [e2] at hcc
      have HOF1 := Lib.hid (HOF.out k hlt hlt2)
      have HST1 := Lib.hid (HST.out k hlt hlt2)
      have HON1 := Lib.hid (HON.out k hlt hlt2)
      have HCN1 := Lib.hid (HCN.out k hlt hlt2)
      obtain ⟨⟨q0, q1, q2, q3, -, -, -, -⟩, -⟩ := HS.out wo hx
      have hWz := X.size
      clear e1 e2 HOF HST HON HCN HCL HCT HEN HFI HCB HLC HTL
      generalize hoc : ocS c c.flds[k] t[k] = o at *
      clear hoc
      generalize settledS c.flds[k] t[k] = sn at *
      generalize c.flds[k] = f at *
      generalize t[k] = x at *
      obtain ⟨cr, va, ne, al', ah, bl, bh, ul, uh⟩ := f
      obtain ⟨A, B, U⟩ := x
      obtain ⟨p, oc, ol⟩ := o
      simp only [Fld.c, Thr.c, Oc.v] at *
      obtain ⟨m0, m1, m2, m3, m4, m5, m6, m7, m8⟩ := hce
      obtain ⟨d0, d1, d2⟩ := hcc
      have hk0 : (0 : Int) ≤ (k : Int) := by omega
      have hki : (k : Int) < (c.flds.length : Int) := by omega
      have HX := Lib.hid hx
      have HXX := Lib.hid X
      have hrow1 : ∀ g, (Value.slice al k ql).ownBlock = some g → W.heap.size ≤ g ∧ g < wo.heap.size := fun g hg => own_lt HR.out.o1 hg
      have hrow2 : ∀ g, (Value.slice ac k qc).ownBlock = some g → W.heap.size ≤ g ∧ g < wo.heap.size := fun g hg => own_lt HR.out.o2 hg
      have HR1 := Lib.hid hrow1
      have HR2 := Lib.hid hrow2
      have hbw : w.heap.size < W.heap.size := by omega
      have HCE : Hid (∀ (p : Nat → Prop) w', KP p wo w' → (∀ j, p j → W.heap.size ≤ j) → ((w'.cell? ⟨w.heap.size, 0, none⟩ = some (.slice a1 c.tars.length c1) ∧ w'.cell? ⟨w.heap.size, 1, none⟩ = some (.int .i64 c.day) ∧ w'.cell? ⟨w.heap.size, 2, none⟩ = some (.int .i64 c.fee) ∧ w'.cell? ⟨w.heap.size, 3, none⟩ = some (.slice (some ⟨b, off, none⟩) c.flds.length c2)) ∧ (w'.cell? ⟨b, off + k * 9, none⟩ = some (.int .i64 cr) ∧ w'.cell? ⟨b, off + k * 9 + 1, none⟩ = some (.int .i64 va) ∧ w'.cell? ⟨b, off + k * 9 + 2, none⟩ = some (.int .i64 ne) ∧ w'.cell? ⟨b, off + k * 9 + 3, none⟩ = some (.int .i64 al') ∧ w'.cell? ⟨b, off + k * 9 + 4, none⟩ = some (.int .i64 ah) ∧ w'.cell? ⟨b, off + k * 9 + 5, none⟩ = some (.int .i64 bl) ∧ w'.cell? ⟨b, off + k * 9 + 6, none⟩ = some (.int .i64 bh) ∧ w'.cell? ⟨b, off + k * 9 + 7, none⟩ = some (.int .i64 ul) ∧ w'.cell? ⟨b, off + k * 9 + 8, none⟩ = some (.int .i64 uh)) ∧ (w'.cell? ⟨bt, ot + k * 3, none⟩ = some (.int .i64 A) ∧ w'.cell? ⟨bt, ot + k * 3 + 1, none⟩ = some (.int .i64 B) ∧ w'.cell? ⟨bt, ot + k * 3 + 2, none⟩ = some (.int .i64 U)))) := Lib.hid (fun p w' h hp => by
        have g1 : ¬ p w.heap.size := fun e => by have := hp _ e; omega
        have g2 : ¬ p b := fun e => by have := hp _ e; omega
        have g3 : ¬ p bt := fun e => by have := hp _ e; omega
        exact ⟨⟨h.keep g1 q0, h.keep g1 q1, h.keep g1 q2, h.keep g1 q3⟩, ⟨h.keep g2 m0, h.keep g2 m1, h.keep g2 m2, h.keep g2 m3, h.keep g2 m4, h.keep g2 m5, h.keep g2 m6, h.keep g2 m7, h.keep g2 m8⟩, h.keep g3 d0, h.keep g3 d1, h.keep g3 d2⟩)
      have HP1 : Hid (∀ j, (Value.slice al k ql).ownBlock = some j → W.heap.size ≤ j) := Lib.hid (fun j hj => (hrow1 j hj).1)
      have HP2 : Hid (∀ j, (Value.slice ac k qc).ownBlock = some j → W.heap.size ≤ j) := Lib.hid (fun j hj => (hrow2 j hj).1)
      have HO1 : Hid (∀ u ∈ ([.int .i64 p, .bool oc, .int .i64 ol] : List Value), u.oneCell' = true) := Lib.hid (by
        intro u hu
        simp only [List.mem_cons, List.not_mem_nil, or_false] at hu
        rcases hu with rfl | rfl | rfl <;> rfl)
      have HO2 : Hid (∀ u ∈ ([.int .i64 sn] : List Value), u.oneCell' = true) := Lib.hid (by
        intro u hu
        simp only [List.mem_cons, List.not_mem_nil, or_false] at hu
        subst hu
        rfl)
      have HF1 : Hid (k + 1 ≤ maxLen) := Lib.hid (by simp only [maxLen]; omega)
      have HF2 : Hid ((k + 1) * 24 ≤ 140737488355328) := Lib.hid (by omega)
      have HF2' : Hid ((k + 1) * 8 ≤ 140737488355328) := Lib.hid (by omega)
      have HF3 : Hid (W.heap.size ≤ wo.heap.size) := Lib.hid hx.size
      clear hx X q0 q1 q2 q3 m0 m1 m2 m3 m4 m5 m6 m7 m8 d0 d1 d2 hrow1 hrow2
      have HSS : Hid (∀ w', KP (fun j => (Value.slice al k ql).ownBlock = some j) wo w' → ((w'.cell? ⟨w.heap.size, 0, none⟩ = some (.slice a1 c.tars.length c1) ∧ w'.cell? ⟨w.heap.size, 1, none⟩ = some (.int .i64 c.day) ∧ w'.cell? ⟨w.heap.size, 2, none⟩ = some (.int .i64 c.fee) ∧ w'.cell? ⟨w.heap.size, 3, none⟩ = some (.slice (some ⟨b, off, none⟩) c.flds.length c2)) ∧ (w'.cell? ⟨b, off + k * 9, none⟩ = some (.int .i64 cr) ∧ w'.cell? ⟨b, off + k * 9 + 1, none⟩ = some (.int .i64 va) ∧ w'.cell? ⟨b, off + k * 9 + 2, none⟩ = some (.int .i64 ne) ∧ w'.cell? ⟨b, off + k * 9 + 3, none⟩ = some (.int .i64 al') ∧ w'.cell? ⟨b, off + k * 9 + 4, none⟩ = some (.int .i64 ah) ∧ w'.cell? ⟨b, off + k * 9 + 5, none⟩ = some (.int .i64 bl) ∧ w'.cell? ⟨b, off + k * 9 + 6, none⟩ = some (.int .i64 bh) ∧ w'.cell? ⟨b, off + k * 9 + 7, none⟩ = some (.int .i64 ul) ∧ w'.cell? ⟨b, off + k * 9 + 8, none⟩ = some (.int .i64 uh)) ∧ (w'.cell? ⟨bt, ot + k * 3, none⟩ = some (.int .i64 A) ∧ w'.cell? ⟨bt, ot + k * 3 + 1, none⟩ = some (.int .i64 B) ∧ w'.cell? ⟨bt, ot + k * 3 + 2, none⟩ = some (.int .i64 U))) ∧ KP (fun j => (Value.slice al k ql).ownBlock = some j) wo w') := Lib.hid (fun w' h => ⟨HCE.out _ w' h HP1.out, h⟩)
      have HW1 : Hid (wo.ownsRow W.heap.size 132 3 (.slice al k ql) k ((ocsT c (c.flds.take k) (t.take k)).flatMap (fun o => o.c.cs))) := Lib.hid HR.out.o1
      clear HS HSf HSz
      go_upto_region 6 with fail
      go_region_held3 (fun w' => ((w'.cell? ⟨w.heap.size, 0, none⟩ = some (.slice a1 c.tars.length c1) ∧ w'.cell? ⟨w.heap.size, 1, none⟩ = some (.int .i64 c.day) ∧ w'.cell? ⟨w.heap.size, 2, none⟩ = some (.int .i64 c.fee) ∧ w'.cell? ⟨w.heap.size, 3, none⟩ = some (.slice (some ⟨b, off, none⟩) c.flds.length c2)) ∧ (w'.cell? ⟨b, off + k * 9, none⟩ = some (.int .i64 cr) ∧ w'.cell? ⟨b, off + k * 9 + 1, none⟩ = some (.int .i64 va) ∧ w'.cell? ⟨b, off + k * 9 + 2, none⟩ = some (.int .i64 ne) ∧ w'.cell? ⟨b, off + k * 9 + 3, none⟩ = some (.int .i64 al') ∧ w'.cell? ⟨b, off + k * 9 + 4, none⟩ = some (.int .i64 ah) ∧ w'.cell? ⟨b, off + k * 9 + 5, none⟩ = some (.int .i64 bl) ∧ w'.cell? ⟨b, off + k * 9 + 6, none⟩ = some (.int .i64 bh) ∧ w'.cell? ⟨b, off + k * 9 + 7, none⟩ = some (.int .i64 ul) ∧ w'.cell? ⟨b, off + k * 9 + 8, none⟩ = some (.int .i64 uh)) ∧ (w'.cell? ⟨bt, ot + k * 3, none⟩ = some (.int .i64 A) ∧ w'.cell? ⟨bt, ot + k * 3 + 1, none⟩ = some (.int .i64 B) ∧ w'.cell? ⟨bt, ot + k * 3 + 2, none⟩ = some (.int .i64 U))) ∧ KP (fun j => (Value.slice al k ql).ownBlock = some j) wo w')
        ((refine HSS.out _ ?_; (repeat (first | exact KP.refl _ | (with_reducible assumption) | (with_reducible refine KP.drew ?_) | (with_reducible refine KP.alloc ?_ _) | (with_reducible refine KP.setCell ?_ (by assumption) _) | (with_reducible refine KP.ext ?_ (by with_reducible assumption)) | (with_reducible refine KP.trans ?_ (by with_reducible assumption)) | (with_reducible refine Ext.kp (by with_reducible assumption))))))
        (first
          | (go_at_call 70; (refine (HOF1.out _ (HXX.out.trans (HX.out.trans (by (repeat (first | exact Ext.refl _ | (with_reducible assumption) | (with_reducible refine Ext.drew ?_) | (with_reducible refine Ext.alloc ?_ _) | (with_reducible refine Ext.drewN ?_ _) | (with_reducible refine Ext.setCell ?_ (by omega) _) | (with_reducible refine Ext.trans ?_ (by with_reducible assumption)))))))).mono ?_); rintro e w3 ⟨rfl, hx3⟩)
          | ((refine step_is_app _ _ 130 rfl ?_); (refine step_append_lies _ (by rfl) _ _ 130 (by rfl) W.heap.size 132 i3 (.agg #[.int .i64 0, .bool false, .int .i64 0]) 3 24 Tryz.underlying130 hi3 hz30 hz31 hz32 rfl (by decide) (.slice al k ql) k ((ocsT c (c.flds.take k) (t.take k)).flatMap (fun o => o.c.cs)) rfl (own_ext HW1.out (by (repeat (first | exact Ext.refl _ | (with_reducible assumption) | (with_reducible refine Ext.drew ?_) | (with_reducible refine Ext.alloc ?_ _) | (with_reducible refine Ext.drewN ?_ _) | (with_reducible refine Ext.setCell ?_ (by omega) _) | (with_reducible refine Ext.trans ?_ (by with_reducible assumption)))))) ⟨_, 0, none⟩ 1 1 [.int .i64 p, .bool oc, .int .i64 ol] (by rfl) rfl (three_in (u := Oc.c ⟨p, oc, ol⟩) (by (repeat (first | exact Ext.refl _ | (with_reducible assumption) | (with_reducible refine Ext.drew ?_) | (with_reducible refine Ext.alloc ?_ _) | (with_reducible refine Ext.drewN ?_ _) | (with_reducible refine Ext.setCell ?_ (by omega) _) | (with_reducible refine Ext.trans ?_ (by with_reducible assumption))))) (by first | rfl | simp)) HO1.out (by decide) HF1.out HF2.out (le_ext HF3.out (by (repeat (first | exact Ext.refl _ | (with_reducible assumption) | (with_reducible refine Ext.drew ?_) | (with_reducible refine Ext.alloc ?_ _) | (with_reducible refine Ext.drewN ?_ _) | (with_reducible refine Ext.setCell ?_ (by omega) _) | (with_reducible refine Ext.trans ?_ (by with_reducible assumption)))))) _ rfl ?_); intro g cap w4 hown4 hgrow hat hlt4; have hk0' : KP (fun j => (Value.slice al k ql).ownBlock = some j) wo _ := Ext.kp (by (repeat (first | exact Ext.refl _ | (with_reducible assumption) | (with_reducible refine Ext.drew ?_) | (with_reducible refine Ext.alloc ?_ _) | (with_reducible refine Ext.drewN ?_ _) | (with_reducible refine Ext.setCell ?_ (by omega) _) | (with_reducible refine Ext.trans ?_ (by with_reducible assumption))))); have hk4 : KP (fun j => (Value.slice al k ql).ownBlock = some j) wo w4 := KP.trans (Ext.kp (by (repeat (first | exact Ext.refl _ | (with_reducible assumption) | (with_reducible refine Ext.drew ?_) | (with_reducible refine Ext.alloc ?_ _) | (with_reducible refine Ext.drewN ?_ _) | (with_reducible refine Ext.setCell ?_ (by omega) _) | (with_reducible refine Ext.trans ?_ (by with_reducible assumption)))))) (KP.grown hgrow (fun _ hg => hg)); have hge : (Value.slice al k ql).ownBlock = some g ∨ wo.heap.size ≤ g := hat.imp id (fun e => by rw [e]; exact Ext.size (by (repeat (first | exact Ext.refl _ | (with_reducible assumption) | (with_reducible refine Ext.drew ?_) | (with_reducible refine Ext.alloc ?_ _) | (with_reducible refine Ext.drewN ?_ _) | (with_reducible refine Ext.setCell ?_ (by omega) _) | (with_reducible refine Ext.trans ?_ (by with_reducible assumption))))))))
      all_goals
        have HK4 := Lib.hid hk4
        have HW2 : Hid (w4.ownsRow W.heap.size 3 1 (.slice ac k qc) k ((countsT (c.flds.take k) (t.take k)).map (Value.int .i64))) := Lib.hid (own_keep HR.out.o2 (fun g' hg' => hk4.block g' (HR2.out g' hg').2 (fun e => HR.out.ne g' e hg')))
        have HW1' : Hid (w4.ownsRow W.heap.size 132 3 (.slice (some ⟨g, 0, none⟩) (k + 1) cap) (k + 1) ((ocsT c (c.flds.take (k + 1)) (t.take (k + 1))).flatMap (fun o => o.c.cs))) := Lib.hid (by
          rw [← HON1.out, List.flatMap_append]
          simpa [Oc.c] using hown4)
        have HNE : Hid (¬ (Value.slice ac k qc).ownBlock = some g) := Lib.hid (fun e => by
          rcases hge with h | h
          · exact HR.out.ne g h e
          · have := (HR2.out g e).2; omega)
        have HSS2 : Hid (∀ w', KP (fun j => (Value.slice ac k qc).ownBlock = some j) w4 w' → ((w'.cell? ⟨w.heap.size, 0, none⟩ = some (.slice a1 c.tars.length c1) ∧ w'.cell? ⟨w.heap.size, 1, none⟩ = some (.int .i64 c.day) ∧ w'.cell? ⟨w.heap.size, 2, none⟩ = some (.int .i64 c.fee) ∧ w'.cell? ⟨w.heap.size, 3, none⟩ = some (.slice (some ⟨b, off, none⟩) c.flds.length c2)) ∧ (w'.cell? ⟨b, off + k * 9, none⟩ = some (.int .i64 cr) ∧ w'.cell? ⟨b, off + k * 9 + 1, none⟩ = some (.int .i64 va) ∧ w'.cell? ⟨b, off + k * 9 + 2, none⟩ = some (.int .i64 ne) ∧ w'.cell? ⟨b, off + k * 9 + 3, none⟩ = some (.int .i64 al') ∧ w'.cell? ⟨b, off + k * 9 + 4, none⟩ = some (.int .i64 ah) ∧ w'.cell? ⟨b, off + k * 9 + 5, none⟩ = some (.int .i64 bl) ∧ w'.cell? ⟨b, off + k * 9 + 6, none⟩ = some (.int .i64 bh) ∧ w'.cell? ⟨b, off + k * 9 + 7, none⟩ = some (.int .i64 ul) ∧ w'.cell? ⟨b, off + k * 9 + 8, none⟩ = some (.int .i64 uh)) ∧ (w'.cell? ⟨bt, ot + k * 3, none⟩ = some (.int .i64 A) ∧ w'.cell? ⟨bt, ot + k * 3 + 1, none⟩ = some (.int .i64 B) ∧ w'.cell? ⟨bt, ot + k * 3 + 2, none⟩ = some (.int .i64 U))) ∧ KP (fun j => (Value.slice ac k qc).ownBlock = some j) w4 w') := Lib.hid (fun w' h => ⟨HCE.out (fun j => (Value.slice al k ql).ownBlock = some j ∨ (Value.slice ac k qc).ownBlock = some j) w' ((HK4.out.mono' (fun j hj => .inl hj)).trans (h.mono' (fun j hj => .inr hj))) (fun j hj => hj.elim (HP1.out j) (HP2.out j)), h⟩)
        have HF4 : Hid (W.heap.size ≤ w4.heap.size) := Lib.hid (Nat.le_trans HF3.out hk4.size)
        have HGL : Hid (g < w4.heap.size) := Lib.hid hlt4
        have HR2' : Hid (∀ j, (Value.slice ac k qc).ownBlock = some j → j < w4.heap.size) := Lib.hid (fun j hj => Nat.lt_of_lt_of_le (HR2.out j hj).2 hk4.size)
        clear hk4 hk0' hown4 hgrow hat hlt4 hge hx3 HSS HW1 HR HOF1 HCE
        go_upto_region 7 with fail
        go_region_held3 (fun w' => ((w'.cell? ⟨w.heap.size, 0, none⟩ = some (.slice a1 c.tars.length c1) ∧ w'.cell? ⟨w.heap.size, 1, none⟩ = some (.int .i64 c.day) ∧ w'.cell? ⟨w.heap.size, 2, none⟩ = some (.int .i64 c.fee) ∧ w'.cell? ⟨w.heap.size, 3, none⟩ = some (.slice (some ⟨b, off, none⟩) c.flds.length c2)) ∧ (w'.cell? ⟨b, off + k * 9, none⟩ = some (.int .i64 cr) ∧ w'.cell? ⟨b, off + k * 9 + 1, none⟩ = some (.int .i64 va) ∧ w'.cell? ⟨b, off + k * 9 + 2, none⟩ = some (.int .i64 ne) ∧ w'.cell? ⟨b, off + k * 9 + 3, none⟩ = some (.int .i64 al') ∧ w'.cell? ⟨b, off + k * 9 + 4, none⟩ = some (.int .i64 ah) ∧ w'.cell? ⟨b, off + k * 9 + 5, none⟩ = some (.int .i64 bl) ∧ w'.cell? ⟨b, off + k * 9 + 6, none⟩ = some (.int .i64 bh) ∧ w'.cell? ⟨b, off + k * 9 + 7, none⟩ = some (.int .i64 ul) ∧ w'.cell? ⟨b, off + k * 9 + 8, none⟩ = some (.int .i64 uh)) ∧ (w'.cell? ⟨bt, ot + k * 3, none⟩ = some (.int .i64 A) ∧ w'.cell? ⟨bt, ot + k * 3 + 1, none⟩ = some (.int .i64 B) ∧ w'.cell? ⟨bt, ot + k * 3 + 2, none⟩ = some (.int .i64 U))) ∧ KP (fun j => (Value.slice ac k qc).ownBlock = some j) w4 w')
          ((refine HSS2.out _ ?_; (repeat (first | exact KP.refl _ | (with_reducible assumption) | (with_reducible refine KP.drew ?_) | (with_reducible refine KP.alloc ?_ _) | (with_reducible refine KP.setCell ?_ (by assumption) _) | (with_reducible refine KP.ext ?_ (by with_reducible assumption)) | (with_reducible refine KP.trans ?_ (by with_reducible assumption)) | (with_reducible refine Ext.kp (by with_reducible assumption))))))
          (first
            | (go_at_call 58; (refine (HST1.out _).mono ?_); rintro e w5 ⟨rfl, hx5⟩)
            | ((refine step_is_app _ _ 28 rfl ?_); (refine step_append_lies _ (by rfl) _ _ 28 (by rfl) W.heap.size 3 i1 (.int .i64 0) 1 8 Tryz.underlying28 hi1 hz10 hz11 hz12 rfl (by decide) (.slice ac k qc) k ((countsT (c.flds.take k) (t.take k)).map (Value.int .i64)) rfl (own_ext HW2.out (by (repeat (first | exact Ext.refl _ | (with_reducible assumption) | (with_reducible refine Ext.drew ?_) | (with_reducible refine Ext.alloc ?_ _) | (with_reducible refine Ext.drewN ?_ _) | (with_reducible refine Ext.setCell ?_ (by omega) _) | (with_reducible refine Ext.trans ?_ (by with_reducible assumption)))))) ⟨_, 0, none⟩ 1 1 [.int .i64 sn] (by rfl) rfl (one_in (by (repeat (first | exact Ext.refl _ | (with_reducible assumption) | (with_reducible refine Ext.drew ?_) | (with_reducible refine Ext.alloc ?_ _) | (with_reducible refine Ext.drewN ?_ _) | (with_reducible refine Ext.setCell ?_ (by omega) _) | (with_reducible refine Ext.trans ?_ (by with_reducible assumption))))) (by first | rfl | simp)) HO2.out (by decide) HF1.out HF2'.out (le_ext HF4.out (by (repeat (first | exact Ext.refl _ | (with_reducible assumption) | (with_reducible refine Ext.drew ?_) | (with_reducible refine Ext.alloc ?_ _) | (with_reducible refine Ext.drewN ?_ _) | (with_reducible refine Ext.setCell ?_ (by omega) _) | (with_reducible refine Ext.trans ?_ (by with_reducible assumption)))))) _ rfl ?_); intro g2 cap2 w6 hown6 hgrow hat hlt6; have hk6 : KP (fun j => (Value.slice ac k qc).ownBlock = some j) w4 w6 := KP.trans (Ext.kp (by (repeat (first | exact Ext.refl _ | (with_reducible assumption) | (with_reducible refine Ext.drew ?_) | (with_reducible refine Ext.alloc ?_ _) | (with_reducible refine Ext.drewN ?_ _) | (with_reducible refine Ext.setCell ?_ (by omega) _) | (with_reducible refine Ext.trans ?_ (by with_reducible assumption)))))) (KP.grown hgrow (fun _ hg => hg)); have hge : (Value.slice ac k qc).ownBlock = some g2 ∨ w4.heap.size ≤ g2 := hat.imp id (fun e => by rw [e]; exact Ext.size (by (repeat (first | exact Ext.refl _ | (with_reducible assumption) | (with_reducible refine Ext.drew ?_) | (with_reducible refine Ext.alloc ?_ _) | (with_reducible refine Ext.drewN ?_ _) | (with_reducible refine Ext.setCell ?_ (by omega) _) | (with_reducible refine Ext.trans ?_ (by with_reducible assumption))))))))
        all_goals
          have HRN : Hid (Rows2 W.heap.size 132 3 c t (k + 1) (.slice (some ⟨g, 0, none⟩) (k + 1) cap) (.slice (some ⟨g2, 0, none⟩) (k + 1) cap2) w6) := Lib.hid ⟨own_keep HW1'.out (fun g' hg' => hk6.block g' (by
              have e : g = g' := by simpa [Value.ownBlock] using hg'
              subst e; exact HGL.out) (fun e' => by
              have e : g = g' := by simpa [Value.ownBlock] using hg'
              subst e; exact HNE.out e')), by
              rw [← HCN1.out, List.map_append]
              simpa using hown6, fun g' hg' hg2 => by
              have e : g = g' := by simpa [Value.ownBlock] using hg'
              have e2 : g2 = g' := by simpa [Value.ownBlock] using hg2
              subst e
              subst e2
              rcases hge with h | h
              · exact HNE.out h
              · have := HGL.out; omega⟩
          have HXN : Hid (Ext W w6) := Lib.hid ((((HK4.out.mono' (q := fun j => (Value.slice al k ql).ownBlock = some j ∨ (Value.slice ac k qc).ownBlock = some j) (fun j hj => .inl hj))).trans (hk6.mono' (fun j hj => .inr hj))).toExt HX.out (fun j hj => hj.elim (HP1.out j) (HP2.out j)))
          clear hk6 hown6 hgrow hat hlt6 hge hx5 HSS2 HW2 HW1' HNE HK4
          go_wp2_with fail
          go_roundw
          case rel => exact ⟨k + 1, _, _, _, _, by omega, by go_num, rfl, rfl, HRN, HXN.out⟩
          case measure => simp [intOf]; omega
    · obtain rfl : k = c.flds.length := by omega
      have hlt2 : ¬ (c.flds.length : Int) < (c.flds.length : Int) := by omega
      obtain ⟨hol, hoc⟩ := HFI.out _ _ _ _ _ _ HR.out
      obtain ⟨⟨q0, q1, q2, q3, z0, z1, z2, z3⟩, -⟩ := HS.out wo hx
      have hzf := fun o => HSf.out wo hx o
      have hlz : w.heap.size + 1 < wo.heap.size := lt_of_cell z0
      have HOC := Lib.hid hoc
      have HBE : Hid (∀ g, (Value.slice ac c.flds.length qc).ownBlock = some g → W.heap.size ≤ g) := Lib.hid (fun g hg => (own_lt HOC.out hg).1)
      clear HOF HST HON HCN HCL HCT HFI HTL hoc HR
      have X1 := X.trans hx
      have hWs : w.heap.size + 1 < W.heap.size := HSz
      have hci : IntsV wo (.slice ac c.flds.length qc) (countsT c.flds t) := own_intsV HOC.out rfl HLC.out.symm HCB.out (by rw [HLC.out]; omega)
      have HCI := Lib.hid hci
      have HFR : Hid (∀ g o, ac = some ⟨g, o, none⟩ → W.heap.size ≤ g) := Lib.hid (fun g o hg => by
        subst hg
        exact HBE.out g rfl)
      have hz : Ext wo wo := Ext.refl _
      clear hci HOC HBE HS HSf HLC HCB
      go_wp2_with fail
      (with_reducible refine (HEN.out _ _ X1 hol).mono ?_)
      rintro e w21 ⟨rfl, hx⟩
      have hy : Ext wo w21 := by (repeat (first | exact Ext.refl _ | (with_reducible assumption) | (with_reducible refine Ext.drew ?_) | (with_reducible refine Ext.alloc ?_ _) | (with_reducible refine Ext.drewN ?_ _) | (with_reducible refine Ext.setCell ?_ (by omega) _) | (with_reducible refine Ext.trans ?_ (by with_reducible assumption))))
      replace X1 := X1.trans hy
      replace hz := hz.trans hy
      replace z0 := hy.keep z0
      try clear z0_a
      have z0_a := fun o => ((Ext.refl w21).alloc o).keep z0
      replace z1 := hy.keep z1
      try clear z1_a
      have z1_a := fun o => ((Ext.refl w21).alloc o).keep z1
      replace z2 := hy.keep z2
      try clear z2_a
      have z2_a := fun o => ((Ext.refl w21).alloc o).keep z2
      replace z3 := hy.keep z3
      try clear z3_a
      have z3_a := fun o => ((Ext.refl w21).alloc o).keep z3
      clear hx hy
      have zf21 : ∀ o, w21.frozen? ⟨w.heap.size + 1, o, none⟩ = false := fun o => (hz.frozen hlz).trans (hzf o)
      clear hol q0 q1 q2 q3 HEN
      have hlt3 : w.heap.size + 1 < w21.heap.size := Nat.lt_of_lt_of_le hlz hz.size
      have hne : ¬ w.heap.size + 1 = w21.heap.size := by omega
      have HZZ := Lib.hid hz
      have HXX := Lib.hid X1
      clear hz X1 hx
      go_wp2_with fail
      refine bodyPost_ret (v := .agg #[.slice ac c.flds.length qc, .int .i64 (sumT c c.flds t).award, .int .i64 (feeA c.fee (sumT c c.flds t)), .int .i64 (feeB c.fee (sumT c c.flds t))]) (by simp [results, Tryz.results34, go_sem, z0, z1, z2, z3, hne, hlt3]) rfl ⟨_, _, rfl, ?_, fun g o hg => by have := HFR.out g o hg; omega, ?_⟩
      · exact (fresh_put (HCI.out.ext HZZ.out) HFR.out hWs (kp_four _ _ _ _)).ext ((Ext.refl _).alloc _)
      · have := HXX.out
        (repeat (first | exact Ext.refl _ | (with_reducible assumption) | (with_reducible refine Ext.drew ?_) | (with_reducible refine Ext.alloc ?_ _) | (with_reducible refine Ext.drewN ?_ _) | (with_reducible refine Ext.setCell ?_ (by omega) _) | (with_reducible refine Ext.trans ?_ (by with_reducible assumption))))
theorem RPlay_any (c : Cas) (v : Value) (t : List Thr) (vt : Value) (w : World) (hv : CasV w v c) (hc : CasOK c) (h0 : checkS c.tars = 0) (ht : ThrsV w vt t) (htr : TruthOf c.flds t) :
    Calls Tryz.prog 34 #[v, vt] w fun e w' => ∃ a q, e = .returned (.agg #[.slice a c.flds.length q, .int .i64 (sumT c c.flds t).award, .int .i64 (feeA c.fee (sumT c c.flds t)), .int .i64 (feeB c.fee (sumT c c.flds t))]) ∧ IntsV w' (.slice a c.flds.length q) (countsT c.flds t) ∧ Ext w w' :=
  (RPlay_new c v t vt w hv hc h0 ht htr).mono (fun e w' ⟨a, q, h1, h2, _, h3⟩ => ⟨a, q, h1, h2, h3⟩)
end Go.Proofs.YtbmjnilcinfdiaaGreat
