/- Contracts of the reference of layer 7: all outcomes of a field. -/
import Derived.Test.YtedblocbcjoolaaGreatKRJ
import Derived.Test.YtedblocbcjoolaaGreatKXM
set_option linter.unusedSimpArgs false
set_option linter.unusedVariables false
namespace Go.Hs
open Go.RowKit Go.Proofs.YtedblocbcjoolaaGreat
/-- A list of outcomes that is being built. -/
def OcRow (B e : Nat) (l : List Oc) (v : Value) (w : World) : Prop := w.ownsRow B e 3 v l.length (l.flatMap (fun o => o.c.cs))
theorem OcRow.nil (B e : Nat) (w : World) : OcRow B e [] (.slice none 0 0) w := World.ownsRow_nil _ _ _ _
theorem OcRow.ext {B e : Nat} {l : List Oc} {v : Value} {w w' : World} (h : OcRow B e l v w) (hx : Ext w w') : OcRow B e l v w' := own_keep h (fun _ hg => hx.heap (own_lt h hg).2)
theorem OcRow.at {B e n : Nat} {l : List Oc} {a : Option Addr} {q : Nat} {w : World} (h : OcRow B e l (.slice a n q) w) {i : Nat} (hi : i < l.length) : ∃ b, a = some ⟨b, 0, none⟩ ∧ B ≤ b ∧ Cell3 w b (i * 3) (l[i]).c := by
  rcases own_open h with ⟨-, h0⟩ | ⟨b, cap, he, hb, hg, hn, hc⟩
  · omega
  · simp only [Value.slice.injEq] at he
    obtain ⟨rfl, -, -⟩ := he
    have f := fun j hj => flat_at (C := fun o : Oc => o.c.cs) (k := 3) (fun _ => rfl) l i j hi hj
    exact ⟨b, rfl, hb, hc _ _ (f 0 (by decide)), hc _ _ (f 1 (by decide)), hc _ _ (f 2 (by decide))⟩
theorem OcRow.next {B e cap g n : Nat} {l : List Oc} {o : Oc} {w : World} (h : w.ownsRow B e 3 (.slice (some ⟨g, 0, none⟩) (n + 1) cap) (n + 1) (l.flatMap (fun o => o.c.cs) ++ o.c.cs)) (hn : n = l.length) : OcRow B e (l ++ [o]) (.slice (some ⟨g, 0, none⟩) (n + 1) cap) w := by
  subst hn
  unfold OcRow
  simpa using h
theorem OcRow.base {B D e : Nat} {l : List Oc} {v : Value} {w : World} (h : OcRow B e l v w) (hd : D ≤ B) : OcRow D e l v w := by
  unfold OcRow at h ⊢
  refine ⟨h.1, ?_⟩
  rcases h.2 with h | ⟨g, cap, cur, h1, h2, h3⟩
  · exact .inl h
  · exact .inr ⟨g, cap, cur, h1, Nat.le_trans hd h2, h3⟩
theorem known_next {l : List Oc} {k : Nat} (h : k < l.length) (o : Oc) : knownS (l.take (k + 1)) o = (knownS (l.take k) o || (l[k]).same o) := by
  unfold knownS
  rw [List.take_succ_eq_append_getElem h, List.any_append]; simp
theorem truths_at {f : Fld} {i : Nat} (h : i < truthsN f) : ∃ h' : i < (truthsS f).length, (truthsS f)[i] = truthAt f i := ⟨by simp [truthsS, h], by simp [truthsS]⟩
def outTo (c : Cas) (f : Fld) (i : Nat) : List Oc := outcomesF c f ((truthsS f).take i)
theorem outTo_next (c : Cas) {f : Fld} {i : Nat} (h : i < truthsN f) : outTo c f (i + 1) = if knownS (outTo c f i) (ocS c f (truthAt f i)) then outTo c f i else outTo c f i ++ [ocS c f (truthAt f i)] := by
  obtain ⟨h', e⟩ := truths_at h
  unfold outTo
  rw [← outcomes_next c f h', e]
  rfl
theorem outTo_all (c : Cas) (f : Fld) : outTo c f (truthsN f) = outcomesS c f := by
  unfold outTo outcomesS
  rw [List.take_of_length_le (by simp [truthsS])]
theorem outTo_len (c : Cas) (f : Fld) (i : Nat) : (outTo c f i).length ≤ i := by
  unfold outTo
  have := outcomes_len c f ((truthsS f).take i)
  have h2 : ((truthsS f).take i).length ≤ i := by simp; omega
  omega
end Go.Hs
namespace Go.Proofs.YtedblocbcjoolaaGreat
open Go.RowKit Go.Hs
attribute [local irreducible] World.setCell World.alloc

set_option maxRecDepth 100000 in
set_option maxHeartbeats 8000000 in
theorem ROutcomes_any (c : Cas) (v : Value) (f : Fld) (w : World) (hv : CasV w v c) (hc : CasOK c) (h0 : checkS c.tars = 0) (hf : FldOK c.tars f) :
    Calls Tryz.prog 59 #[v, f.c.val] w fun e w' => ∃ a q, e = .returned (.slice a (outcomesS c f).length q) ∧ OcRow w.heap.size 128 (outcomesS c f) (.slice a (outcomesS c f).length q) w' ∧ Ext w w' := by
  have HV := Lib.hid hv
  obtain ⟨a1, c1, a2, c2, rfl, -, -, -, -, -⟩ := hv.open
  have hN := truthsN_le hf
  obtain ⟨i3, hi3, hz30, hz31, hz32⟩ := info_parts info_roc
  have HEV := Lib.hid (REvery_any c.tars f hf)
  have HO : Hid (∀ i, i < truthsN f → ∀ W, Ext w W → Calls Tryz.prog 62 #[casV a1 c.tars.length c1 c.day c.fee a2 c.flds.length c2, f.c.val, (truthAt f i).c.val] W fun e w' => e = .returned (ocS c f (truthAt f i)).v ∧ Ext W w') := Lib.hid (fun i hi W hx => ROf_any c _ f _ W (HV.out.ext hx) hc h0 hf (truthAt_ok hi))
  have HON := Lib.hid (fun i (hi : i < truthsN f) => outTo_next c hi)
  have HOL := Lib.hid (outTo_len c f)
  have HOA := Lib.hid (outTo_all c f)
  clear hv HV hc h0 hf
  unfold casV at *
  obtain ⟨fv, hfv⟩ : ∃ fv, fv = f := ⟨_, rfl⟩
  have HFC : Hid (f.c.val = .agg #[.int .i64 fv.crop, .int .i64 fv.value, .int .i64 fv.near, .int .i64 fv.alo, .int .i64 fv.ahi, .int .i64 fv.blo, .int .i64 fv.bhi, .int .i64 fv.ulo, .int .i64 fv.uhi]) := Lib.hid (by rw [hfv]; rfl)
  clear hfv
  rw [HFC.out] at HEV HO ⊢
  obtain ⟨cr, va, ne, al, ah, bl, bh, ul, uh⟩ := fv
  simp only at *
  clear HFC
  generalize truthsN f = N at *
  go_enter Tryz.func59, Tryz.ntmps59
  go_wp2_with fail
  have X : Ext w ((w.alloc (.cells #[.slice a1 c.tars.length c1, .int .i64 c.day, .int .i64 c.fee, .slice a2 c.flds.length c2] 25)).alloc (.cells #[.int .i64 cr, .int .i64 va, .int .i64 ne, .int .i64 al, .int .i64 ah, .int .i64 bl, .int .i64 bh, .int .i64 ul, .int .i64 uh] 76)) := by (repeat (first | exact Ext.refl _ | (with_reducible assumption) | (with_reducible refine Ext.drew ?_) | (with_reducible refine Ext.alloc ?_ _) | (with_reducible refine Ext.drewN ?_ _) | (with_reducible refine Ext.setCell ?_ (by omega) _) | (with_reducible refine Ext.trans ?_ (by with_reducible assumption))))
  have HS : Hid (∀ w', Ext ((w.alloc (.cells #[.slice a1 c.tars.length c1, .int .i64 c.day, .int .i64 c.fee, .slice a2 c.flds.length c2] 25)).alloc (.cells #[.int .i64 cr, .int .i64 va, .int .i64 ne, .int .i64 al, .int .i64 ah, .int .i64 bl, .int .i64 bh, .int .i64 ul, .int .i64 uh] 76)) w' → (w'.cell? ⟨w.heap.size, 0, none⟩ = some (.slice a1 c.tars.length c1) ∧ w'.cell? ⟨w.heap.size, 1, none⟩ = some (.int .i64 c.day) ∧ w'.cell? ⟨w.heap.size, 2, none⟩ = some (.int .i64 c.fee) ∧ w'.cell? ⟨w.heap.size, 3, none⟩ = some (.slice a2 c.flds.length c2) ∧ w'.cell? ⟨w.heap.size + 1, 0, none⟩ = some (.int .i64 cr) ∧ w'.cell? ⟨w.heap.size + 1, 1, none⟩ = some (.int .i64 va) ∧ w'.cell? ⟨w.heap.size + 1, 2, none⟩ = some (.int .i64 ne) ∧ w'.cell? ⟨w.heap.size + 1, 3, none⟩ = some (.int .i64 al) ∧ w'.cell? ⟨w.heap.size + 1, 4, none⟩ = some (.int .i64 ah) ∧ w'.cell? ⟨w.heap.size + 1, 5, none⟩ = some (.int .i64 bl) ∧ w'.cell? ⟨w.heap.size + 1, 6, none⟩ = some (.int .i64 bh) ∧ w'.cell? ⟨w.heap.size + 1, 7, none⟩ = some (.int .i64 ul) ∧ w'.cell? ⟨w.heap.size + 1, 8, none⟩ = some (.int .i64 uh)) ∧ Ext ((w.alloc (.cells #[.slice a1 c.tars.length c1, .int .i64 c.day, .int .i64 c.fee, .slice a2 c.flds.length c2] 25)).alloc (.cells #[.int .i64 cr, .int .i64 va, .int .i64 ne, .int .i64 al, .int .i64 ah, .int .i64 bl, .int .i64 bh, .int .i64 ul, .int .i64 uh] 76)) w') := Lib.hid (fun w' hx => ⟨⟨hx.keep (by simp [go_sem]), hx.keep (by simp [go_sem]), hx.keep (by simp [go_sem]), hx.keep (by simp [go_sem]), hx.keep (by simp [go_sem]), hx.keep (by simp [go_sem]), hx.keep (by simp [go_sem]), hx.keep (by simp [go_sem]), hx.keep (by simp [go_sem]), hx.keep (by simp [go_sem]), hx.keep (by simp [go_sem]), hx.keep (by simp [go_sem]), hx.keep (by simp [go_sem])⟩, hx⟩)
  have HSf : Hid (∀ w', Ext ((w.alloc (.cells #[.slice a1 c.tars.length c1, .int .i64 c.day, .int .i64 c.fee, .slice a2 c.flds.length c2] 25)).alloc (.cells #[.int .i64 cr, .int .i64 va, .int .i64 ne, .int .i64 al, .int .i64 ah, .int .i64 bl, .int .i64 bh, .int .i64 ul, .int .i64 uh] 76)) w' → ∀ o, w'.frozen? ⟨w.heap.size + 1, o, none⟩ = false) := Lib.hid (fun w' hx o => (hx.frozen (by simp)).trans (by simp [go_sem]))
  have HSz : w.heap.size + 1 + 1 ≤ ((w.alloc (.cells #[.slice a1 c.tars.length c1, .int .i64 c.day, .int .i64 c.fee, .slice a2 c.flds.length c2] 25)).alloc (.cells #[.int .i64 cr, .int .i64 va, .int .i64 ne, .int .i64 al, .int .i64 ah, .int .i64 bl, .int .i64 bh, .int .i64 ul, .int .i64 uh] 76)).heap.size := by simp
  generalize ((w.alloc (.cells #[.slice a1 c.tars.length c1, .int .i64 c.day, .int .i64 c.fee, .slice a2 c.flds.length c2] 25)).alloc (.cells #[.int .i64 cr, .int .i64 va, .int .i64 ne, .int .i64 al, .int .i64 ah, .int .i64 bl, .int .i64 bh, .int .i64 ul, .int .i64 uh] 76)) = W at *
  (with_reducible refine (HEV.out _).mono ?_)
  rintro e w1 ⟨ea, eq, rfl, hrow, hx1⟩
  have HRW := Lib.hid hrow
  have X1 := X.trans hx1
  have HK : Hid (∀ w', Ext w1 w' → ((w'.cell? ⟨w.heap.size, 0, none⟩ = some (.slice a1 c.tars.length c1) ∧ w'.cell? ⟨w.heap.size, 1, none⟩ = some (.int .i64 c.day) ∧ w'.cell? ⟨w.heap.size, 2, none⟩ = some (.int .i64 c.fee) ∧ w'.cell? ⟨w.heap.size, 3, none⟩ = some (.slice a2 c.flds.length c2)) ∧ (w'.cell? ⟨w.heap.size + 1, 0, none⟩ = some (.int .i64 cr) ∧ w'.cell? ⟨w.heap.size + 1, 1, none⟩ = some (.int .i64 va) ∧ w'.cell? ⟨w.heap.size + 1, 2, none⟩ = some (.int .i64 ne) ∧ w'.cell? ⟨w.heap.size + 1, 3, none⟩ = some (.int .i64 al) ∧ w'.cell? ⟨w.heap.size + 1, 4, none⟩ = some (.int .i64 ah) ∧ w'.cell? ⟨w.heap.size + 1, 5, none⟩ = some (.int .i64 bl) ∧ w'.cell? ⟨w.heap.size + 1, 6, none⟩ = some (.int .i64 bh) ∧ w'.cell? ⟨w.heap.size + 1, 7, none⟩ = some (.int .i64 ul) ∧ w'.cell? ⟨w.heap.size + 1, 8, none⟩ = some (.int .i64 uh)))) := Lib.hid (fun w' hx => by
    obtain ⟨⟨q0, q1, q2, q3, m0, m1, m2, m3, m4, m5, m6, m7, m8⟩, -⟩ := HS.out w' (hx1.trans hx)
    exact ⟨⟨q0, q1, q2, q3⟩, m0, m1, m2, m3, m4, m5, m6, m7, m8⟩)
  clear hrow hx1 HS HSf HSz HEV X
  go_wp2_with fail
  go_loopw [5, 7] (fun s5 s7 wr => ∃ (i n : Nat) (a5 : Option Addr) (q5 : Nat), i ≤ N ∧ s7 = .int .i64 i ∧ s5 = .slice a5 n q5 ∧ Hid (n = (outTo c f i).length ∧ OcRow w1.heap.size 128 (outTo c f i) (.slice a5 n q5) wr) ∧ Ext w1 wr) (fun _ s _ => N - (intOf s).toNat)
  case atStart => exact ⟨0, 0, none, 0, Nat.zero_le _, rfl, rfl, Lib.hid ⟨rfl, OcRow.nil _ _ _⟩, Ext.refl _⟩
  case round =>
    obtain ⟨i, n, a5, q5, hi, rfl, rfl, HR, hx⟩ := hrel
    obtain ⟨wo, rfl⟩ : ∃ x, x = wr := ⟨_, rfl⟩
    by_cases hlt : i < N
    · obtain ⟨be, oe, rfl, -, hc1⟩ := HRW.out.at hlt
      obtain ⟨⟨q0, q1, q2, q3⟩, m0, m1, m2, m3, m4, m5, m6, m7, m8⟩ := HK.out wo hx
      obtain ⟨d0, d1, d2⟩ := hc1.ext hx be _
      have HO1 := Lib.hid (HO.out i hlt)
      have HN1 := Lib.hid (HON.out i hlt)
      have hnl := HOL.out i
      obtain ⟨hn1, hrow⟩ := HR.out
      have HNE := Lib.hid hn1
      have HRO := Lib.hid hrow
      rw [← hn1] at hnl
      clear hn1 hrow HR HO HON HOL HOA HRW hc1
      generalize hL : outTo c f i = L at *
      have HLL := Lib.hid hL
      clear hL
      generalize hoc : ocS c f (truthAt f i) = o at *
      clear hoc
      generalize truthAt f i = x at *
      obtain ⟨A3, B3, U3⟩ := x
      obtain ⟨p, cb, lo⟩ := o
      simp only [Thr.c, Oc.v] at *
      have hk0 : (0 : Int) ≤ (i : Int) := by omega
      have hki : (i : Int) < (N : Int) := by omega
      have HX := Lib.hid hx
      have HSX : Hid (∀ w', Ext wo w' → ((w'.cell? ⟨w.heap.size, 0, none⟩ = some (.slice a1 c.tars.length c1) ∧ w'.cell? ⟨w.heap.size, 1, none⟩ = some (.int .i64 c.day) ∧ w'.cell? ⟨w.heap.size, 2, none⟩ = some (.int .i64 c.fee) ∧ w'.cell? ⟨w.heap.size, 3, none⟩ = some (.slice a2 c.flds.length c2)) ∧ (w'.cell? ⟨w.heap.size + 1, 0, none⟩ = some (.int .i64 cr) ∧ w'.cell? ⟨w.heap.size + 1, 1, none⟩ = some (.int .i64 va) ∧ w'.cell? ⟨w.heap.size + 1, 2, none⟩ = some (.int .i64 ne) ∧ w'.cell? ⟨w.heap.size + 1, 3, none⟩ = some (.int .i64 al) ∧ w'.cell? ⟨w.heap.size + 1, 4, none⟩ = some (.int .i64 ah) ∧ w'.cell? ⟨w.heap.size + 1, 5, none⟩ = some (.int .i64 bl) ∧ w'.cell? ⟨w.heap.size + 1, 6, none⟩ = some (.int .i64 bh) ∧ w'.cell? ⟨w.heap.size + 1, 7, none⟩ = some (.int .i64 ul) ∧ w'.cell? ⟨w.heap.size + 1, 8, none⟩ = some (.int .i64 uh)) ∧ (w'.cell? ⟨be, oe + i * 3, none⟩ = some (.int .i64 A3) ∧ w'.cell? ⟨be, oe + i * 3 + 1, none⟩ = some (.int .i64 B3) ∧ w'.cell? ⟨be, oe + i * 3 + 2, none⟩ = some (.int .i64 U3))) ∧ Ext wo w') := Lib.hid (fun w' h => ⟨⟨⟨h.keep q0, h.keep q1, h.keep q2, h.keep q3⟩, ⟨h.keep m0, h.keep m1, h.keep m2, h.keep m3, h.keep m4, h.keep m5, h.keep m6, h.keep m7, h.keep m8⟩, h.keep d0, h.keep d1, h.keep d2⟩, h⟩)
      have HX1 := Lib.hid X1
      clear q0 q1 q2 q3 m0 m1 m2 m3 m4 m5 m6 m7 m8 d0 d1 d2 hx X1
      go_upto_region 6 with fail
      go_cut [8] from 19 to 25 (fun s8 wx => ∃ R, s8 = .pointer (some ⟨R, 0, none⟩) ∧ BoxN wo R [.int .i64 p, .bool cb, .int .i64 lo] wx)
      case first =>
        clear HNE HRO HLL HN1 HK
        refine wp_region_held_drew (S := (fun w' => ((w'.cell? ⟨w.heap.size, 0, none⟩ = some (.slice a1 c.tars.length c1) ∧ w'.cell? ⟨w.heap.size, 1, none⟩ = some (.int .i64 c.day) ∧ w'.cell? ⟨w.heap.size, 2, none⟩ = some (.int .i64 c.fee) ∧ w'.cell? ⟨w.heap.size, 3, none⟩ = some (.slice a2 c.flds.length c2)) ∧ (w'.cell? ⟨w.heap.size + 1, 0, none⟩ = some (.int .i64 cr) ∧ w'.cell? ⟨w.heap.size + 1, 1, none⟩ = some (.int .i64 va) ∧ w'.cell? ⟨w.heap.size + 1, 2, none⟩ = some (.int .i64 ne) ∧ w'.cell? ⟨w.heap.size + 1, 3, none⟩ = some (.int .i64 al) ∧ w'.cell? ⟨w.heap.size + 1, 4, none⟩ = some (.int .i64 ah) ∧ w'.cell? ⟨w.heap.size + 1, 5, none⟩ = some (.int .i64 bl) ∧ w'.cell? ⟨w.heap.size + 1, 6, none⟩ = some (.int .i64 bh) ∧ w'.cell? ⟨w.heap.size + 1, 7, none⟩ = some (.int .i64 ul) ∧ w'.cell? ⟨w.heap.size + 1, 8, none⟩ = some (.int .i64 uh)) ∧ (w'.cell? ⟨be, oe + i * 3, none⟩ = some (.int .i64 A3) ∧ w'.cell? ⟨be, oe + i * 3 + 1, none⟩ = some (.int .i64 B3) ∧ w'.cell? ⟨be, oe + i * 3 + 2, none⟩ = some (.int .i64 U3))) ∧ Ext wo w')) (by kernel_rfl) ?_ (fun hHeld => ?_)
        focus ((try dsimp only); (refine HSX.out _ ?_; (repeat (first | exact Ext.refl _ | (with_reducible assumption) | (with_reducible refine Ext.drew ?_) | (with_reducible refine Ext.alloc ?_ _) | (with_reducible refine Ext.drewN ?_ _) | (with_reducible refine Ext.setCell ?_ (by omega) _) | (with_reducible refine Ext.trans ?_ (by with_reducible assumption))))))
        refine wpAnyH_take (i := 0) (v := ?_) rfl (by kernel_rfl) (by decide +kernel) (by decide +kernel) (fun _ _ _ h => h) (Or.inl ⟨by rfl, ?_⟩) (by assumption) ?_
        rotate_left
        focus (intro w hSw; (try dsimp only at hSw); go_simp; try (first | (with_reducible rfl) | (with_reducible exact rfl)))
        (try simp only [Act.put, List.getElem_toArray, List.getElem_cons_succ, List.getElem_cons_zero, List.setIfInBounds_toArray, List.set_cons_zero, List.set_cons_succ])
        refine wpAnyH_take (i := 1) (v := ?_) rfl (by kernel_rfl) (by decide +kernel) (by decide +kernel) (fun _ _ _ h => h) (Or.inl ⟨by rfl, ?_⟩) (by assumption) ?_
        rotate_left
        focus (intro w hSw; (try dsimp only at hSw); go_simp; try (first | (with_reducible rfl) | (with_reducible exact rfl)))
        (try simp only [Act.put, List.getElem_toArray, List.getElem_cons_succ, List.getElem_cons_zero, List.setIfInBounds_toArray, List.set_cons_zero, List.set_cons_succ])
        refine wpAnyH_take (i := 2) (v := ?_) rfl (by kernel_rfl) (by decide +kernel) (by decide +kernel) (fun _ _ _ h => h) (Or.inl ⟨by rfl, ?_⟩) (by assumption) ?_
        rotate_left
        focus (intro w hSw; (try dsimp only at hSw); go_simp; try (first | (with_reducible rfl) | (with_reducible exact rfl)))
        (try simp only [Act.put, List.getElem_toArray, List.getElem_cons_succ, List.getElem_cons_zero, List.setIfInBounds_toArray, List.set_cons_zero, List.set_cons_succ])
        refine wpAnyH_take (i := 3) (v := ?_) rfl (by kernel_rfl) (by decide +kernel) (by decide +kernel) (fun _ _ _ h => h) (Or.inl ⟨by rfl, ?_⟩) (by assumption) ?_
        rotate_left
        focus (intro w hSw; (try dsimp only at hSw); go_simp; try (first | (with_reducible rfl) | (with_reducible exact rfl)))
        (try simp only [Act.put, List.getElem_toArray, List.getElem_cons_succ, List.getElem_cons_zero, List.setIfInBounds_toArray, List.set_cons_zero, List.set_cons_succ])
        refine wpAnyH_take (i := 4) (v := ?_) rfl (by kernel_rfl) (by decide +kernel) (by decide +kernel) (fun _ _ _ h => h) (Or.inl ⟨by rfl, ?_⟩) (by assumption) ?_
        rotate_left
        focus (intro w hSw; (try dsimp only at hSw); go_simp; try (first | (with_reducible rfl) | (with_reducible exact rfl)))
        (try simp only [Act.put, List.getElem_toArray, List.getElem_cons_succ, List.getElem_cons_zero, List.setIfInBounds_toArray, List.set_cons_zero, List.set_cons_succ])
        refine wpAnyH_take (i := 5) (v := ?_) rfl (by kernel_rfl) (by decide +kernel) (by decide +kernel) (fun _ _ _ h => h) (Or.inl ⟨by rfl, ?_⟩) (by assumption) ?_
        rotate_left
        focus (intro w hSw; (try dsimp only at hSw); go_simp; try (first | (with_reducible rfl) | (with_reducible exact rfl)))
        (try simp only [Act.put, List.getElem_toArray, List.getElem_cons_succ, List.getElem_cons_zero, List.setIfInBounds_toArray, List.set_cons_zero, List.set_cons_succ])
        repeat' (first
          | (refine wpAnyH_ready (rs := [6, 7]) (by decide +kernel) (by simp) ?_
             refine AllReadyH.cons rfl (fun K hK => ?_) ?_
             focus
               (go_simp; ((refine (HO1.out _ (HX1.out.trans (HX.out.trans (by (repeat (first | exact Ext.refl _ | (with_reducible assumption) | (with_reducible refine Ext.drew ?_) | (with_reducible refine Ext.alloc ?_ _) | (with_reducible refine Ext.drewN ?_ _) | (with_reducible refine Ext.setCell ?_ (by omega) _) | (with_reducible refine Ext.trans ?_ (by with_reducible assumption)))))))).mono ?_); rintro e w6 ⟨rfl, hx6⟩; have hs6 := hx6.size; (try simp at hs6)); go_wp2_with fail)
               refine hK.out _ _ ?_ (fun hNew => ?_)
               focus ((try dsimp only); (refine HSX.out _ ?_; (repeat (first | exact Ext.refl _ | (with_reducible assumption) | (with_reducible refine Ext.drew ?_) | (with_reducible refine Ext.alloc ?_ _) | (with_reducible refine Ext.drewN ?_ _) | (with_reducible refine Ext.setCell ?_ (by omega) _) | (with_reducible refine Ext.trans ?_ (by with_reducible assumption))))))
               clear hK K hHeld
               have hHeld := hNew
               clear hNew
               (try simp only [Act.put, List.getElem_toArray, List.getElem_cons_succ, List.getElem_cons_zero, List.setIfInBounds_toArray, List.set_cons_zero, List.set_cons_succ])
             rotate_left
             refine AllReadyH.cons rfl (fun K hK => ?_) ?_
             focus
               (go_simp; (first | refine alloc_gen (F := K _) ?_ | refine alloc_gend (F := K _) ?_); intro wA hxA hbA; have hsA := hxA.size; have hlA := hbA.lt; (try simp at hsA); (try simp at hlA))
               refine hK.out _ _ ?_ (fun hNew => ?_)
               focus ((try dsimp only); (refine HSX.out _ ?_; (repeat (first | exact Ext.refl _ | (with_reducible assumption) | (with_reducible refine Ext.drew ?_) | (with_reducible refine Ext.alloc ?_ _) | (with_reducible refine Ext.drewN ?_ _) | (with_reducible refine Ext.setCell ?_ (by omega) _) | (with_reducible refine Ext.trans ?_ (by with_reducible assumption))))))
               clear hK K hHeld
               have hHeld := hNew
               clear hNew
               (try simp only [Act.put, List.getElem_toArray, List.getElem_cons_succ, List.getElem_cons_zero, List.setIfInBounds_toArray, List.set_cons_zero, List.set_cons_succ])
             rotate_left
             exact AllReadyH.nil)
          | (refine wpAnyH_ready (rs := [6]) (by decide +kernel) (by simp) ?_
             refine AllReadyH.cons rfl (fun K hK => ?_) ?_
             focus
               (go_simp; ((refine (HO1.out _ (HX1.out.trans (HX.out.trans (by (repeat (first | exact Ext.refl _ | (with_reducible assumption) | (with_reducible refine Ext.drew ?_) | (with_reducible refine Ext.alloc ?_ _) | (with_reducible refine Ext.drewN ?_ _) | (with_reducible refine Ext.setCell ?_ (by omega) _) | (with_reducible refine Ext.trans ?_ (by with_reducible assumption)))))))).mono ?_); rintro e w6 ⟨rfl, hx6⟩; have hs6 := hx6.size; (try simp at hs6)); go_wp2_with fail)
               refine hK.out _ _ ?_ (fun hNew => ?_)
               focus ((try dsimp only); (refine HSX.out _ ?_; (repeat (first | exact Ext.refl _ | (with_reducible assumption) | (with_reducible refine Ext.drew ?_) | (with_reducible refine Ext.alloc ?_ _) | (with_reducible refine Ext.drewN ?_ _) | (with_reducible refine Ext.setCell ?_ (by omega) _) | (with_reducible refine Ext.trans ?_ (by with_reducible assumption))))))
               clear hK K hHeld
               have hHeld := hNew
               clear hNew
               (try simp only [Act.put, List.getElem_toArray, List.getElem_cons_succ, List.getElem_cons_zero, List.setIfInBounds_toArray, List.set_cons_zero, List.set_cons_succ])
             rotate_left
             exact AllReadyH.nil)
          | (refine wpAnyH_ready (rs := [7]) (by decide +kernel) (by simp) ?_
             refine AllReadyH.cons rfl (fun K hK => ?_) ?_
             focus
               (go_simp; (first | refine alloc_gen (F := K _) ?_ | refine alloc_gend (F := K _) ?_); intro wA hxA hbA; have hsA := hxA.size; have hlA := hbA.lt; (try simp at hsA); (try simp at hlA))
               refine hK.out _ _ ?_ (fun hNew => ?_)
               focus ((try dsimp only); (refine HSX.out _ ?_; (repeat (first | exact Ext.refl _ | (with_reducible assumption) | (with_reducible refine Ext.drew ?_) | (with_reducible refine Ext.alloc ?_ _) | (with_reducible refine Ext.drewN ?_ _) | (with_reducible refine Ext.setCell ?_ (by omega) _) | (with_reducible refine Ext.trans ?_ (by with_reducible assumption))))))
               clear hK K hHeld
               have hHeld := hNew
               clear hNew
               (try simp only [Act.put, List.getElem_toArray, List.getElem_cons_succ, List.getElem_cons_zero, List.setIfInBounds_toArray, List.set_cons_zero, List.set_cons_succ])
             rotate_left
             exact AllReadyH.nil)
          | (refine wpAnyH_ready (rs := [8]) (by decide +kernel) (by simp) ?_
             refine AllReadyH.cons rfl (fun K hK => ?_) ?_
             focus
               (have hcur := Lib.hid hHeld.2; have hszc := hcur.out.size; have hbz := (BoxN.keepTo hcur hbA (by (repeat (first | exact Ext.refl _ | (with_reducible assumption) | (with_reducible refine Ext.drew ?_) | (with_reducible refine Ext.alloc ?_ _) | (with_reducible refine Ext.drewN ?_ _) | (with_reducible refine Ext.setCell ?_ (by omega) _) | (with_reducible refine Ext.trans ?_ (by with_reducible assumption)))))).to hcur.out (by omega); have z0 := hbz.cells 0 _ rfl; have z1 := hbz.cells 1 _ rfl; have z2 := hbz.cells 2 _ rfl; have zf := hbz.fr; go_simp; refine store3_gen (F := K _) hbz ?_; intro w7 hb7 hk7; have hx7 := hk7.toExt hcur.out (fun j hj => by omega); have hb7' := hb7; clear z0 z1 z2 zf hbz)
               refine hK.out _ _ ?_ (fun hNew => ?_)
               focus ((try dsimp only); (refine HSX.out _ ?_; (repeat (first | exact Ext.refl _ | (with_reducible assumption) | (with_reducible refine Ext.drew ?_) | (with_reducible refine Ext.alloc ?_ _) | (with_reducible refine Ext.drewN ?_ _) | (with_reducible refine Ext.setCell ?_ (by omega) _) | (with_reducible refine Ext.trans ?_ (by with_reducible assumption))))))
               clear hK K hHeld
               have hHeld := hNew
               clear hNew
               (try simp only [Act.put, List.getElem_toArray, List.getElem_cons_succ, List.getElem_cons_zero, List.setIfInBounds_toArray, List.set_cons_zero, List.set_cons_succ])
             rotate_left
             exact AllReadyH.nil)
          | (refine wpAnyH_done (by decide +kernel) ?_ _)
          | fail)
        all_goals
          go_wp2_with fail
          go_meet
          exact ⟨_, rfl, hb7'⟩
      case rest =>
        obtain ⟨R, rfl, hb⟩ := hcut
        obtain ⟨wp, rfl⟩ : ∃ x, x = wc := ⟨_, rfl⟩
        have XP := HX.out.trans hb.ext
        have HRP := Lib.hid (HRO.out.ext hb.ext)
        have HBX := Lib.hid hb
        clear hb HSX HO1 HX HK HRO
        go_wp2_with fail
        go_loopw [9, 10] (fun s9 s10 wr => ∃ k : Nat, k ≤ n ∧ s10 = .int .i64 k ∧ s9 = .bool (knownS (L.take k) ⟨p, cb, lo⟩) ∧ Ext wp wr) (fun _ s _ => n - (intOf s).toNat)
        case atStart => exact ⟨0, Nat.zero_le _, rfl, rfl, Ext.refl _⟩
        case round =>
          obtain ⟨k, hk, rfl, rfl, hy⟩ := hrel
          obtain ⟨wq, rfl⟩ : ∃ x, x = wr := ⟨_, rfl⟩
          have r0 := hy.keep (HBX.out.cells 0 _ rfl)
          have r1 := hy.keep (HBX.out.cells 1 _ rfl)
          have r2 := hy.keep (HBX.out.cells 2 _ rfl)
          by_cases hlk : k < n
          · have hlL : k < L.length := by have := HNE.out; omega
            obtain ⟨b5, rfl, -, hc5⟩ := HRP.out.at hlL
            obtain ⟨g0, g1, g2⟩ := hc5.ext hy b5 _
            have HKN := Lib.hid (known_next hlL ⟨p, cb, lo⟩)
            have hk0' : (0 : Int) ≤ (k : Int) := by omega
            have hkn : (k : Int) < (n : Int) := by omega
            clear hc5 HRP HBX HN1
            generalize knownS (L.take k) ⟨p, cb, lo⟩ = kb at *
            generalize L[k] = o' at *
            obtain ⟨p', cb', lo'⟩ := o'
            simp only [Oc.c] at g0 g1 g2
            go_upto_region 11 with fail
            cases kb with
            | true =>
              have HKT : Hid (knownS (L.take (k + 1)) ⟨p, cb, lo⟩ = true) := Lib.hid (by rw [HKN.out]; rfl)
              clear HKN
              refine wp_region_quiet (C := Ext wq) (by kernel_rfl) (by kernel_rfl) (Ext.drew (by (repeat (first | exact Ext.refl _ | (with_reducible assumption) | (with_reducible refine Ext.drew ?_) | (with_reducible refine Ext.alloc ?_ _) | (with_reducible refine Ext.drewN ?_ _) | (with_reducible refine Ext.setCell ?_ (by omega) _) | (with_reducible refine Ext.trans ?_ (by with_reducible assumption)))))) ?_
              rw [show ∀ (l : List Oper), l.toArray.toList = l from fun l => rfl]
              repeat (first
                | go_big_quiet_skip
                | (go_big_quiet_want
                   first
                    | (go_big_quiet_op; go_big_quiet_on)
                    | (apply Exists.intro
                       refine ⟨fun w' hxw => ?_, ?_⟩
                       focus (have r0 := hxw.keep r0; have r1 := hxw.keep r1; have r2 := hxw.keep r2; have g0 := hxw.keep g0; have g1 := hxw.keep g1; have g2 := hxw.keep g2; go_simp; first | exact rfl)
                       simp only [Act.put, List.setIfInBounds_toArray, List.set_cons_zero, List.set_cons_succ]
                       go_big_quiet_on)))
              refine wpQuiet_nil ?_
              intro w2 hx2
              go_wp2_with fail
              go_roundw
              case rel => exact ⟨k + 1, by omega, by go_num, by rw [HKT.out], hy.trans hx2⟩
              case measure => simp [intOf]; omega
            | false =>
              have HKT : Hid (knownS (L.take (k + 1)) ⟨p, cb, lo⟩ = (Oc.mk p' cb' lo').same ⟨p, cb, lo⟩) := Lib.hid (by rw [HKN.out]; rfl)
              clear HKN
              have heq := fun w => eq_oc p lo p' lo' cb cb' w
              generalize (Oc.mk p' cb' lo').same ⟨p, cb, lo⟩ = sb at *
              refine wp_region_quiet (C := Ext wq) (by kernel_rfl) (by kernel_rfl) (Ext.drew (by (repeat (first | exact Ext.refl _ | (with_reducible assumption) | (with_reducible refine Ext.drew ?_) | (with_reducible refine Ext.alloc ?_ _) | (with_reducible refine Ext.drewN ?_ _) | (with_reducible refine Ext.setCell ?_ (by omega) _) | (with_reducible refine Ext.trans ?_ (by with_reducible assumption)))))) ?_
              rw [show ∀ (l : List Oper), l.toArray.toList = l from fun l => rfl]
              repeat (first
                | go_big_quiet_skip
                | (go_big_quiet_want
                   first
                    | (go_big_quiet_op; go_big_quiet_on)
                    | (apply Exists.intro
                       refine ⟨fun w' hxw => ?_, ?_⟩
                       focus (have r0 := hxw.keep r0; have r1 := hxw.keep r1; have r2 := hxw.keep r2; have g0 := hxw.keep g0; have g1 := hxw.keep g1; have g2 := hxw.keep g2; go_simp; first | exact rfl)
                       simp only [Act.put, List.setIfInBounds_toArray, List.set_cons_zero, List.set_cons_succ]
                       go_big_quiet_on)))
              refine wpQuiet_nil ?_
              intro w2 hx2
              go_wp2_with fail
              go_roundw
              case rel => exact ⟨k + 1, by omega, by go_num, by rw [HKT.out], hy.trans hx2⟩
              case measure => simp [intOf]; omega
          · obtain rfl : k = n := by omega
            have hkl : L.take k = L := List.take_of_length_le (by have := HNE.out; omega)
            rw [hkl]
            have HLN := Lib.hid HN1.out
            have XQ := XP.trans hy
            have HRQ := Lib.hid (HRP.out.ext hy)
            clear HN1 hkl HRP HBX
            cases hkb : knownS L ⟨p, cb, lo⟩ with
            | true =>
              have HRN : Hid (k = (outTo c f (i + 1)).length ∧ OcRow w1.heap.size 128 (outTo c f (i + 1)) (.slice a5 k q5) wq) := Lib.hid (by rw [HLN.out, hkb]; exact ⟨HNE.out, HRQ.out⟩)
              clear hkb
              go_wp2_with fail
              go_roundw
              case rel => exact ⟨i + 1, k, _, _, by omega, by go_num, rfl, HRN, XQ⟩
              case measure => simp [intOf]; omega
            | false =>
              have HLX : Hid (outTo c f (i + 1) = L ++ [⟨p, cb, lo⟩]) := Lib.hid (by rw [HLN.out, hkb]; rfl)
              have HOWN : Hid (wq.ownsRow w1.heap.size 128 3 (.slice a5 k q5) k (L.flatMap (fun o => o.c.cs))) := Lib.hid (by
                have h : wq.ownsRow w1.heap.size 128 3 (.slice a5 k q5) L.length (L.flatMap (fun o => o.c.cs)) := HRQ.out
                rw [← HNE.out] at h
                exact h)
              have HONE : Hid (∀ u ∈ ([.int .i64 p, .bool cb, .int .i64 lo] : List Value), u.oneCell' = true) := Lib.hid (by
                intro u hu
                simp only [List.mem_cons, List.not_mem_nil, or_false] at hu
                rcases hu with rfl | rfl | rfl <;> rfl)
              clear hkb HLN
              go_wp2_with (at_builtin; refine wpList_append_own_at _ rfl _ _ 124 rfl w1.heap.size 128 i3 (.agg #[.int .i64 0, .bool false, .int .i64 0]) 3 24 Tryz.underlying124 hi3 hz30 hz31 hz32 rfl (by decide) (.slice a5 k q5) k (L.flatMap (fun o => o.c.cs)) rfl ?own ⟨wq.heap.size, 0, none⟩ 1 1 (V3.cs (Oc.c ⟨p, cb, lo⟩)) rfl rfl (cell_three_new _ (Oc.c ⟨p, cb, lo⟩) _) ?one ?f1 ?f2 ?f3 ?next)
              case own => exact own_keep HOWN.out (fun _ hg => ((Ext.refl wq).alloc _).heap (own_lt HOWN.out hg).2)
              case one => exact HONE.out
              case f1 => simp only [maxLen]; omega
              case f2 => omega
              case f3 => have h1 := XQ.size; simp; omega
              case next =>
                intro v' w7 hown hgrow hnil hat
                have hx7 : Ext w1 w7 := grown_ext (XQ.alloc _) hgrow (fun _ hg => (own_lt HOWN.out hg).1)
                clear hnil hat hgrow
                rcases own_open hown with ⟨-, h0⟩ | ⟨g', cap, rfl, -, -, -, -⟩
                · omega
                · have HRN : Hid (k + 1 = (outTo c f (i + 1)).length ∧ OcRow w1.heap.size 128 (outTo c f (i + 1)) (.slice (some ⟨g', 0, none⟩) (k + 1) cap) w7) := Lib.hid (by
                    rw [HLX.out]
                    exact ⟨by simp [HNE.out], OcRow.next hown HNE.out⟩)
                  clear hown
                  go_wp2_with fail
                  go_roundw
                  case rel => exact ⟨i + 1, k + 1, _, _, by omega, by go_num, rfl, HRN, hx7⟩
                  case measure => simp [intOf]; omega
    · obtain rfl : i = N := by omega
      obtain ⟨hn1, hrow⟩ := HR.out
      rw [HOA.out] at hn1 hrow
      have hsz : w.heap.size ≤ w1.heap.size := X1.size
      have HBS : Hid (OcRow w.heap.size 128 (outcomesS c f) (.slice a5 n q5) wo) := Lib.hid (OcRow.base hrow hsz)
      subst hn1
      clear HR hrow HO HON HOL HOA HRW HK
      go_wp2_with fail
      go_ret
      exact ⟨_, _, rfl, HBS.out, X1.trans hx⟩
end Go.Proofs.YtedblocbcjoolaaGreat
