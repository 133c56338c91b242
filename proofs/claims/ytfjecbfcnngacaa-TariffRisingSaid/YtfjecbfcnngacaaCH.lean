/- Contracts: the sets of so many rates more, tried one after the other. -/
import Derived.Test.YtfjecbfcnngacaaCG
import Derived.Test.YtfjecbfcnngacaaEG
import Derived.ChangeKeysEq
import Derived.Laws.StructEq
import Derived.RegionTactic
import Derived.BigRegion
import Derived.Deep.CutRange
import Derived.Deep.DeepCutAuto
import Derived.Deep.AppendLies
namespace Go.Hs
open Go.RowKit Go.Proofs.Ytfjecbfcnngacaa
/-- The first one of so many numbers that has an answer. -/
def scan {α : Type} (f : Nat → Option α) : Nat → Nat → Option α
  | 0, _ => none
  | n + 1, i => match f i with
    | some x => some x
    | none => scan f n (i + 1)
/-- The first set with so many rates more, from one on, without which the others rise. -/
def tryS (r : List Int) : Nat → List Nat → Nat → Option (List Nat)
  | 0, out, _ => if keptB r (mk out) then some out else none
  | m + 1, out, start => scan (fun i => tryS r m (out ++ [i]) (i + 1)) (r.length - m - start) start
theorem lastK_congr {r : List Int} {f g : Nat → Bool} (k : Nat) (h : ∀ j, j < k → f j = g j) : lastK r f k = lastK r g k := by
  induction k with
  | zero => rfl
  | succ k ih =>
    unfold lastK
    rw [ih (fun j hj => h j (by omega)), h k (by omega)]
theorem keptB_congr {r : List Int} {f g : Nat → Bool} (h : ∀ j, j < r.length → f j = g j) : keptB r f = keptB r g := by
  unfold keptB; rw [lastK_congr _ h]
def lowB (n : Nat) : Nat → Bool := fun k => decide (k < n)
theorem lowB_no {n k : Nat} : lowB n k = false ↔ n ≤ k := by simp [lowB]
theorem eg_low {lo hi n : Nat} {a b : World} (h : EG lo hi a b) (hn : hi ≤ n) : KC (mask (lowB n) a) (mask (lowB n) b) :=
  mask_kc (fun _ _ h => h) (fun k hk hp => h.block k hk (.inr (by rw [lowB_no] at hp; omega)))
theorem own_mono {w : World} {B B' e k n : Nat} {v : Value} {us : List Value} (h : w.ownsRow B e k v n us) (hb : B' ≤ B) : w.ownsRow B' e k v n us := by
  refine ⟨h.1, ?_⟩
  rcases h.2 with h0 | ⟨g, cap, cur, rfl, hB, rest⟩
  · exact .inl h0
  · exact .inr ⟨g, cap, cur, rfl, Nat.le_trans hb hB, rest⟩
theorem own_ints {w : World} {B e n N : Nat} {v : Value} {us : List Value} {xs : List Nat} (h : w.ownsRow B e 1 v n us) (hu : us = (ints xs).map (.int .i64)) (hn : n = xs.length) (hb : N ≤ B) (h5 : ∀ x, x ∈ xs → x < 5) (hl : xs.length ≤ 5) : IntsV (mask (lowB N) w) v (ints xs) := by
  subst hu hn
  have hlen : (ints xs).length = xs.length := by simp [ints]
  rcases own_open h with ⟨rfl, h0⟩ | ⟨g, cap, rfl, hB, hg, hn, hc⟩
  · have e : xs = [] := List.eq_nil_of_length_eq_zero h0
    subst e
    exact ⟨none, 0, rfl, Nat.le_refl _, by simp [ints], fun i h => absurd h (by simp [ints])⟩
  · refine ⟨some ⟨g, 0, none⟩, cap, by rw [hlen], by rw [hlen]; exact hn, by rw [hlen]; omega, fun i hi => ⟨g, 0, rfl, ?_, ?_⟩⟩
    · rw [mask_cell, lowB_no.2 (by omega)]
      have := hc i (.int .i64 (ints xs)[i]) (by simp [hi])
      simpa using this
    · have hi' : i < xs.length := by rw [← hlen]; exact hi
      have := h5 _ (List.getElem_mem hi')
      have e : (ints xs)[i] = (xs[i] : Int) := by simp [ints]
      rw [e]; omega
theorem one_in {W wa : World} {b : Nat} {x : Value} {t : TypeId} (h : Ext (W.alloc (.cells #[x] t)) wa) (hb : b = W.heap.size) : ∀ j y, ([x] : List Value)[j]? = some y → wa.cell? ((⟨b, 0, none⟩ : Addr).add j) = some y := by
  subst hb
  intro j y hj
  rcases j with _ | j
  · simp at hj
    subst hj
    rw [add_none']
    exact h.keep (by simp)
  · simp at hj
theorem EG.setIn {lo hi : Nat} {a b : World} {T i : Nat} (h : EG lo hi a b) (h1 : lo ≤ T) (h2 : T < hi) (x : Value) : EG lo hi a (b.setCell ⟨T, i, none⟩ x) :=
  have E : Below 0 b (b.setCell ⟨T, i, none⟩ x) := Below.setCell (Below.refl 0 b) (Nat.zero_le _) x
  ⟨E.os.trans h.os, E.tape.trans h.tape, E.output.trans h.output, Nat.le_trans h.size E.size, fun k hk hr => (Below.heap_setCell _ _ _ _ (show k ≠ T by omega)).trans (h.block k hk hr)⟩
end Go.Hs
namespace Go.Proofs.Ytfjecbfcnngacaa
open Go.RowKit Go.Hs
attribute [local irreducible] World.setCell World.alloc

def sameB (f g : Nat → Bool) : Bool := f 0 == g 0 && (f 1 == g 1 && (f 2 == g 2 && (f 3 == g 3 && f 4 == g 4)))
theorem sameB_iff {f g : Nat → Bool} (h : sameB f g = true) : ∀ j, j < 5 → f j = g j := by
  simp only [sameB, Bool.and_eq_true, beq_iff_eq] at h
  intro j hj
  rcases j with _ | _ | _ | _ | _ | j
  · exact h.1
  · exact h.2.1
  · exact h.2.2.1
  · exact h.2.2.2.1
  · exact h.2.2.2.2
  · omega
theorem eq_flags (f g : Nat → Bool) (w : World) : (binOp .eql 117 (.agg #[.bool (f 0), .bool (f 1), .bool (f 2), .bool (f 3), .bool (f 4)]) (.agg #[.bool (g 0), .bool (g 1), .bool (g 2), .bool (g 3), .bool (g 4)])).run Try.prog w = .ok (.bool (sameB f g)) w := by
  unfold sameB
  generalize f 0 = a0
  generalize f 1 = a1
  generalize f 2 = a2
  generalize f 3 = a3
  generalize f 4 = a4
  generalize g 0 = b0
  generalize g 1 = b1
  generalize g 2 = b2
  generalize g 3 = b3
  generalize g 4 = b4
  have u3 := Try.underlying4
  have a3' := Try.isAgg4
  have z3 := Try.sizeOf4
  rw [run_eql_struct]
  rw [show (10000 : Nat) = 9999 + 1 from rfl, Op.equalIn]
  simp only [Sem.run_bind, run_underlying Try.underlying117, Result.andThen_ok]
  simp only [Std.Legacy.Range.forIn_eq_forIn_range', Std.Legacy.Range.size, Nat.sub_zero, Nat.add_sub_cancel, Nat.div_one, List.range'_succ, List.range'_zero, List.forIn_cons, List.forIn_nil]
  go_simp
  by_cases h0 : a0 = b0 <;> by_cases h1 : a1 = b1 <;> by_cases h2 : a2 = b2 <;> by_cases h3 : a3 = b3 <;> by_cases h4 : a4 = b4 <;> simp [h0, h1, h2, h3, h4]

/-- The function 'try', over its boxes. -/
def tryV (R F L T : Nat) : Value := .func (.func 75) #[] #[.pointer (some ⟨L, 0, none⟩), .pointer (some ⟨F, 0, none⟩), .pointer (some ⟨R, 0, none⟩), .pointer (some ⟨T, 0, none⟩)]
/-- The boxes between two sets. -/
structure TrySt (wb : World) (R F L T : Nat) (vr : Value) (f : Nat → Bool) (W : World) : Prop where
  ext : Ext wb W
  rc : W.cell? ⟨R, 0, none⟩ = some vr
  tc : W.cell? ⟨T, 0, none⟩ = some (tryV R F L T)
  fc : ∃ v, W.cell? ⟨F, 0, none⟩ = some v
  lc : FlagsAt W L f
  ff : W.frozen? ⟨F, 0, none⟩ = false
  lf : ∀ o, W.frozen? ⟨L, o, none⟩ = false
  o0 : wb.heap.size ≤ R
  o1 : R + 1 = F
  o2 : F + 1 = L
  o3 : L + 1 = T
section
variable {wb : World} {R F L T : Nat} {vr : Value} {f g : Nat → Bool} {W W' : World}
theorem TrySt.grow (h : TrySt wb R F L T vr f W) (hx : Ext W W') : TrySt wb R F L T vr f W' := by
  have h1 := h.o0
  have h2 := h.o1
  have h3 := h.o2
  have h4 := h.o3
  obtain ⟨v, hv⟩ := h.fc
  exact ⟨h.ext.trans hx, hx.keep h.rc, hx.keep h.tc, ⟨v, hx.keep hv⟩, h.lc.ext hx, (hx.frozen (lt_of_cell hv)).trans h.ff, fun o => (hx.frozen (lt_of_cell (h.lc 0 (by decide)))).trans (h.lf o), h.o0, h.o1, h.o2, h.o3⟩
theorem TrySt.setF (h : TrySt wb R F L T vr f W) (v : Value) : TrySt wb R F L T vr f (W.setCell ⟨F, 0, none⟩ v) := by
  have h1 := h.o0
  have h2 := h.o1
  have h3 := h.o2
  have h4 := h.o3
  obtain ⟨v0, hv⟩ := h.fc
  exact ⟨h.ext.setCell (by omega) _, set_other (by omega) h.rc, set_other (by omega) h.tc, ⟨v, set_same hv⟩, fun j hj => set_other (by omega) (h.lc j hj), by rw [World.frozen?_setCell]; exact h.ff, fun o => by rw [World.frozen?_setCell]; exact h.lf o, h.o0, h.o1, h.o2, h.o3⟩
theorem TrySt.setL (h : TrySt wb R F L T vr f W) (k : Nat) (u : Bool) (hg : ∀ j, j < 5 → g j = if j = k then u else f j) : TrySt wb R F L T vr g (W.setCell ⟨L, k, none⟩ (.bool u)) := by
  have h1 := h.o0
  have h2 := h.o1
  have h3 := h.o2
  have h4 := h.o3
  obtain ⟨v0, hv⟩ := h.fc
  exact ⟨h.ext.setCell (by omega) _, set_other (by omega) h.rc, set_other (by omega) h.tc, ⟨v0, set_other (by omega) hv⟩, h.lc.set hg, by rw [World.frozen?_setCell]; exact h.ff, fun o => by rw [World.frozen?_setCell]; exact h.lf o, h.o0, h.o1, h.o2, h.o3⟩
/-- All five flags set. -/
abbrev set5 (W : World) (L : Nat) (g : Nat → Bool) : World := ((((W.setCell ⟨L, 0, none⟩ (.bool (g 0))).setCell ⟨L, 1, none⟩ (.bool (g 1))).setCell ⟨L, 2, none⟩ (.bool (g 2))).setCell ⟨L, 3, none⟩ (.bool (g 3))).setCell ⟨L, 4, none⟩ (.bool (g 4))
theorem TrySt.set5 (h : TrySt wb R F L T vr f W) (g : Nat → Bool) : TrySt wb R F L T vr g (set5 W L g) := by
  refine TrySt.setL (f := fun j => if j < 4 then g j else f j) (TrySt.setL (f := fun j => if j < 3 then g j else f j) (TrySt.setL (f := fun j => if j < 2 then g j else f j) (TrySt.setL (f := fun j => if j < 1 then g j else f j) (TrySt.setL (f := f) h 0 (g 0) ?_) 1 (g 1) ?_) 2 (g 2) ?_) 3 (g 3) ?_) 4 (g 4) ?_
  all_goals
    intro j hj
    rcases j with _ | _ | _ | _ | _ | j <;> first | (simp; done) | omega
theorem set5_other {b o : Nat} {v : Value} (hb : b ≠ L) (h : W.cell? ⟨b, o, none⟩ = some v) : (set5 W L g).cell? ⟨b, o, none⟩ = some v :=
  set_other (Ne.symm hb) (set_other (Ne.symm hb) (set_other (Ne.symm hb) (set_other (Ne.symm hb) (set_other (Ne.symm hb) h))))
theorem EG.set5 {lo hi : Nat} {a : World} (h : EG lo hi a W) (h1 : lo ≤ L) (h2 : L < hi) : EG lo hi a (set5 W L g) :=
  ((((h.setIn h1 h2 _).setIn h1 h2 _).setIn h1 h2 _).setIn h1 h2 _).setIn h1 h2 _
end
/-- What 'try' leaves. -/
structure TryP (wb : World) (R F L T : Nat) (vr : Value) (r : List Int) (want : Option (List Nat)) (W : World) (b : Bool) (w' : World) : Prop where
  eg : EG F T W w'
  yes : b = true → ∃ x vx, want = some x ∧ w'.cell? ⟨F, 0, none⟩ = some vx ∧ IntsV (mask (lowB (T + 1)) w') vx (ints x)
  no : b = false → want = none ∧ ∃ f, TrySt wb R F L T vr f w' ∧ keptB r f = false
def TryQ (wb : World) (R F L T : Nat) (vr : Value) (r : List Int) (want : Option (List Nat)) (W : World) (e : Ending) (w' : World) : Prop := ∃ b, e = .returned (.bool b) ∧ TryP wb R F L T vr r want W b w'
/-- The set that is tried is noted. -/
structure MarkP (wb : World) (R F L T N : Nat) (vr vo : Value) (g : Nat → Bool) (W w' : World) : Prop where
  st : TrySt wb R F L T vr g w'
  fo : w'.cell? ⟨F, 0, none⟩ = some vo
  nn : FlagsAt w' N g
  eg : EG F T W w'
theorem MarkP.drew {wb W w' : World} {R F L T N : Nat} {vr vo : Value} {g : Nat → Bool} (h : MarkP wb R F L T N vr vo g W w') : MarkP wb R F L T N vr vo g W w'.drew :=
  ⟨h.st.grow (Ext.refl _).drew, (Ext.refl _).drew.keep h.fo, h.nn.ext (Ext.refl _).drew, h.eg.drew⟩
theorem markA {wb W W' : World} {R F L T N : Nat} {vr vo : Value} {f g : Nat → Bool} (h : TrySt wb R F L T vr f W') (hn : FlagsAt W' N g) (hN : T < N) (he : EG F T W W') : MarkP wb R F L T N vr vo g W (set5 (W'.setCell ⟨F, 0, none⟩ vo) L g) := by
  have h2 := h.o1
  have h3 := h.o2
  have h4 := h.o3
  obtain ⟨v0, hv⟩ := h.fc
  exact ⟨(h.setF vo).set5 g, set5_other (by omega) (set_same hv), fun j hj => set5_other (by omega) (set_other (by omega) (hn j hj)), EG.set5 (he.setIn (T := F) (by omega) (by omega) _) (by omega) (by omega)⟩
theorem markB {wb W W' : World} {R F L T N : Nat} {vr vo : Value} {f g : Nat → Bool} (h : TrySt wb R F L T vr f W') (hn : FlagsAt W' N g) (hN : T < N) (he : EG F T W W') : MarkP wb R F L T N vr vo g W ((set5 W' L g).setCell ⟨F, 0, none⟩ vo) := by
  have h2 := h.o1
  have h3 := h.o2
  have h4 := h.o3
  obtain ⟨v0, hv⟩ := h.fc
  exact ⟨(h.set5 g).setF vo, set_same (set5_other (by omega) hv), fun j hj => set_other (by omega) (set5_other (by omega) (hn j hj)), (EG.set5 he (by omega) (by omega)).setIn (by omega) (by omega) _⟩

set_option maxRecDepth 100000 in
set_option maxHeartbeats 4000000 in
theorem try_zero (wb : World) (R F L T : Nat) (vr : Value) (r : List Int) (hr : IntsV wb vr r) (h5 : r.length ≤ 5) (start : Int) (out : List Nat) (vo : Value) (f : Nat → Bool) (W : World)
    (hs : TrySt wb R F L T vr f W) (ho : IntsV (mask (lowB (T + 1)) W) vo (ints out)) (hx5 : ∀ x, x ∈ out → x < 5) (hpre : keptB r f = false ∨ out = []) :
    Calls Try.prog 75 #[vo, .int .i64 start, .int .i64 0, .pointer (some ⟨L, 0, none⟩), .pointer (some ⟨F, 0, none⟩), .pointer (some ⟨R, 0, none⟩), .pointer (some ⟨T, 0, none⟩)] W fun e w' => TryQ wb R F L T vr r (if keptB r (mk out) then some out else none) W e w' := by
  have HMK : Hid (Calls Try.prog 76 #[vo] W fun e w' => e = .returned (.agg #[.bool (mk out 0), .bool (mk out 1), .bool (mk out 2), .bool (mk out 3), .bool (mk out 4)]) ∧ Ext W w') := marked_any vo out W (ho.kc (mask_kc0 _ _)) hx5
  have HKP : Hid (∀ w', Ext wb w' → Calls Try.prog 77 #[vr, .agg #[.bool (mk out 0), .bool (mk out 1), .bool (mk out 2), .bool (mk out 3), .bool (mk out 4)]] w' fun e w'' => e = .returned (.bool (keptB r (mk out))) ∧ Ext w' w'') := fun w' hx => kept_any vr r (mk out) w' (hr.ext hx) h5
  have HEQ := fun w => eq_flags (mk out) f w
  have HSM : Hid (sameB (mk out) f = true → keptB r (mk out) = keptB r f) := Lib.hid (fun h => keptB_congr (fun j hj => sameB_iff h j (by omega)))
  have HO := Lib.hid ho
  have HST := Lib.hid hs
  have o0 := hs.o0
  have o1 := hs.o1
  have o2 := hs.o2
  have o3 := hs.o3
  have hTl : T < W.heap.size := lt_of_cell hs.tc
  obtain ⟨ao, co, rfl, hlo, hlo2, -⟩ := ho
  have hlen : (ints out).length = out.length := by simp [ints]
  have HPR : Hid (keptB r f = false ∨ out = []) := hpre
  have HNE : Hid (out = [] ↔ out.length = 0) := Lib.hid (by simp)
  obtain ⟨ar, cr, rfl, -, -, -⟩ := hr
  rw [hlen] at HO HMK hlo hlo2 ⊢
  clear hpre hx5 hlen hs h5
  obtain ⟨want, hwant⟩ : ∃ x, x = (if keptB r (mk out) then some out else none) := ⟨_, rfl⟩
  rw [← hwant]
  have HW := Lib.hid hwant
  clear hwant
  generalize hkb : keptB r (mk out) = kb at *
  have HKB := Lib.hid hkb
  clear hkb
  generalize hsm : sameB (mk out) f = sm at *
  clear hsm
  go_enter Try.func75, Try.ntmps75
  go_wp2_with fail
  (with_reducible refine HMK.out.mono ?_)
  rintro e w1 ⟨rfl, hx1⟩
  clear HMK
  go_upto_region 3 with fail
  obtain ⟨W2, hW2⟩ : ∃ x, x = (w1.alloc (.cells #[.bool (mk out 0), .bool (mk out 1), .bool (mk out 2), .bool (mk out 3), .bool (mk out 4)] 117)) := ⟨_, rfl⟩
  rw [← hW2]
  have X2 : Ext W W2 := by rw [hW2]; exact hx1.alloc _
  have n0 : W2.cell? ⟨w1.heap.size, 0, none⟩ = some (.bool (mk out 0)) := by rw [hW2]; simp
  have n1 : W2.cell? ⟨w1.heap.size, 1, none⟩ = some (.bool (mk out 1)) := by rw [hW2]; simp
  have n2 : W2.cell? ⟨w1.heap.size, 2, none⟩ = some (.bool (mk out 2)) := by rw [hW2]; simp
  have n3 : W2.cell? ⟨w1.heap.size, 3, none⟩ = some (.bool (mk out 3)) := by rw [hW2]; simp
  have n4 : W2.cell? ⟨w1.heap.size, 4, none⟩ = some (.bool (mk out 4)) := by rw [hW2]; simp
  have hNT : T < w1.heap.size := by have := hx1.size; omega
  clear hW2 hx1
  generalize w1.heap.size = N at *
  have S2 := Lib.hid (HST.out.grow X2)
  have l0 := S2.out.lc 0 (by decide)
  have l1 := S2.out.lc 1 (by decide)
  have l2 := S2.out.lc 2 (by decide)
  have l3 := S2.out.lc 3 (by decide)
  have l4 := S2.out.lc 4 (by decide)
  have rc := S2.out.rc
  obtain ⟨vf, fc⟩ := S2.out.fc
  have ff := S2.out.ff
  have lf0 := S2.out.lf 0
  have lf1 := S2.out.lf 1
  have lf2 := S2.out.lf 2
  have lf3 := S2.out.lf 3
  have lf4 := S2.out.lf 4
  have HO2 := Lib.hid (HO.out.kc (eg_low (lo := F) (hi := T) (n := T + 1) X2.eg (by omega)))
  have hstop : sm = true → 0 < out.length → kb = false ∧ keptB r f = false := fun h1 h2 => by
    rcases HPR.out with h | h
    · rw [HSM.out h1, h]; exact ⟨rfl, rfl⟩
    · have := HNE.out.1 h; omega
  have HSTOP := Lib.hid hstop
  have NF : Hid (FlagsAt W2 N (mk out)) := Lib.hid (fun j hj => by rcases j with _ | _ | _ | _ | _ | j <;> first | assumption | omega)
  clear hstop HPR HSM HO HST
  go_cut [24] from 17 to 24 (fun s24 wx => s24 = .bool (sm && decide (0 < out.length)) ∧ W2 = wx)
  case first =>
    by_cases hp : 0 < out.length
    · have hp1 : decide (0 < out.length) = true := decide_eq_true hp
      have hp2 : decide ((0 : Int) < (out.length : Int)) = true := decide_eq_true (by omega)
      cases sm
      · go_wp2_with fail
        go_meet
        exact ⟨by rw [hp1]; rfl, rfl⟩
      · go_wp2_with fail
        go_meet
        exact ⟨by rw [hp1]; rfl, rfl⟩
    · have hp1 : decide (0 < out.length) = false := decide_eq_false hp
      have hp2 : decide ((0 : Int) < (out.length : Int)) = false := decide_eq_false (by omega)
      cases sm
      · go_wp2_with fail
        go_meet
        exact ⟨by rw [hp1]; rfl, rfl⟩
      · go_wp2_with fail
        go_meet
        exact ⟨by rw [hp1]; rfl, rfl⟩
  case rest =>
    obtain ⟨rfl, rfl⟩ := hcut
    obtain ⟨B, hB⟩ : ∃ B, B = (sm && decide (0 < out.length)) := ⟨_, rfl⟩
    rw [← hB]
    have HB := Lib.hid hB
    clear hB HEQ
    cases B with
    | true =>
      have hb := HB.out.symm
      simp only [Bool.and_eq_true, decide_eq_true_eq] at hb
      have HKF := Lib.hid (HSTOP.out hb.1 hb.2)
      clear HSTOP hb
      go_wp2_with fail
      go_ret
      exact ⟨false, rfl, ⟨X2.eg, fun h => (by cases h), fun _ => ⟨by rw [HW.out, HKF.out.1]; rfl, f, S2.out, HKF.out.2⟩⟩⟩
    | false =>
      clear HSTOP HB
      go_upto_region 5 with fail
      go_cut [11] from 25 to 26 (fun s11 wx => s11 = .pointer (some ⟨N, 0, none⟩) ∧ MarkP wb R F L T N (.slice ar r.length cr) (.slice ao out.length co) (mk out) W2 wx)
      case first =>
        have hFL : ¬ F = L := by omega
        have hLF : ¬ L = F := by omega
        have hNF : ¬ N = F := by omega
        have hNL : ¬ N = L := by omega
        clear HKP HW HKB HNE HO2 rc
        go_region
        all_goals
          go_wp2_with fail
          go_meet
          first
            | exact ⟨rfl, markA S2.out NF.out hNT (EG.refl _)⟩
            | exact ⟨rfl, markB S2.out NF.out hNT (EG.refl _)⟩
            | exact ⟨rfl, (markA S2.out NF.out hNT (EG.refl _)).drew⟩
            | exact ⟨rfl, (markB S2.out NF.out hNT (EG.refl _)).drew⟩
      case rest =>
        obtain ⟨rfl, hm⟩ := hcut
        obtain ⟨W3, rfl⟩ : ∃ x, x = wc := ⟨_, rfl⟩
        have HM := Lib.hid hm
        have rc3 := hm.st.rc
        have n0 := hm.nn 0 (by decide)
        have n1 := hm.nn 1 (by decide)
        have n2 := hm.nn 2 (by decide)
        have n3 := hm.nn 3 (by decide)
        have n4 := hm.nn 4 (by decide)
        have XB := hm.st.ext
        clear hm l0 l1 l2 l3 l4 rc fc ff lf0 lf1 lf2 lf3 lf4 S2 NF
        go_wp2_with fail
        (with_reducible refine (HKP.out _ XB).mono ?_)
        rintro e w4 ⟨rfl, hx4⟩
        have HX4 := Lib.hid hx4
        clear rc3 n0 n1 n2 n3 n4 XB HKP hx4
        go_wp2_with fail
        go_ret
        refine ⟨kb, rfl, ⟨(X2.eg.trans HM.out.eg).ext HX4.out, fun h => ?_, fun h => ?_⟩⟩
        · refine ⟨out, _, by rw [HW.out, h]; rfl, HX4.out.keep HM.out.fo, ?_⟩
          have := (HO2.out.kc (eg_low HM.out.eg (by omega))).kc (eg_low (lo := F) (hi := T) (n := T + 1) HX4.out.eg (by omega))
          exact this
        · exact ⟨by rw [HW.out, h]; rfl, mk out, HM.out.st.grow HX4.out, by rw [HKB.out]; exact h⟩
end Go.Proofs.Ytfjecbfcnngacaa
