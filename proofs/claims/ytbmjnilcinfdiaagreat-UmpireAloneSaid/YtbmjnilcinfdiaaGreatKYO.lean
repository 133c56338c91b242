/- Contracts of layer 7's law: a case with other fields, whose list can be shortened in place. -/
import Derived.Test.YtbmjnilcinfdiaaGreatKYC
set_option linter.unusedSimpArgs false
set_option linter.unusedVariables false
namespace Go.Proofs.YtbmjnilcinfdiaaGreat
open Go.RowKit Go.Hs
attribute [local irreducible] World.setCell World.alloc
/-- A block that holds fields, with room. -/
def FldsO (w : World) (g q : Nat) (l : List Fld) : Prop := FldsAt w g l ∧ w.ownsRow g 45 9 (.slice (some ⟨g, 0, none⟩) l.length q) l.length (l.flatMap (fun x => x.c.cs))
theorem own_base {w : World} {B e k g n q : Nat} {xs : List Value} (h : w.ownsRow B e k (.slice (some ⟨g, 0, none⟩) n q) n xs) : w.ownsRow g e k (.slice (some ⟨g, 0, none⟩) n q) n xs := by
  refine ⟨h.1, ?_⟩
  rcases h.2 with ⟨h1, h2⟩ | ⟨g', cap, cur, h1, h2, h3⟩
  · simp at h1
  · simp only [Value.slice.injEq, Option.some.injEq, Addr.mk.injEq, and_true, true_and] at h1
    obtain ⟨rfl, rfl⟩ := h1
    exact .inr ⟨_, _, cur, rfl, Nat.le_refl _, h3⟩
theorem FldsO.of_own {w : World} {B g n q : Nat} {l : List Fld} (h : w.ownsRow B 45 9 (.slice (some ⟨g, 0, none⟩) n q) n (l.flatMap (fun x => x.c.cs))) (hn : n = l.length) (h0 : 0 < n) : FldsO w g q l ∧ B ≤ g ∧ n ≤ q := by
  obtain ⟨h1, h2, h3⟩ := FldsAt.of_own h hn h0
  subst hn
  exact ⟨⟨h1, own_base h⟩, h2, h3⟩
theorem FldsO.lt {w : World} {g q : Nat} {l : List Fld} (h : FldsO w g q l) : g < w.heap.size := h.1.lt
theorem FldsO.kp {p : Nat → Prop} {w w' : World} {g q : Nat} {l : List Fld} (h : FldsO w g q l) (hx : KP p w w') (hg : ¬ p g) : FldsO w' g q l :=
  ⟨h.1.kp hx hg, own_keep h.2 (fun j hj => by
    have e : g = j := by simpa [Value.ownBlock] using hj
    subst e
    exact hx.block g h.1.lt hg)⟩
theorem FldsO.ext {w w' : World} {g q : Nat} {l : List Fld} (h : FldsO w g q l) (hx : Ext w w') : FldsO w' g q l :=
  h.kp (p := fun _ => False) ⟨hx.os, hx.tape, hx.output, hx.size, fun _ hk _ => hx.heap hk⟩ (fun h => h)
theorem FldsO.keepTo {W1 w w' : World} {g q : Nat} {l : List Fld} (_ : Hid (Ext W1 w')) (h : FldsO w g q l) (hx : Ext w w') : FldsO w' g q l := h.ext hx
/-- The first fields, with room for the others. -/
theorem FldsO.take {w : World} {g q k : Nat} {l : List Fld} (h : FldsO w g q l) (hk : k ≤ l.length) : w.ownsRow g 45 9 (.slice (some ⟨g, 0, none⟩) k q) k ((l.take k).flatMap (fun x => x.c.cs)) := by
  refine ⟨by rw [flds_flat]; simp; omega, ?_⟩
  rcases h.2.2 with ⟨h1, h2⟩ | ⟨g', cap, cur, h1, h2, h3, h4, h5, h6, h7⟩
  · simp at h1
  · simp only [Value.slice.injEq, Option.some.injEq, Addr.mk.injEq, and_true, true_and] at h1
    obtain ⟨rfl, rfl⟩ := h1
    refine .inr ⟨_, _, cur, rfl, Nat.le_refl _, h3, by omega, h5, h6, ?_⟩
    have e : l.flatMap (fun x => x.c.cs) = (l.take k).flatMap (fun x => x.c.cs) ++ (l.drop k).flatMap (fun x => x.c.cs) := by rw [← List.flatMap_append, List.take_append_drop]
    have e2 : ((l.take k).flatMap (fun x => x.c.cs)).length = k * 9 := by rw [flds_flat]; simp; omega
    have h8 := congrArg (List.take (k * 9)) h7
    rw [List.take_take, e, List.take_left' e2] at h8
    rw [show min (k * 9) (l.length * 9) = k * 9 by omega] at h8
    exact h8

set_option maxRecDepth 100000 in
set_option maxHeartbeats 4000000 in
theorem changedU_own (c : Cas) (a1 : Option Addr) (n1 c1 : Nat) (day fee : Int) (a2 : Option Addr) (n2 c2 : Nat) (w : World) (hv : CasV w (.agg #[.slice a1 n1 c1, .int .i64 day, .int .i64 fee, .slice a2 n2 c2]) c) (hn : n2 = c.flds.length) (h0 : 0 < n2) (h3 : n2 ≤ 3) :
    Calls Tryz.prog 41 #[.agg #[.slice a1 n1 c1, .int .i64 day, .int .i64 fee, .slice a2 n2 c2]] w fun e w' => ∃ g q, e = .returned (.agg #[.slice a1 n1 c1, .int .i64 day, .int .i64 fee, .slice (some ⟨g, 0, none⟩) n2 q]) ∧ FldsO w' g q c.flds ∧ w.heap.size ≤ g ∧ n2 ≤ q ∧ Ext w w' := by
  obtain ⟨i9, hi9, hz90, hz91, hz92⟩ := info_parts info_rfld
  have hcl : ∃ b off, a2 = some ⟨b, off, none⟩ := by
    obtain ⟨b, off, e, -⟩ := hv.fld_at (i := 0) (by omega)
    exact ⟨b, off, e⟩
  obtain ⟨b, off, rfl⟩ := hcl
  have HCL : Hid (∀ W, Ext w W → ∀ j u, (c.flds.flatMap (fun x => x.c.cs))[j]? = some u → W.cell? ((⟨b, off, none⟩ : Addr).add j) = some u) := Lib.hid (fun W hx => flds_cells (fun i hi => by
    obtain ⟨b', off', e, hc⟩ := hv.fld_at hi
    simp only [Option.some.injEq, Addr.mk.injEq, and_true] at e
    obtain ⟨rfl, rfl⟩ := e
    exact hc.ext hx _ _ _))
  have HFL : Hid ((c.flds.flatMap (fun x => x.c.cs)).length = n2 * 9) := Lib.hid (by rw [flds_flat, hn])
  have HONE := Lib.hid (flds_one c.flds)
  have HOF := Lib.hid (fun (W : World) (B g q : Nat) (h : W.ownsRow B 45 9 (.slice (some ⟨g, 0, none⟩) n2 q) n2 (c.flds.flatMap (fun x => x.c.cs))) => (FldsO.of_own h hn h0 : FldsO W g q c.flds ∧ B ≤ g ∧ n2 ≤ q))
  clear hv hn
  generalize c.flds.flatMap (fun x => x.c.cs) = us at *
  generalize c.flds = fl at *
  go_enter Tryz.func41, Tryz.ntmps41
  go_wp2_with (at_builtin; refine wpList_append_own_at _ rfl _ _ 23 rfl (w.heap.size + 1 + 1 + 1) 45 i9 (.agg #[.int .i64 0, .int .i64 0, .int .i64 0, .int .i64 0, .int .i64 0, .int .i64 0, .int .i64 0, .int .i64 0, .int .i64 0]) 9 72 Tryz.underlying23 hi9 hz90 hz91 hz92 rfl (by decide) (.slice (some ⟨w.heap.size + 1 + 1 + 1, 0, none⟩) 0 0) 0 [] rfl ?own ⟨b, off, none⟩ n2 c2 us rfl HFL.out (HCL.out _ (by (repeat (first | exact Ext.refl _ | (with_reducible assumption) | (with_reducible refine Ext.drew ?_) | (with_reducible refine Ext.alloc ?_ _) | (with_reducible refine Ext.drewN ?_ _) | (with_reducible refine Ext.setCell ?_ (by omega) _) | (with_reducible refine Ext.trans ?_ (by with_reducible assumption)))))) HONE.out ?f1 ?f2 ?f3 ?next)
  case own =>
    refine ⟨rfl, .inr ⟨_, 0, #[], rfl, Nat.le_refl _, ?_, Nat.le_refl _, by decide, rfl, rfl⟩⟩
    have := World.alloc_heap_new (((w.alloc (.cells #[.slice a1 n1 c1, .int .i64 day, .int .i64 fee, .slice (some ⟨b, off, none⟩) n2 c2] 25)).alloc (.cells #[.slice none 0 0, .int .i64 0, .int .i64 0, .slice none 0 0] 25)).alloc (.cells #[.slice a1 n1 c1, .int .i64 day, .int .i64 fee, .slice (some ⟨b, off, none⟩) n2 c2] 25)) (.cells #[] 45)
    simpa using this
  case f1 => simp only [maxLen]; omega
  case f2 => omega
  case f3 => simp
  case next =>
    intro v' w7 hown hgrow hnil hat
    have HK : KP (fun k => k = w.heap.size + 1 + 1 + 1) _ w7 := KP.grown hgrow (fun g hg => by
      simp only [Value.ownBlock, Option.some.injEq] at hg
      exact hg.symm)
    have X7 : Ext w w7 := HK.toExt (by (repeat (first | exact Ext.refl _ | (with_reducible assumption) | (with_reducible refine Ext.drew ?_) | (with_reducible refine Ext.alloc ?_ _) | (with_reducible refine Ext.drewN ?_ _) | (with_reducible refine Ext.setCell ?_ (by omega) _) | (with_reducible refine Ext.trans ?_ (by with_reducible assumption))))) (fun k hk => by omega)
    have z0 : w7.cell? ⟨w.heap.size + 1, 0, none⟩ = some (.slice none 0 0) := HK.keep (by omega) (by simp [go_sem])
    have z1 : w7.cell? ⟨w.heap.size + 1, 1, none⟩ = some (.int .i64 0) := HK.keep (by omega) (by simp [go_sem])
    have z2 : w7.cell? ⟨w.heap.size + 1, 2, none⟩ = some (.int .i64 0) := HK.keep (by omega) (by simp [go_sem])
    have z3 : w7.cell? ⟨w.heap.size + 1, 3, none⟩ = some (.slice none 0 0) := HK.keep (by omega) (by simp [go_sem])
    have y0 : w7.cell? ⟨w.heap.size + 1 + 1, 0, none⟩ = some (.slice a1 n1 c1) := HK.keep (by omega) (by simp [go_sem])
    have y1 : w7.cell? ⟨w.heap.size + 1 + 1, 1, none⟩ = some (.int .i64 day) := HK.keep (by omega) (by simp [go_sem])
    have y2 : w7.cell? ⟨w.heap.size + 1 + 1, 2, none⟩ = some (.int .i64 fee) := HK.keep (by omega) (by simp [go_sem])
    have y3 : w7.cell? ⟨w.heap.size + 1 + 1, 3, none⟩ = some (.slice (some ⟨b, off, none⟩) n2 c2) := HK.keep (by omega) (by simp [go_sem])
    have zf : ∀ o, w7.frozen? ⟨w.heap.size + 1, o, none⟩ = false := fun o => (HK.frozen (by simp) (by omega)).trans (by simp [go_sem])
    have yf : ∀ o, w7.frozen? ⟨w.heap.size + 1 + 1, o, none⟩ = false := fun o => (HK.frozen (by simp) (by omega)).trans (by simp [go_sem])
    clear HK hgrow hnil hat
    replace hown : w7.ownsRow (w.heap.size + 1 + 1 + 1) 45 9 v' n2 us := by simpa using hown
    rcases own_open hown with ⟨-, h1⟩ | ⟨g, cap, rfl, -, -, -, -⟩
    · omega
    · obtain ⟨hfl, hbg, hcap⟩ := HOF.out _ _ _ _ hown
      have HFA := Lib.hid hfl
      have hz3 : ∀ x, (w7.setCell ⟨w.heap.size + 1 + 1, 3, none⟩ x).cell? ⟨w.heap.size + 1 + 1, 0, none⟩ = some (.slice a1 n1 c1) ∧ (w7.setCell ⟨w.heap.size + 1 + 1, 3, none⟩ x).cell? ⟨w.heap.size + 1 + 1, 1, none⟩ = some (.int .i64 day) ∧ (w7.setCell ⟨w.heap.size + 1 + 1, 3, none⟩ x).cell? ⟨w.heap.size + 1 + 1, 2, none⟩ = some (.int .i64 fee) ∧ (w7.setCell ⟨w.heap.size + 1 + 1, 3, none⟩ x).cell? ⟨w.heap.size + 1 + 1, 3, none⟩ = some x ∧ (w7.setCell ⟨w.heap.size + 1 + 1, 3, none⟩ x).cell? ⟨w.heap.size + 1, 0, none⟩ = some (.slice none 0 0) ∧ (w7.setCell ⟨w.heap.size + 1 + 1, 3, none⟩ x).cell? ⟨w.heap.size + 1, 1, none⟩ = some (.int .i64 0) ∧ (w7.setCell ⟨w.heap.size + 1 + 1, 3, none⟩ x).cell? ⟨w.heap.size + 1, 2, none⟩ = some (.int .i64 0) ∧ (w7.setCell ⟨w.heap.size + 1 + 1, 3, none⟩ x).cell? ⟨w.heap.size + 1, 3, none⟩ = some (.slice none 0 0) ∧ ∀ o, (w7.setCell ⟨w.heap.size + 1 + 1, 3, none⟩ x).frozen? ⟨w.heap.size + 1, o, none⟩ = false :=
        fun x => ⟨sc_ne' (.inr (by decide)) y0, sc_ne' (.inr (by decide)) y1, sc_ne' (.inr (by decide)) y2, sc_eq' y3, sc_ne' (.inl (by omega)) z0, sc_ne' (.inl (by omega)) z1, sc_ne' (.inl (by omega)) z2, sc_ne' (.inl (by omega)) z3, fun o => by rw [World.frozen?_setCell]; exact zf o⟩
      have K7 : ∀ x, KP (fun k => k < w.heap.size + 1 + 1 + 1) w7 (w7.setCell ⟨w.heap.size + 1 + 1, 3, none⟩ x) := fun x => (KP.refl _).setCell (p := fun k => k < w.heap.size + 1 + 1 + 1) (by omega) x
      have X8 : ∀ x, Ext w (w7.setCell ⟨w.heap.size + 1 + 1, 3, none⟩ x) := fun x => X7.setCell (by omega) x
      have HZ := Lib.hid hz3
      have HK7 := Lib.hid K7
      have HX8 := Lib.hid X8
      clear hz3 K7 X8 hown hfl z0 z1 z2 z3 y0 y1 y2 zf X7
      go_upto_region 3 with fail
      obtain ⟨r0, r1, r2, r3, s0, s1, s2, s3, sf⟩ := HZ.out (.slice (some ⟨g, 0, none⟩) n2 cap)
      have hk7 := HK7.out (.slice (some ⟨g, 0, none⟩) n2 cap)
      have hx8 := HX8.out (.slice (some ⟨g, 0, none⟩) n2 cap)
      clear HZ HK7 HX8 yf y3
      generalize w7.setCell ⟨w.heap.size + 1 + 1, 3, none⟩ (.slice (some ⟨g, 0, none⟩) n2 cap) = w8 at *
      go_wp2_with fail
      refine bodyPost_ret (v := .agg #[.slice a1 n1 c1, .int .i64 day, .int .i64 fee, .slice (some ⟨g, 0, none⟩) n2 cap]) (by simp [results, Tryz.results41, go_sem, s0, s1, s2, s3]) rfl ⟨g, cap, rfl, ?_, by omega, hcap, ?_⟩
      · refine (HFA.out.kp hk7 (by omega)).kp (p := fun k => k < w.heap.size + 1 + 1 + 1) (KP.setCell (p := fun k => k < w.heap.size + 1 + 1 + 1) (KP.setCell (p := fun k => k < w.heap.size + 1 + 1 + 1) (KP.setCell (p := fun k => k < w.heap.size + 1 + 1 + 1) (KP.setCell (p := fun k => k < w.heap.size + 1 + 1 + 1) (KP.refl _) (by omega) _) (by omega) _) (by omega) _) (by omega) _) (by omega)
      · (repeat (first | exact Ext.refl _ | (with_reducible assumption) | (with_reducible refine Ext.drew ?_) | (with_reducible refine Ext.alloc ?_ _) | (with_reducible refine Ext.drewN ?_ _) | (with_reducible refine Ext.setCell ?_ (by omega) _) | (with_reducible refine Ext.trans ?_ (by with_reducible assumption))))
end Go.Proofs.YtbmjnilcinfdiaaGreat
