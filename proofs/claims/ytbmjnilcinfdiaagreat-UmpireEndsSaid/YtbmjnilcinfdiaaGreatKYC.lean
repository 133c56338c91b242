/- Contracts of layer 7's law: a case with other fields. -/
import Derived.Test.YtbmjnilcinfdiaaGreatKVT
import Derived.Test.YtbmjnilcinfdiaaGreatKXB
set_option linter.unusedSimpArgs false
set_option linter.unusedVariables false
namespace Go.Hs
open Go.RowKit Go.Proofs.YtbmjnilcinfdiaaGreat
/-- A block that holds fields. -/
structure FldsAt (w : World) (g : Nat) (l : List Fld) : Prop where
  cells : ∀ i (h : i < l.length), Cell9 w g (i * 9) (l[i]).c
  fr : ∀ o, w.frozen? ⟨g, o, none⟩ = false
  lt : g < w.heap.size
theorem FldsAt.ext {w w' : World} {g : Nat} {l : List Fld} (h : FldsAt w g l) (hx : Ext w w') : FldsAt w' g l :=
  ⟨fun i hi => (h.cells i hi).ext hx _ _ _, fun o => (hx.frozen h.lt).trans (h.fr o), Nat.lt_of_lt_of_le h.lt hx.size⟩
theorem FldsAt.kp {p : Nat → Prop} {w w' : World} {g : Nat} {l : List Fld} (h : FldsAt w g l) (hx : KP p w w') (hg : ¬ p g) : FldsAt w' g l :=
  ⟨fun i hi => by
    obtain ⟨h0, h1, h2, h3, h4, h5, h6, h7, h8⟩ := h.cells i hi
    exact ⟨hx.keep hg h0, hx.keep hg h1, hx.keep hg h2, hx.keep hg h3, hx.keep hg h4, hx.keep hg h5, hx.keep hg h6, hx.keep hg h7, hx.keep hg h8⟩, fun o => (hx.frozen h.lt hg).trans (h.fr o), Nat.lt_of_lt_of_le h.lt hx.size⟩
theorem FldsAt.slice {w : World} {g q : Nat} {l : List Fld} (h : FldsAt w g l) (hq : l.length ≤ q) (hl : l.length ≤ 1000) : FldsV w (.slice (some ⟨g, 0, none⟩) l.length q) l :=
  ⟨some ⟨g, 0, none⟩, q, rfl, hq, hl, fun i hi => ⟨g, 0, rfl, by
    have hi' : i < l.length := by simpa using hi
    have e1 : (l.map Fld.c)[i] = (l[i]).c := by simp
    rw [e1, Nat.zero_add]
    exact h.cells i hi'⟩⟩
theorem FldsAt.of_own {w : World} {B e g n q : Nat} {l : List Fld} (h : w.ownsRow B e 9 (.slice (some ⟨g, 0, none⟩) n q) n (l.flatMap (fun x => x.c.cs))) (hn : n = l.length) (h0 : 0 < n) : FldsAt w g l ∧ B ≤ g ∧ n ≤ q := by
  have hlt := own_lt h (g := g) rfl
  have hfr : ∀ o, w.frozen? ⟨g, o, none⟩ = false := by
    obtain ⟨-, h2⟩ := h
    rcases h2 with ⟨h2, -⟩ | ⟨g', cap, cur, he, -, hh, -⟩
    · simp at h2
    · simp only [Value.slice.injEq, Option.some.injEq, Addr.mk.injEq, and_true] at he
      obtain ⟨rfl, -, -⟩ := he
      intro o
      simp [World.frozen?, hh]
  rcases own_open h with ⟨-, h1⟩ | ⟨g', cap, he, hb, hg, hnc, hc⟩
  · omega
  · simp only [Value.slice.injEq, Option.some.injEq, Addr.mk.injEq, and_true, true_and] at he
    obtain ⟨rfl, rfl⟩ := he
    refine ⟨⟨fun i hi => ?_, hfr, hlt.2⟩, hb, hnc⟩
    have f := fun j hj => flat_at (C := fun x : Fld => x.c.cs) (k := 9) (fun _ => rfl) l i j hi hj
    exact ⟨hc _ _ (f 0 (by decide)), hc _ _ (f 1 (by decide)), hc _ _ (f 2 (by decide)), hc _ _ (f 3 (by decide)), hc _ _ (f 4 (by decide)), hc _ _ (f 5 (by decide)), hc _ _ (f 6 (by decide)), hc _ _ (f 7 (by decide)), hc _ _ (f 8 (by decide))⟩
/-- One cell of a field is changed. -/
theorem FldsAt.put {w : World} {g i j : Nat} {l : List Fld} {f : Fld} {x : Value} (h : FldsAt w g l) (hi : i < l.length) (hj : j < 9)
    (hf : ∀ m, m < 9 → f.c.cs[m]? = if m = j then some x else (l[i]).c.cs[m]?) : FldsAt (w.setCell ⟨g, i * 9 + j, none⟩ x) g (l.set i f) := by
  refine ⟨fun k hk => ?_, fun o => by rw [World.frozen?_setCell]; exact h.fr o, by rw [World.size_setCell]; exact h.lt⟩
  have hk' : k < l.length := by simpa using hk
  obtain ⟨h0, h1, h2, h3, h4, h5, h6, h7, h8⟩ := h.cells k hk'
  by_cases e : i = k
  · subst e
    have e1 : (l.set i f)[i] = f := by simp
    rw [e1]
    have key : ∀ m y z, m < 9 → (l[i]).c.cs[m]? = some y → w.cell? ⟨g, i * 9 + m, none⟩ = some y → f.c.cs[m]? = some z → (w.setCell ⟨g, i * 9 + j, none⟩ x).cell? ⟨g, i * 9 + m, none⟩ = some z := by
      intro m y z hm hy hc hz
      rw [hf m hm] at hz
      by_cases em : m = j
      · subst em
        rw [if_pos rfl] at hz
        cases hz
        exact sc_eq' hc
      · rw [if_neg em, hy] at hz
        cases hz
        exact sc_ne' (.inr (by omega)) hc
    exact ⟨key 0 _ _ (by decide) rfl h0 rfl, key 1 _ _ (by decide) rfl h1 rfl, key 2 _ _ (by decide) rfl h2 rfl, key 3 _ _ (by decide) rfl h3 rfl, key 4 _ _ (by decide) rfl h4 rfl, key 5 _ _ (by decide) rfl h5 rfl, key 6 _ _ (by decide) rfl h6 rfl, key 7 _ _ (by decide) rfl h7 rfl, key 8 _ _ (by decide) rfl h8 rfl⟩
  · have e1 : (l.set i f)[k] = l[k] := by simp [e]
    rw [e1]
    exact ⟨sc_ne' (.inr (by omega)) h0, sc_ne' (.inr (by omega)) h1, sc_ne' (.inr (by omega)) h2, sc_ne' (.inr (by omega)) h3, sc_ne' (.inr (by omega)) h4, sc_ne' (.inr (by omega)) h5, sc_ne' (.inr (by omega)) h6, sc_ne' (.inr (by omega)) h7, sc_ne' (.inr (by omega)) h8⟩
/-- Two fields' lists that are one. -/
theorem CasV.with {w : World} {v0 v3 : Value} {day fee : Int} {c : Cas} (h : CasV w (.agg #[v0, .int .i64 day, .int .i64 fee, v3]) c) {w' : World} (hx : Ext w w') {v : Value} {l : List Fld} (hl : FldsV w' v l) : CasV w' (.agg #[v0, .int .i64 day, .int .i64 fee, v]) (c.withF l) := by
  obtain ⟨vt, vf, e, h1, h2⟩ := h
  simp only [Value.agg.injEq, Array.mk.injEq, List.cons.injEq, and_true, Value.int.injEq, true_and] at e
  obtain ⟨rfl, rfl, rfl, rfl⟩ := e
  exact ⟨_, _, rfl, TarsV.ext hx h1, hl⟩
theorem flds_flat (l : List Fld) : (l.flatMap (fun x => x.c.cs)).length = l.length * 9 := by
  induction l with
  | nil => rfl
  | cons f l ih => rw [List.flatMap_cons, List.length_append, ih, List.length_cons]; simp only [V9.cs, List.length_cons, List.length_nil]; omega
theorem flds_one (l : List Fld) : ∀ u ∈ l.flatMap (fun x => x.c.cs), u.oneCell' = true := by
  intro u hu
  obtain ⟨f, -, hu⟩ := List.mem_flatMap.1 hu
  simp only [V9.cs, Fld.c, List.mem_cons, List.not_mem_nil, or_false] at hu
  rcases hu with rfl | rfl | rfl | rfl | rfl | rfl | rfl | rfl | rfl <;> rfl
theorem flds_cells {w : World} {b off : Nat} {l : List Fld} (h : ∀ i (hi : i < l.length), Cell9 w b (off + i * 9) (l[i]).c) : ∀ j u, (l.flatMap (fun x => x.c.cs))[j]? = some u → w.cell? ((⟨b, off, none⟩ : Addr).add j) = some u := by
  intro j u hu
  have hj : j < l.length * 9 := by
    have := List.getElem?_eq_some_iff.1 hu
    obtain ⟨h1, -⟩ := this
    rw [flds_flat] at h1
    omega
  have hi : j / 9 < l.length := by omega
  have hm : j % 9 < 9 := Nat.mod_lt _ (by decide)
  have e := flat_at (C := fun x : Fld => x.c.cs) (k := 9) (fun _ => rfl) l (j / 9) (j % 9) hi hm
  rw [show j / 9 * 9 + j % 9 = j by omega] at e
  rw [e] at hu
  have ea : ((⟨b, off, none⟩ : Addr).add j) = ⟨b, off + (j / 9) * 9 + j % 9, none⟩ := by
    have : off + j = off + j / 9 * 9 + j % 9 := by omega
    rw [← this]; simp [Addr.add]
  rw [ea]
  obtain ⟨h0, h1, h2, h3, h4, h5, h6, h7, h8⟩ := h (j / 9) hi
  have : j % 9 = 0 ∨ j % 9 = 1 ∨ j % 9 = 2 ∨ j % 9 = 3 ∨ j % 9 = 4 ∨ j % 9 = 5 ∨ j % 9 = 6 ∨ j % 9 = 7 ∨ j % 9 = 8 := by omega
  rcases this with k | k | k | k | k | k | k | k | k <;> rw [k] at hu ⊢ <;> simp only [V9.cs, List.getElem?_cons_zero, List.getElem?_cons_succ, Option.some.injEq] at hu <;> subst hu <;> assumption
end Go.Hs
namespace Go.Proofs.YtbmjnilcinfdiaaGreat
open Go.RowKit Go.Hs
attribute [local irreducible] World.setCell World.alloc
theorem info_rfld : (Tryz.prog.info? 45).map (fun i => (i.zero, i.size, i.bytes)) = some (some (.agg #[.int .i64 0, .int .i64 0, .int .i64 0, .int .i64 0, .int .i64 0, .int .i64 0, .int .i64 0, .int .i64 0, .int .i64 0]), 9, 72) := by kernel_rfl

set_option maxRecDepth 100000 in
set_option maxHeartbeats 4000000 in
theorem changedU_any (c : Cas) (a1 : Option Addr) (n1 c1 : Nat) (day fee : Int) (a2 : Option Addr) (n2 c2 : Nat) (w : World) (hv : CasV w (.agg #[.slice a1 n1 c1, .int .i64 day, .int .i64 fee, .slice a2 n2 c2]) c) (hn : n2 = c.flds.length) (h0 : 0 < n2) (h3 : n2 ≤ 3) :
    Calls Tryz.prog 41 #[.agg #[.slice a1 n1 c1, .int .i64 day, .int .i64 fee, .slice a2 n2 c2]] w fun e w' => ∃ g q, e = .returned (.agg #[.slice a1 n1 c1, .int .i64 day, .int .i64 fee, .slice (some ⟨g, 0, none⟩) n2 q]) ∧ FldsAt w' g c.flds ∧ w.heap.size ≤ g ∧ n2 ≤ q ∧ Ext w w' := by
  obtain ⟨i9, hi9, hz90, hz91, hz92⟩ := info_parts info_rfld
  have hcl : ∃ b off, a2 = some ⟨b, off, none⟩ := by
    obtain ⟨b, off, e, -⟩ := hv.fld_at (i := 0) (by omega)
    exact ⟨b, off, e⟩
  obtain ⟨b, off, rfl⟩ := hcl
  have HCL : Hid (∀ W, Ext w W → ∀ j u, (c.flds.flatMap (fun x => x.c.cs))[j]? = some u → W.cell? ((⟨b, off, none⟩ : Addr).add j) = some u) := Lib.hid (fun W hx => flds_cells (fun i hi => by
    obtain ⟨b', off', e, hc⟩ := hv.fld_at hi
    simp only [Option.some.injEq, Addr.mk.injEq, and_true] at e
    obtain ⟨rfl, rfl⟩ := e
    exact hc.ext hx _ _ _))
  have HFL : Hid ((c.flds.flatMap (fun x => x.c.cs)).length = n2 * 9) := Lib.hid (by rw [flds_flat, hn])
  have HONE := Lib.hid (flds_one c.flds)
  have HOF := Lib.hid (fun (W : World) (B g q : Nat) (h : W.ownsRow B 45 9 (.slice (some ⟨g, 0, none⟩) n2 q) n2 (c.flds.flatMap (fun x => x.c.cs))) => FldsAt.of_own h hn h0)
  clear hv hn
  generalize c.flds.flatMap (fun x => x.c.cs) = us at *
  generalize c.flds = fl at *
  go_enter Tryz.func41, Tryz.ntmps41
  go_wp2_with (at_builtin; refine wpList_append_own_at _ rfl _ _ 23 rfl (w.heap.size + 1 + 1 + 1) 45 i9 (.agg #[.int .i64 0, .int .i64 0, .int .i64 0, .int .i64 0, .int .i64 0, .int .i64 0, .int .i64 0, .int .i64 0, .int .i64 0]) 9 72 Tryz.underlying23 hi9 hz90 hz91 hz92 rfl (by decide) (.slice (some ⟨w.heap.size + 1 + 1 + 1, 0, none⟩) 0 0) 0 [] rfl ?own ⟨b, off, none⟩ n2 c2 us rfl HFL.out (HCL.out _ (by (repeat (first | exact Ext.refl _ | (with_reducible assumption) | (with_reducible refine Ext.drew ?_) | (with_reducible refine Ext.alloc ?_ _) | (with_reducible refine Ext.drewN ?_ _) | (with_reducible refine Ext.setCell ?_ (by omega) _) | (with_reducible refine Ext.trans ?_ (by with_reducible assumption)))))) HONE.out ?f1 ?f2 ?f3 ?next)
  case own =>
    refine ⟨rfl, .inr ⟨_, 0, #[], rfl, Nat.le_refl _, ?_, Nat.le_refl _, by decide, rfl, rfl⟩⟩
    have := World.alloc_heap_new (((w.alloc (.cells #[.slice a1 n1 c1, .int .i64 day, .int .i64 fee, .slice (some ⟨b, off, none⟩) n2 c2] 25)).alloc (.cells #[.slice none 0 0, .int .i64 0, .int .i64 0, .slice none 0 0] 25)).alloc (.cells #[.slice a1 n1 c1, .int .i64 day, .int .i64 fee, .slice (some ⟨b, off, none⟩) n2 c2] 25)) (.cells #[] 45)
    simpa using this
  case f1 => simp only [maxLen]; omega
  case f2 => omega
  case f3 => simp
  case next =>
    intro v' w7 hown hgrow hnil hat
    have HK : KP (fun k => k = w.heap.size + 1 + 1 + 1) _ w7 := KP.grown hgrow (fun g hg => by
      simp only [Value.ownBlock, Option.some.injEq] at hg
      exact hg.symm)
    have X7 : Ext w w7 := HK.toExt (by (repeat (first | exact Ext.refl _ | (with_reducible assumption) | (with_reducible refine Ext.drew ?_) | (with_reducible refine Ext.alloc ?_ _) | (with_reducible refine Ext.drewN ?_ _) | (with_reducible refine Ext.setCell ?_ (by omega) _) | (with_reducible refine Ext.trans ?_ (by with_reducible assumption))))) (fun k hk => by omega)
    have z0 : w7.cell? ⟨w.heap.size + 1, 0, none⟩ = some (.slice none 0 0) := HK.keep (by omega) (by simp [go_sem])
    have z1 : w7.cell? ⟨w.heap.size + 1, 1, none⟩ = some (.int .i64 0) := HK.keep (by omega) (by simp [go_sem])
    have z2 : w7.cell? ⟨w.heap.size + 1, 2, none⟩ = some (.int .i64 0) := HK.keep (by omega) (by simp [go_sem])
    have z3 : w7.cell? ⟨w.heap.size + 1, 3, none⟩ = some (.slice none 0 0) := HK.keep (by omega) (by simp [go_sem])
    have y0 : w7.cell? ⟨w.heap.size + 1 + 1, 0, none⟩ = some (.slice a1 n1 c1) := HK.keep (by omega) (by simp [go_sem])
    have y1 : w7.cell? ⟨w.heap.size + 1 + 1, 1, none⟩ = some (.int .i64 day) := HK.keep (by omega) (by simp [go_sem])
    have y2 : w7.cell? ⟨w.heap.size + 1 + 1, 2, none⟩ = some (.int .i64 fee) := HK.keep (by omega) (by simp [go_sem])
    have y3 : w7.cell? ⟨w.heap.size + 1 + 1, 3, none⟩ = some (.slice (some ⟨b, off, none⟩) n2 c2) := HK.keep (by omega) (by simp [go_sem])
    have zf : ∀ o, w7.frozen? ⟨w.heap.size + 1, o, none⟩ = false := fun o => (HK.frozen (by simp) (by omega)).trans (by simp [go_sem])
    have yf : ∀ o, w7.frozen? ⟨w.heap.size + 1 + 1, o, none⟩ = false := fun o => (HK.frozen (by simp) (by omega)).trans (by simp [go_sem])
    clear HK hgrow hnil hat
    replace hown : w7.ownsRow (w.heap.size + 1 + 1 + 1) 45 9 v' n2 us := by simpa using hown
    rcases own_open hown with ⟨-, h1⟩ | ⟨g, cap, rfl, -, -, -, -⟩
    · omega
    · obtain ⟨hfl, hbg, hcap⟩ := HOF.out _ _ _ _ hown
      have HFA := Lib.hid hfl
      have hz3 : ∀ x, (w7.setCell ⟨w.heap.size + 1 + 1, 3, none⟩ x).cell? ⟨w.heap.size + 1 + 1, 0, none⟩ = some (.slice a1 n1 c1) ∧ (w7.setCell ⟨w.heap.size + 1 + 1, 3, none⟩ x).cell? ⟨w.heap.size + 1 + 1, 1, none⟩ = some (.int .i64 day) ∧ (w7.setCell ⟨w.heap.size + 1 + 1, 3, none⟩ x).cell? ⟨w.heap.size + 1 + 1, 2, none⟩ = some (.int .i64 fee) ∧ (w7.setCell ⟨w.heap.size + 1 + 1, 3, none⟩ x).cell? ⟨w.heap.size + 1 + 1, 3, none⟩ = some x ∧ (w7.setCell ⟨w.heap.size + 1 + 1, 3, none⟩ x).cell? ⟨w.heap.size + 1, 0, none⟩ = some (.slice none 0 0) ∧ (w7.setCell ⟨w.heap.size + 1 + 1, 3, none⟩ x).cell? ⟨w.heap.size + 1, 1, none⟩ = some (.int .i64 0) ∧ (w7.setCell ⟨w.heap.size + 1 + 1, 3, none⟩ x).cell? ⟨w.heap.size + 1, 2, none⟩ = some (.int .i64 0) ∧ (w7.setCell ⟨w.heap.size + 1 + 1, 3, none⟩ x).cell? ⟨w.heap.size + 1, 3, none⟩ = some (.slice none 0 0) ∧ ∀ o, (w7.setCell ⟨w.heap.size + 1 + 1, 3, none⟩ x).frozen? ⟨w.heap.size + 1, o, none⟩ = false :=
        fun x => ⟨sc_ne' (.inr (by decide)) y0, sc_ne' (.inr (by decide)) y1, sc_ne' (.inr (by decide)) y2, sc_eq' y3, sc_ne' (.inl (by omega)) z0, sc_ne' (.inl (by omega)) z1, sc_ne' (.inl (by omega)) z2, sc_ne' (.inl (by omega)) z3, fun o => by rw [World.frozen?_setCell]; exact zf o⟩
      have K7 : ∀ x, KP (fun k => k < w.heap.size + 1 + 1 + 1) w7 (w7.setCell ⟨w.heap.size + 1 + 1, 3, none⟩ x) := fun x => (KP.refl _).setCell (p := fun k => k < w.heap.size + 1 + 1 + 1) (by omega) x
      have X8 : ∀ x, Ext w (w7.setCell ⟨w.heap.size + 1 + 1, 3, none⟩ x) := fun x => X7.setCell (by omega) x
      have HZ := Lib.hid hz3
      have HK7 := Lib.hid K7
      have HX8 := Lib.hid X8
      clear hz3 K7 X8 hown hfl z0 z1 z2 z3 y0 y1 y2 zf X7
      go_upto_region 3 with fail
      obtain ⟨r0, r1, r2, r3, s0, s1, s2, s3, sf⟩ := HZ.out (.slice (some ⟨g, 0, none⟩) n2 cap)
      have hk7 := HK7.out (.slice (some ⟨g, 0, none⟩) n2 cap)
      have hx8 := HX8.out (.slice (some ⟨g, 0, none⟩) n2 cap)
      clear HZ HK7 HX8 yf y3
      generalize w7.setCell ⟨w.heap.size + 1 + 1, 3, none⟩ (.slice (some ⟨g, 0, none⟩) n2 cap) = w8 at *
      go_wp2_with fail
      refine bodyPost_ret (v := .agg #[.slice a1 n1 c1, .int .i64 day, .int .i64 fee, .slice (some ⟨g, 0, none⟩) n2 cap]) (by simp [results, Tryz.results41, go_sem, s0, s1, s2, s3]) rfl ⟨g, cap, rfl, ?_, by omega, hcap, ?_⟩
      · refine (HFA.out.kp hk7 (by omega)).kp (p := fun k => k < w.heap.size + 1 + 1 + 1) (KP.setCell (p := fun k => k < w.heap.size + 1 + 1 + 1) (KP.setCell (p := fun k => k < w.heap.size + 1 + 1 + 1) (KP.setCell (p := fun k => k < w.heap.size + 1 + 1 + 1) (KP.setCell (p := fun k => k < w.heap.size + 1 + 1 + 1) (KP.refl _) (by omega) _) (by omega) _) (by omega) _) (by omega) _) (by omega)
      · (repeat (first | exact Ext.refl _ | (with_reducible assumption) | (with_reducible refine Ext.drew ?_) | (with_reducible refine Ext.alloc ?_ _) | (with_reducible refine Ext.drewN ?_ _) | (with_reducible refine Ext.setCell ?_ (by omega) _) | (with_reducible refine Ext.trans ?_ (by with_reducible assumption))))
end Go.Proofs.YtbmjnilcinfdiaaGreat
