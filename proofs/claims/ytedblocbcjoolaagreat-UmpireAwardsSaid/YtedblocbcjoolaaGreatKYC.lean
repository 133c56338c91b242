/- Contracts of layer 7's law: a case with other fields. -/
import Derived.Test.YtedblocbcjoolaaGreatKVT
import Derived.Test.YtedblocbcjoolaaGreatKXB
set_option linter.unusedSimpArgs false
set_option linter.unusedVariables false
namespace Go.Hs
open Go.RowKit Go.Proofs.YtedblocbcjoolaaGreat
/-- A block that holds fields. -/
structure FldsAt (w : World) (g : Nat) (l : List Fld) : Prop where
  cells : ∀ i (h : i < l.length), Cell9 w g (i * 9) (l[i]).c
  fr : ∀ o, w.frozen? ⟨g, o, none⟩ = false
  lt : g < w.heap.size
theorem FldsAt.ext {w w' : World} {g : Nat} {l : List Fld} (h : FldsAt w g l) (hx : Ext w w') : FldsAt w' g l :=
  ⟨fun i hi => (h.cells i hi).ext hx _ _ _, fun o => (hx.frozen h.lt).trans (h.fr o), Nat.lt_of_lt_of_le h.lt hx.size⟩
theorem FldsAt.kp {p : Nat → Prop} {w w' : World} {g : Nat} {l : List Fld} (h : FldsAt w g l) (hx : KP p w w') (hg : ¬ p g) : FldsAt w' g l :=
  ⟨fun i hi => by
    obtain ⟨h0, h1, h2, h3, h4, h5, h6, h7, h8⟩ := h.cells i hi
    exact ⟨hx.keep hg h0, hx.keep hg h1, hx.keep hg h2, hx.keep hg h3, hx.keep hg h4, hx.keep hg h5, hx.keep hg h6, hx.keep hg h7, hx.keep hg h8⟩, fun o => (hx.frozen h.lt hg).trans (h.fr o), Nat.lt_of_lt_of_le h.lt hx.size⟩
theorem FldsAt.slice {w : World} {g q : Nat} {l : List Fld} (h : FldsAt w g l) (hq : l.length ≤ q) (hl : l.length ≤ 1000) : FldsV w (.slice (some ⟨g, 0, none⟩) l.length q) l :=
  ⟨some ⟨g, 0, none⟩, q, rfl, hq, hl, fun i hi => ⟨g, 0, rfl, by
    have hi' : i < l.length := by simpa using hi
    have e1 : (l.map Fld.c)[i] = (l[i]).c := by simp
    rw [e1, Nat.zero_add]
    exact h.cells i hi'⟩⟩
theorem FldsAt.of_own {w : World} {B e g n q : Nat} {l : List Fld} (h : w.ownsRow B e 9 (.slice (some ⟨g, 0, none⟩) n q) n (l.flatMap (fun x => x.c.cs))) (hn : n = l.length) (h0 : 0 < n) : FldsAt w g l ∧ B ≤ g ∧ n ≤ q := by
  have hlt := own_lt h (g := g) rfl
  have hfr : ∀ o, w.frozen? ⟨g, o, none⟩ = false := by
    obtain ⟨-, h2⟩ := h
    rcases h2 with ⟨h2, -⟩ | ⟨g', cap, cur, he, -, hh, -⟩
    · simp at h2
    · simp only [Value.slice.injEq, Option.some.injEq, Addr.mk.injEq, and_true] at he
      obtain ⟨rfl, -, -⟩ := he
      intro o
      simp [World.frozen?, hh]
  rcases own_open h with ⟨-, h1⟩ | ⟨g', cap, he, hb, hg, hnc, hc⟩
  · omega
  · simp only [Value.slice.injEq, Option.some.injEq, Addr.mk.injEq, and_true, true_and] at he
    obtain ⟨rfl, rfl⟩ := he
    refine ⟨⟨fun i hi => ?_, hfr, hlt.2⟩, hb, hnc⟩
    have f := fun j hj => flat_at (C := fun x : Fld => x.c.cs) (k := 9) (fun _ => rfl) l i j hi hj
    exact ⟨hc _ _ (f 0 (by decide)), hc _ _ (f 1 (by decide)), hc _ _ (f 2 (by decide)), hc _ _ (f 3 (by decide)), hc _ _ (f 4 (by decide)), hc _ _ (f 5 (by decide)), hc _ _ (f 6 (by decide)), hc _ _ (f 7 (by decide)), hc _ _ (f 8 (by decide))⟩
/-- One cell of a field is changed. -/
theorem FldsAt.put {w : World} {g i j : Nat} {l : List Fld} {f : Fld} {x : Value} (h : FldsAt w g l) (hi : i < l.length) (hj : j < 9)
    (hf : ∀ m, m < 9 → f.c.cs[m]? = if m = j then some x else (l[i]).c.cs[m]?) : FldsAt (w.setCell ⟨g, i * 9 + j, none⟩ x) g (l.set i f) := by
  refine ⟨fun k hk => ?_, fun o => by rw [World.frozen?_setCell]; exact h.fr o, by rw [World.size_setCell]; exact h.lt⟩
  have hk' : k < l.length := by simpa using hk
  obtain ⟨h0, h1, h2, h3, h4, h5, h6, h7, h8⟩ := h.cells k hk'
  by_cases e : i = k
  · subst e
    have e1 : (l.set i f)[i] = f := by simp
    rw [e1]
    have key : ∀ m y z, m < 9 → (l[i]).c.cs[m]? = some y → w.cell? ⟨g, i * 9 + m, none⟩ = some y → f.c.cs[m]? = some z → (w.setCell ⟨g, i * 9 + j, none⟩ x).cell? ⟨g, i * 9 + m, none⟩ = some z := by
      intro m y z hm hy hc hz
      rw [hf m hm] at hz
      by_cases em : m = j
      · subst em
        rw [if_pos rfl] at hz
        cases hz
        exact sc_eq' hc
      · rw [if_neg em, hy] at hz
        cases hz
        exact sc_ne' (.inr (by omega)) hc
    exact ⟨key 0 _ _ (by decide) rfl h0 rfl, key 1 _ _ (by decide) rfl h1 rfl, key 2 _ _ (by decide) rfl h2 rfl, key 3 _ _ (by decide) rfl h3 rfl, key 4 _ _ (by decide) rfl h4 rfl, key 5 _ _ (by decide) rfl h5 rfl, key 6 _ _ (by decide) rfl h6 rfl, key 7 _ _ (by decide) rfl h7 rfl, key 8 _ _ (by decide) rfl h8 rfl⟩
  · have e1 : (l.set i f)[k] = l[k] := by simp [e]
    rw [e1]
    exact ⟨sc_ne' (.inr (by omega)) h0, sc_ne' (.inr (by omega)) h1, sc_ne' (.inr (by omega)) h2, sc_ne' (.inr (by omega)) h3, sc_ne' (.inr (by omega)) h4, sc_ne' (.inr (by omega)) h5, sc_ne' (.inr (by omega)) h6, sc_ne' (.inr (by omega)) h7, sc_ne' (.inr (by omega)) h8⟩
/-- Two fields' lists that are one. -/
theorem CasV.with {w : World} {v0 v3 : Value} {day fee : Int} {c : Cas} (h : CasV w (.agg #[v0, .int .i64 day, .int .i64 fee, v3]) c) {w' : World} (hx : Ext w w') {v : Value} {l : List Fld} (hl : FldsV w' v l) : CasV w' (.agg #[v0, .int .i64 day, .int .i64 fee, v]) (c.withF l) := by
  obtain ⟨vt, vf, e, h1, h2⟩ := h
  simp only [Value.agg.injEq, Array.mk.injEq, List.cons.injEq, and_true, Value.int.injEq, true_and] at e
  obtain ⟨rfl, rfl, rfl, rfl⟩ := e
  exact ⟨_, _, rfl, TarsV.ext hx h1, hl⟩
theorem flds_flat (l : List Fld) : (l.flatMap (fun x => x.c.cs)).length = l.length * 9 := by
  induction l with
  | nil => rfl
  | cons f l ih => rw [List.flatMap_cons, List.length_append, ih, List.length_cons]; simp only [V9.cs, List.length_cons, List.length_nil]; omega
end Go.Hs
namespace Go.Proofs.YtedblocbcjoolaaGreat
open Go.RowKit Go.Hs
attribute [local irreducible] World.setCell World.alloc
end Go.Proofs.YtedblocbcjoolaaGreat
