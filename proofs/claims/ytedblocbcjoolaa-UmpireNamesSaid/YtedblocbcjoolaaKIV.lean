/- A region that draws its order, walked by an invariant: each operation once. Several boxes that are made and filled in whatever order. -/
import Derived.Deep.RegionHeld3
import Derived.Test.YtedblocbcjoolaaKB4
set_option linter.unusedSimpArgs false
set_option linter.unusedVariables false
namespace Go.Hs
open Go
section
variable {P : Program} {ops : Array Oper} {Q : Exit → Act → World → Prop} {md : Region.Mode} {S : World → Prop}
end
/-- A pointer once its box is made. -/
def pv (z : Value) : Option Nat → Value
  | some T => .pointer (some ⟨T, 0, none⟩)
  | none => z
/-- Boxes, some of which are not made yet. -/
structure BxI (W w : World) (x : List (Option Nat × List Value)) : Prop where
  ext : Ext W w
  ge : ∀ (i T : Nat) (cs : List Value), x[i]? = some (some T, cs) → W.heap.size ≤ T ∧ T < w.heap.size
  inj : ∀ (i j T : Nat) (cs ds : List Value), x[i]? = some (some T, cs) → x[j]? = some (some T, ds) → i = j
  cell : ∀ (i T : Nat) (cs : List Value), x[i]? = some (some T, cs) → ∀ (j : Nat) (u : Value), cs[j]? = some u → w.cell? ⟨T, j, none⟩ = some u
  fr : ∀ (i T : Nat) (cs : List Value), x[i]? = some (some T, cs) → ∀ (o : Nat), w.frozen? ⟨T, o, none⟩ = false
theorem BxI.more {W w w' : World} {x : List (Option Nat × List Value)} (h : BxI W w x) (hx : Ext w w') : BxI W w' x :=
  ⟨h.ext.trans hx, fun i T cs e => ⟨(h.ge i T cs e).1, Nat.lt_of_lt_of_le (h.ge i T cs e).2 hx.size⟩, h.inj, fun i T cs e j u hu => hx.keep (h.cell i T cs e j u hu), fun i T cs e o => (hx.frozen (h.ge i T cs e).2).trans (h.fr i T cs e o)⟩
theorem BxI.start {W w : World} {x : List (Option Nat × List Value)} (hx : Ext W w) (h : ∀ p ∈ x, p.1 = none) : BxI W w x := by
  have no : ∀ (i T : Nat) (cs : List Value), ¬ x[i]? = some (some T, cs) := fun i T cs e => by
    have := h _ (List.mem_of_getElem? e)
    cases this
  exact ⟨hx, fun i T cs e => absurd e (no i T cs), fun i j T cs ds e _ => absurd e (no i T cs), fun i T cs e => absurd e (no i T cs), fun i T cs e => absurd e (no i T cs)⟩
theorem BxI.store {W w w' : World} {x : List (Option Nat × List Value)} (h : BxI W w x) (i : Nat) {T : Nat} {cs ds : List Value} (hi : x[i]? = some (some T, cs))
    (hp : KP (fun j => j = T) w w') (hc : ∀ (j : Nat) (u : Value), ds[j]? = some u → w'.cell? ⟨T, j, none⟩ = some u) (hf : ∀ o, w'.frozen? ⟨T, o, none⟩ = false) : BxI W w' (x.set i (some T, ds)) := by
  have hlt : i < x.length := (List.getElem?_eq_some_iff.1 hi).1
  have hT := h.ge i T cs hi
  have split : ∀ (k T' : Nat) (cs' : List Value), (x.set i (some T, ds))[k]? = some (some T', cs') → (k = i ∧ T' = T ∧ cs' = ds) ∨ (k ≠ i ∧ T' ≠ T ∧ x[k]? = some (some T', cs')) := fun k T' cs' e => by
    by_cases hk : k = i
    · subst hk
      rw [List.getElem?_set_self hlt] at e
      simp only [Option.some.injEq, Prod.mk.injEq] at e
      exact .inl ⟨rfl, e.1.symm, e.2.symm⟩
    · rw [List.getElem?_set_ne (Ne.symm hk)] at e
      exact .inr ⟨hk, fun e2 => hk (h.inj k i T _ _ (e2 ▸ e) hi), e⟩
  refine ⟨⟨hp.os.trans h.ext.os, hp.tape.trans h.ext.tape, hp.output.trans h.ext.output, Nat.le_trans h.ext.size hp.size, fun k hk => (hp.block k (Nat.lt_of_lt_of_le hk h.ext.size) (fun e => by have := hT.1; omega)).trans (h.ext.block k hk)⟩, fun k T' cs' e => ?_, fun k j T' c1 c2 e1 e2 => ?_, fun k T' cs' e j u hu => ?_, fun k T' cs' e o => ?_⟩
  · rcases split k T' cs' e with ⟨rfl, rfl, rfl⟩ | ⟨-, -, e⟩
    · exact ⟨hT.1, Nat.lt_of_lt_of_le hT.2 hp.size⟩
    · have := h.ge k T' cs' e; exact ⟨this.1, Nat.lt_of_lt_of_le this.2 hp.size⟩
  · rcases split k T' c1 e1 with ⟨rfl, rfl, rfl⟩ | ⟨hk, hn, f1⟩ <;> rcases split j T' c2 e2 with ⟨rfl, h2, rfl⟩ | ⟨hj, hn2, f2⟩
    · rfl
    · exact absurd rfl hn2
    · exact absurd h2 hn
    · exact h.inj k j T' c1 c2 f1 f2
  · rcases split k T' cs' e with ⟨rfl, rfl, rfl⟩ | ⟨-, hn, e⟩
    · exact hc j u hu
    · exact hp.keep hn (h.cell k T' cs' e j u hu)
  · rcases split k T' cs' e with ⟨rfl, rfl, rfl⟩ | ⟨-, hn, e⟩
    · exact hf o
    · exact (hp.frozen (h.ge k T' cs' e).2 hn).trans (h.fr k T' cs' e o)
end Go.Hs
