/- Contracts of layer 7's law: a case with other fields, whose list can be shortened in place. -/
import Derived.Test.YtedblocbcjoolaaGreatKYC
set_option linter.unusedSimpArgs false
set_option linter.unusedVariables false
namespace Go.Proofs.YtedblocbcjoolaaGreat
open Go.RowKit Go.Hs
attribute [local irreducible] World.setCell World.alloc
/-- A block that holds fields, with room. -/
def FldsO (w : World) (g q : Nat) (l : List Fld) : Prop := FldsAt w g l ∧ w.ownsRow g 76 9 (.slice (some ⟨g, 0, none⟩) l.length q) l.length (l.flatMap (fun x => x.c.cs))
theorem own_base {w : World} {B e k g n q : Nat} {xs : List Value} (h : w.ownsRow B e k (.slice (some ⟨g, 0, none⟩) n q) n xs) : w.ownsRow g e k (.slice (some ⟨g, 0, none⟩) n q) n xs := by
  refine ⟨h.1, ?_⟩
  rcases h.2 with ⟨h1, h2⟩ | ⟨g', cap, cur, h1, h2, h3⟩
  · simp at h1
  · simp only [Value.slice.injEq, Option.some.injEq, Addr.mk.injEq, and_true, true_and] at h1
    obtain ⟨rfl, rfl⟩ := h1
    exact .inr ⟨_, _, cur, rfl, Nat.le_refl _, h3⟩
theorem FldsO.of_own {w : World} {B g n q : Nat} {l : List Fld} (h : w.ownsRow B 76 9 (.slice (some ⟨g, 0, none⟩) n q) n (l.flatMap (fun x => x.c.cs))) (hn : n = l.length) (h0 : 0 < n) : FldsO w g q l ∧ B ≤ g ∧ n ≤ q := by
  obtain ⟨h1, h2, h3⟩ := FldsAt.of_own h hn h0
  subst hn
  exact ⟨⟨h1, own_base h⟩, h2, h3⟩
theorem FldsO.lt {w : World} {g q : Nat} {l : List Fld} (h : FldsO w g q l) : g < w.heap.size := h.1.lt
theorem FldsO.kp {p : Nat → Prop} {w w' : World} {g q : Nat} {l : List Fld} (h : FldsO w g q l) (hx : KP p w w') (hg : ¬ p g) : FldsO w' g q l :=
  ⟨h.1.kp hx hg, own_keep h.2 (fun j hj => by
    have e : g = j := by simpa [Value.ownBlock] using hj
    subst e
    exact hx.block g h.1.lt hg)⟩
theorem FldsO.ext {w w' : World} {g q : Nat} {l : List Fld} (h : FldsO w g q l) (hx : Ext w w') : FldsO w' g q l :=
  h.kp (p := fun _ => False) ⟨hx.os, hx.tape, hx.output, hx.size, fun _ hk _ => hx.heap hk⟩ (fun h => h)
theorem FldsO.keepTo {W1 w w' : World} {g q : Nat} {l : List Fld} (_ : Hid (Ext W1 w')) (h : FldsO w g q l) (hx : Ext w w') : FldsO w' g q l := h.ext hx
/-- The first fields, with room for the others. -/
theorem FldsO.take {w : World} {g q k : Nat} {l : List Fld} (h : FldsO w g q l) (hk : k ≤ l.length) : w.ownsRow g 76 9 (.slice (some ⟨g, 0, none⟩) k q) k ((l.take k).flatMap (fun x => x.c.cs)) := by
  refine ⟨by rw [flds_flat]; simp; omega, ?_⟩
  rcases h.2.2 with ⟨h1, h2⟩ | ⟨g', cap, cur, h1, h2, h3, h4, h5, h6, h7⟩
  · simp at h1
  · simp only [Value.slice.injEq, Option.some.injEq, Addr.mk.injEq, and_true, true_and] at h1
    obtain ⟨rfl, rfl⟩ := h1
    refine .inr ⟨_, _, cur, rfl, Nat.le_refl _, h3, by omega, h5, h6, ?_⟩
    have e : l.flatMap (fun x => x.c.cs) = (l.take k).flatMap (fun x => x.c.cs) ++ (l.drop k).flatMap (fun x => x.c.cs) := by rw [← List.flatMap_append, List.take_append_drop]
    have e2 : ((l.take k).flatMap (fun x => x.c.cs)).length = k * 9 := by rw [flds_flat]; simp; omega
    have h8 := congrArg (List.take (k * 9)) h7
    rw [List.take_take, e, List.take_left' e2] at h8
    rw [show min (k * 9) (l.length * 9) = k * 9 by omega] at h8
    exact h8

end Go.Proofs.YtedblocbcjoolaaGreat
