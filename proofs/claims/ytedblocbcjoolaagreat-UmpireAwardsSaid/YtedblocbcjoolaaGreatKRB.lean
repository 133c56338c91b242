/- Contracts of the reference of layer 7: all settled counts of a field, and whether the umpire is called for it. -/
import Derived.Test.YtedblocbcjoolaaGreatKRA
import Derived.Test.YtedblocbcjoolaaGreatKXB
set_option linter.unusedSimpArgs false
set_option linter.unusedVariables false
namespace Go.Hs
open Go.RowKit Go.Proofs.YtedblocbcjoolaaGreat
theorem ThrRow.at {B e n i : Nat} {g : Nat → Thr} {a : Option Addr} {q : Nat} {W : World} (h : ThrRow B e g n (.slice a n q) W) (hi : i < n) : ∃ b off, a = some ⟨b, off, none⟩ ∧ B ≤ b ∧ Cell3 W b (off + i * 3) (g i).c := by
  rcases own_open h with ⟨-, h0⟩ | ⟨b, cap, he, hb, hg, hn, hc⟩
  · omega
  · simp only [Value.slice.injEq] at he
    obtain ⟨rfl, -, -⟩ := he
    have hl : i < (thrsTo g n).length := by rw [thrsTo_len]; exact hi
    have f := fun j hj => flat_at (C := fun x : Thr => x.c.cs) (k := 3) (fun _ => rfl) (thrsTo g n) i j hl hj
    have e1 : (thrsTo g n)[i] = g i := by simp [thrsTo]
    rw [e1] at f
    refine ⟨b, 0, rfl, hb, ?_⟩
    simp only [Nat.zero_add]
    exact ⟨hc _ _ (f 0 (by decide)), hc _ _ (f 1 (by decide)), hc _ _ (f 2 (by decide))⟩
theorem Cell3.kp {p : Nat → Prop} {w w' : World} (h : KP p w w') {b o : Nat} {x : V3} (hb : ¬ p b) (k : Cell3 w b o x) : Cell3 w' b o x := ⟨h.keep hb k.1, h.keep hb k.2.1, h.keep hb k.2.2⟩
/-- What holds between two rounds of the reference's 'Counts'. -/
structure RCI (W1 : World) (S : Nat) (f : Fld) (n : Nat) (W : World) : Prop where
  kp : KP (fun k => k = S) W1 W
  bits : BitsAt S 101 (seenB f n) W
  fr : ∀ o, W.frozen? ⟨S, o, none⟩ = false
theorem RCI.ext {W1 W W' : World} {S n : Nat} {f : Fld} (h : RCI W1 S f n W) (hx : Ext W W') : RCI W1 S f n W' :=
  ⟨h.kp.ext hx, h.bits.ext hx, fun o => (hx.frozen (lt_of_cell (h.bits 0 (by decide)))).trans (h.fr o)⟩
theorem RCI.set {W1 W : World} {S n m : Nat} {f : Fld} (h : RCI W1 S f n W) (hm : settledS f (truthAt f n) = (m : Int)) : RCI W1 S f (n + 1) (W.setCell ⟨S, m, none⟩ (.bool true)) := by
  refine ⟨h.kp.setCell rfl _, fun j hj => ?_, fun o => by rw [World.frozen?_setCell]; exact h.fr o⟩
  rw [seenB_next f n m hm]
  by_cases e : m = j
  · subst e
    simp only [beq_self_eq_true, Bool.or_true]
    exact sc_eq' (h.bits m hj)
  · have : (m == j) = false := by simp [e]
    rw [this, Bool.or_false]
    exact sc_ne' (.inr (Ne.symm e)) (h.bits j hj)
end Go.Hs
namespace Go.Proofs.YtedblocbcjoolaaGreat
open Go.RowKit Go.Hs
attribute [local irreducible] World.setCell World.alloc
end Go.Proofs.YtedblocbcjoolaaGreat
