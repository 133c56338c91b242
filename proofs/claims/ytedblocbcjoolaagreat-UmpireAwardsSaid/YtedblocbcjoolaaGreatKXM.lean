/- Plain laws of layer 7: both ends of all bounds are reached in some truth. -/
import Derived.Test.YtedblocbcjoolaaGreatKXJ
import Derived.Test.YtedblocbcjoolaaGreatKRB
import Derived.Test.YtedblocbcjoolaaGreatKRF
set_option linter.unusedSimpArgs false
set_option linter.unusedVariables false
namespace Go.Hs
open Go.RowKit Go.Proofs.YtedblocbcjoolaaGreat
/-- Which ends a sum meets. -/
def nowB (c : Cas) (s : Sm) : Nat → Bool
  | 0 => s.award == bLo c 0
  | 1 => s.award == bHi c 0
  | 2 => feeA c.fee s == bLo c 1
  | 3 => feeA c.fee s == bHi c 1
  | 4 => feeB c.fee s == bLo c 2
  | 5 => feeB c.fee s == bHi c 2
  | 6 => s.award - feeA c.fee s == bLo c 3
  | _ => s.award + feeB c.fee s == bHi c 4
def metB (c : Cas) (f : Fld) (i k : Nat) : Bool := (List.range i).any (fun j => nowB c (sumT c [f] [truthAt f j]) k)
/-- The state of the loop over all truths. -/
structure EndsI (W : World) (S T : Nat) (c : Cas) (f : Fld) (i : Nat) (w : World) : Prop where
  kp : KP (fun j => j = S ∨ j = T) W w
  seen : BitsAt S 8 (metB c f i) w
  sfr : ∀ o, w.frozen? ⟨S, o, none⟩ = false
  is : BitsAt T 101 (seenB f i) w
  tfr : ∀ o, w.frozen? ⟨T, o, none⟩ = false
/-- The state of the loop over what is seen. -/
structure SeenI (W : World) (S : Nat) (g h : Nat → Bool) (m : Nat) (w : World) : Prop where
  kp : KP (fun j => j = S) W w
  bits : BitsAt S 8 (fun j => if j < m then (g j || h j) else g j) w
  fr : ∀ o, w.frozen? ⟨S, o, none⟩ = false
theorem SeenI.next {W w : World} {S m : Nat} {g h : Nat → Bool} (k : SeenI W S g h m w) (_ : m < 8) : SeenI W S g h (m + 1) (w.setCell ⟨S, m, none⟩ (.bool (g m || h m))) := by
  refine ⟨k.kp.setCell (p := fun j => j = S) rfl _, fun j hj => ?_, fun o => by rw [World.frozen?_setCell]; exact k.fr o⟩
  have hb := k.bits j hj
  by_cases e : j = m
  · subst e
    simp only [show j < j + 1 from Nat.lt_succ_self j, if_true]
    exact sc_eq' hb
  · have : (j < m + 1) = (j < m) := by simp; omega
    simp only [this]
    exact sc_ne' (.inr e) hb
end Go.Hs
namespace Go.Hs
open Go.RowKit Go.Proofs.YtedblocbcjoolaaGreat
theorem EndsI.ext {W w w' : World} {S T i : Nat} {c : Cas} {f : Fld} (h : EndsI W S T c f i w) (hx : Ext w w') : EndsI W S T c f i w' :=
  ⟨h.kp.ext hx, h.seen.ext hx, fun o => (hx.frozen (lt_of_cell (h.seen 0 (by decide)))).trans (h.sfr o), h.is.ext hx, fun o => (hx.frozen (lt_of_cell (h.is 0 (by decide)))).trans (h.tfr o)⟩
theorem EndsI.next {W w w7 : World} {S T i m : Nat} {c : Cas} {f : Fld} {g : Nat → Bool} (h : EndsI W S T c f i w) (h8 : SeenI w S (metB c f i) g 8 w7) (hg : ∀ k, metB c f (i + 1) k = (metB c f i k || g k)) (hm : settledS f (truthAt f i) = (m : Int)) (hST : S ≠ T) : EndsI W S T c f (i + 1) (w7.setCell ⟨T, m, none⟩ (.bool true)) := by
  have hn : ¬ T = S := fun e => hST e.symm
  refine ⟨(h.kp.trans (h8.kp.mono' (fun j hj => .inl hj))).setCell (p := fun j => j = S ∨ j = T) (.inr rfl) _, fun j hj => ?_, fun o => by rw [World.frozen?_setCell]; exact h8.fr o, fun j hj => ?_, fun o => by rw [World.frozen?_setCell]; exact (h8.kp.frozen (lt_of_cell (h.is 0 (by decide))) hn).trans (h.tfr o)⟩
  · have hb := h8.bits j hj
    simp only [hj, if_true] at hb
    rw [hg]
    exact sc_ne' (.inl hST) hb
  · have hb := h8.kp.keep hn (h.is j hj)
    rw [seenB_next f i m hm]
    by_cases e : m = j
    · subst e
      simp only [beq_self_eq_true, Bool.or_true]
      exact sc_eq' hb
    · have : (m == j) = false := by simp [e]
      rw [this, Bool.or_false]
      exact sc_ne' (.inr (Ne.symm e)) hb
theorem SeenI.zero {w : World} {S : Nat} {g h : Nat → Bool} (hb : BitsAt S 8 g w) (hf : ∀ o, w.frozen? ⟨S, o, none⟩ = false) : SeenI w S g h 0 w :=
  ⟨KP.refl _, fun j hj => by simpa using hb j hj, hf⟩
theorem SeenI.at {W w : World} {S m : Nat} {g h : Nat → Bool} (k : SeenI W S g h m w) (hm : m < 8) : w.cell? ⟨S, m, none⟩ = some (.bool (g m)) := by
  have := k.bits m hm
  simpa using this
end Go.Hs
namespace Go.Hs
open Go.RowKit Go.Proofs.YtedblocbcjoolaaGreat
end Go.Hs
namespace Go.Hs
open Go.RowKit Go.Proofs.YtedblocbcjoolaaGreat
end Go.Hs
namespace Go.Hs
open Go.RowKit Go.Proofs.YtedblocbcjoolaaGreat
end Go.Hs
