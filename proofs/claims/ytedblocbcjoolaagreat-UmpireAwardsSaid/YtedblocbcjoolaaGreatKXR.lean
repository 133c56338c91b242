/- Boxes in worlds that are made letters: behind an alloc, behind a store. -/
import Derived.Test.YtedblocbcjoolaaGreatKYC
set_option linter.unusedSimpArgs false
set_option linter.unusedVariables false
namespace Go.Hs
open Go.RowKit Go.Proofs.YtedblocbcjoolaaGreat
theorem alloc_gen {F : World → Prop} {w : World} {vs : List Value} {t : TypeId} (h : ∀ w', Ext w w' → BoxN w w.heap.size vs w' → F w') : F (w.alloc (.cells vs.toArray t)) :=
  h _ ((Ext.refl w).alloc _) (BoxN.made (Ext.refl w))
theorem alloc_gend {F : World → Prop} {w : World} {vs : List Value} {t : TypeId} (h : ∀ w', Ext w w' → BoxN w w.heap.size vs w' → F w') : F (w.alloc (.cells vs.toArray t)).drew :=
  h _ ((Ext.refl w).alloc _).drew ((BoxN.made (Ext.refl w)).keep (Ext.refl _).drew)
theorem BoxN.keepTo {W W1 w w' : World} {T : Nat} {vs : List Value} (_ : Hid (Ext W1 w')) (h : BoxN W T vs w) (hx : Ext w w') : BoxN W T vs w' := h.keep hx
theorem FldsAt.keepTo {W1 w w' : World} {g : Nat} {l : List Fld} (_ : Hid (Ext W1 w')) (h : FldsAt w g l) (hx : Ext w w') : FldsAt w' g l := h.ext hx
theorem BoxN.kp {p : Nat → Prop} {W w w' : World} {T : Nat} {vs : List Value} (h : BoxN W T vs w) (hk : KP p w w') (hT : ¬ p T) (hp : ∀ k, p k → W.heap.size ≤ k) : BoxN W T vs w' :=
  ⟨hk.toExt h.ext hp, fun o v hv => hk.keep hT (h.cells o v hv), fun o => (hk.frozen h.lt hT).trans (h.fr o), h.ge, Nat.lt_of_lt_of_le h.lt hk.size⟩
theorem BoxN.to {W W1 w : World} {T : Nat} {vs : List Value} (h : BoxN W T vs w) (hx : Ext W1 w) (hT : W1.heap.size ≤ T) : BoxN W1 T vs w := ⟨hx, h.cells, h.fr, hT, h.lt⟩
theorem KP.mono' {p q : Nat → Prop} {w w' : World} (h : KP p w w') (hq : ∀ k, p k → q k) : KP q w w' := ⟨h.os, h.tape, h.output, h.size, fun k hk hn => h.block k hk (fun hp => hn (hq k hp))⟩
theorem KP.one {T i : Nat} {w : World} (x : Value) : KP (fun j => j = T) w (w.setCell ⟨T, i, none⟩ x) := KP.setCell (p := fun j => j = T) (KP.refl _) rfl x
/-- Two variables that hold a case each, with fields of their own. -/
structure TwoC (W : World) (p q r : Value) (n : Nat) (l m : List Fld) (A B gA qA gB qB : Nat) (w : World) : Prop where
  bA : BoxN W A [p, q, r, .slice (some ⟨gA, 0, none⟩) n qA] w
  bB : BoxN W B [p, q, r, .slice (some ⟨gB, 0, none⟩) n qB] w
  fA : FldsAt w gA l
  fB : FldsAt w gB m
  ab : A ≠ B
  aA : gA ≠ A
  aB : gA ≠ B
  bA' : gB ≠ A
  bB' : gB ≠ B
  gg : gA ≠ gB
  wA : W.heap.size ≤ gA
  wB : W.heap.size ≤ gB
  nA : n ≤ qA
  nB : n ≤ qB
  ext : Ext W w
end Go.Hs
