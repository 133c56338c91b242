/- Plain laws of layer 7: the sums of the awards of each field alone; a field that is not called for. -/
import Derived.Test.YtedblocbcjoolaaGreatKXE
import Derived.Test.YtedblocbcjoolaaGreatKXB
import Derived.Test.YtedblocbcjoolaaGreatKYO
import Derived.Test.YtedblocbcjoolaaGreatKXR
import Derived.Test.YtedblocbcjoolaaGreatKB5
set_option linter.unusedSimpArgs false
set_option linter.unusedVariables false
namespace Go.Hs
open Go.RowKit Go.Proofs.YtedblocbcjoolaaGreat
/-- Two variables that hold a case each, with fields of their own, with room. -/
structure TwoO (W : World) (p q r : Value) (n : Nat) (l m : List Fld) (A B gA qA gB qB : Nat) (w : World) : Prop where
  bA : BoxN W A [p, q, r, .slice (some ⟨gA, 0, none⟩) n qA] w
  bB : BoxN W B [p, q, r, .slice (some ⟨gB, 0, none⟩) n qB] w
  fA : FldsO w gA qA l
  fB : FldsO w gB qB m
  ab : A ≠ B
  aA : gA ≠ A
  aB : gA ≠ B
  bA' : gB ≠ A
  bB' : gB ≠ B
  gg : gA ≠ gB
  wA : W.heap.size ≤ gA
  wB : W.heap.size ≤ gB
  nA : n ≤ qA
  nB : n ≤ qB
  ext : Ext W w
end Go.Hs
namespace Go.Hs
open Go.RowKit Go.Proofs.YtedblocbcjoolaaGreat
/-- The sum of the awards so far, in a variable. -/
structure SumB (c : Cas) (W : World) (T k : Nat) (w : World) : Prop where
  kp : KP (fun j => j = T) W w
  lo : w.cell? ⟨T, 0, none⟩ = some (.int .i64 (sumLo c (c.flds.take k)))
  hi : w.cell? ⟨T, 1, none⟩ = some (.int .i64 (sumHi c (c.flds.take k)))
  fr : ∀ o, w.frozen? ⟨T, o, none⟩ = false
theorem FldsAt.toV {w : World} {g q : Nat} {l : List Fld} (h : FldsAt w g l) (n : Nat) (hn : n = l.length) (hq : n ≤ q) (hl : n ≤ 1000) : FldsV w (.slice (some ⟨g, 0, none⟩) n q) l := by
  subst hn
  exact h.slice hq hl
theorem FldsV.none {w : World} {a : Option Addr} {q : Nat} : FldsV w (.slice a 0 q) [] := ⟨a, q, rfl, Nat.zero_le _, by simp, fun i hi => absurd hi (by simp)⟩
end Go.Hs
namespace Go.Hs
open Go.RowKit Go.Proofs.YtedblocbcjoolaaGreat
/-- A variable whose list of fields has been shortened. -/
structure DropB (W : World) (p q r : Value) (l : List Fld) (gA gB : Nat) (lA : List Fld) (B n : Nat) (ay : Option Addr) (qy : Nat) (w : World) : Prop where
  b0 : w.cell? ⟨B, 0, none⟩ = some p
  b1 : w.cell? ⟨B, 1, none⟩ = some q
  b2 : w.cell? ⟨B, 2, none⟩ = some r
  b3 : w.cell? ⟨B, 3, none⟩ = some (.slice ay n qy)
  fl : FldsV w (.slice ay n qy) l
  fA : FldsAt w gA lA
  kp : KP (fun j => j = B ∨ j = gB) W w
theorem DropB.ext {W w w' : World} {p q r : Value} {l lA : List Fld} {gA gB B n qy : Nat} {ay : Option Addr} (h : DropB W p q r l gA gB lA B n ay qy w) (hx : Ext w w') : DropB W p q r l gA gB lA B n ay qy w' :=
  ⟨hx.keep h.b0, hx.keep h.b1, hx.keep h.b2, hx.keep h.b3, h.fl.ext hx, h.fA.ext hx, h.kp.ext hx⟩
theorem DropB.made {W w4 : World} {p q r x : Value} {B gA gB g cap n H e : Nat} {l lA : List Fld} {us : List Value}
    (hb0 : W.cell? ⟨B, 0, none⟩ = some p) (hb1 : W.cell? ⟨B, 1, none⟩ = some q) (hb2 : W.cell? ⟨B, 2, none⟩ = some r) (hb3 : W.cell? ⟨B, 3, none⟩ = some x)
    (hg : KP (fun j => j = gB) W w4) (hown : w4.ownsRow gB e 9 (.slice (some ⟨g, 0, none⟩) n cap) n us) (hus : us = l.flatMap (fun x => x.c.cs)) (hl : n = l.length) (h0 : 0 < n) (h3 : n ≤ 1000) (hat : some gB = some g ∨ g = H) (hH : W.heap.size ≤ H)
    (hfA : FldsAt W gA lA) (n1 : B ≠ gB) (n2 : gA ≠ gB) (n3 : gA ≠ B) : DropB W p q r l gA gB lA B n (some ⟨g, 0, none⟩) cap (w4.setCell ⟨B, 3, none⟩ (.slice (some ⟨g, 0, none⟩) n cap)) := by
  subst hus
  obtain ⟨f1, -, f3⟩ := FldsAt.of_own hown hl h0
  have hBl : B < W.heap.size := lt_of_cell hb3
  have hgB : g ≠ B := by
    rcases hat with h | h
    · injection h with h; omega
    · omega
  have hkp : KP (fun j => j = B) w4 (w4.setCell ⟨B, 3, none⟩ (.slice (some ⟨g, 0, none⟩) n cap)) := KP.one _
  refine ⟨sc_ne' (.inr (by decide)) (hg.keep n1 hb0), sc_ne' (.inr (by decide)) (hg.keep n1 hb1), sc_ne' (.inr (by decide)) (hg.keep n1 hb2), sc_eq' (hg.keep n1 hb3), (f1.kp hkp hgB).toV n hl f3 h3, (hfA.kp hg n2).kp hkp n3, ?_⟩
  exact (hg.mono' (fun j hj => .inr hj)).setCell (p := fun j => j = B ∨ j = gB) (.inl rfl) _
theorem DropB.same {W : World} {p q r x : Value} {B gA gB n cap : Nat} {l lA : List Fld}
    (hb0 : W.cell? ⟨B, 0, none⟩ = some p) (hb1 : W.cell? ⟨B, 1, none⟩ = some q) (hb2 : W.cell? ⟨B, 2, none⟩ = some r) (hb3 : W.cell? ⟨B, 3, none⟩ = some x)
    (hf : FldsAt W gB l) (hl : n = l.length) (hn : n ≤ cap) (h3 : n ≤ 1000)
    (hfA : FldsAt W gA lA) (n1 : B ≠ gB) (n3 : gA ≠ B) : DropB W p q r l gA gB lA B n (some ⟨gB, 0, none⟩) cap (W.setCell ⟨B, 3, none⟩ (.slice (some ⟨gB, 0, none⟩) n cap)) := by
  have hkp : KP (fun j => j = B) W (W.setCell ⟨B, 3, none⟩ (.slice (some ⟨gB, 0, none⟩) n cap)) := KP.one _
  exact ⟨sc_ne' (.inr (by decide)) hb0, sc_ne' (.inr (by decide)) hb1, sc_ne' (.inr (by decide)) hb2, sc_eq' hb3, (hf.kp hkp (Ne.symm n1)).toV n hl hn h3, hfA.kp hkp n3, hkp.mono' (fun j hj => .inl hj)⟩
end Go.Hs
namespace Go.Proofs.YtedblocbcjoolaaGreat
open Go.RowKit Go.Hs
theorem step_append_none {P : Program} {w : World} {ops : Array Oper} {o : Oper} {a : Act} {K : Act → World → Prop} {Q : Exit → Act → World → Prop} {E : Prop} (hgd : o.guard = none) (s x : Operand) (t : TypeId)
    (ho : o.op = .call { callee := .builtin .append, args := #[s, x], argTypes := #[t, t] }) (e : TypeId) (i : TypeInfo) (ht : P.underlying t = some (.slice e)) (hi : P.info? e = some i)
    (base b : Option Addr) (sLen sCap c : Nat) (hle : sLen ≤ sCap) (hs : a.eval s = .slice base sLen sCap) (hx : a.eval x = .slice b 0 c)
    (h : K (a.put o.dst (.slice base sLen sCap)) w) : if Region.wanted o (yielded ops a.tmps) = true then Oper.wp P o a w K Q else E := by
  have hw : Region.wanted o (yielded ops a.tmps) = true := by simp [Region.wanted, hgd]
  rw [if_pos hw]
  have hr := run_append_none (P := P) w t o.type e i ht hi base b sLen sCap c hle
  unfold Oper.wp execOp
  simp only [ho, resolve, invoke, builtin, Sem.run_bind, Sem.run_pure, Result.andThen_ok, List.map_toArray, List.map_cons, List.map_nil, hs, hx, hr]
  exact h
end Go.Proofs.YtedblocbcjoolaaGreat
