/- A region that draws its order, walked by an invariant: each operation once. Several boxes that are made and filled in whatever order. -/
import Derived.Deep.RegionHeld3
import Derived.Test.YtedblocbcjoolaaGreatKB4
set_option linter.unusedSimpArgs false
set_option linter.unusedVariables false
namespace Go.Hs
open Go
/-- How many are not listed yet. -/
def unl (l : List Bool) : Nat := l.countP (fun b => !b)
theorem unl_set : ∀ (l : List Bool) (i : Nat), l[i]? = some false → unl (l.set i true) + 1 = unl l
  | [], i, h => by simp at h
  | b :: l, 0, h => by
    have e : b = false := by simpa using h
    subst e; simp [unl]
  | b :: l, i + 1, h => by
    have := unl_set l i (by simpa using h)
    simp only [List.set_cons_succ]
    simp only [unl, List.countP_cons] at *
    omega
theorem unl_pos {l : List Bool} {i : Nat} (h : l[i]? = some false) : 0 < unl l := by have := unl_set l i h; omega
theorem getD_false {l : List Bool} {i : Nat} : l.toArray.getD i true = false ↔ l[i]? = some false := by
  simp only [Array.getD_eq_getD_getElem?, List.getElem?_toArray]
  cases l[i]? <;> simp
theorem getD_true {l : List Bool} {i : Nat} : l.toArray.getD i false = true ↔ l[i]? = some true := by
  simp only [Array.getD_eq_getD_getElem?, List.getElem?_toArray]
  cases l[i]? <;> simp
/-- Several temporaries are laid. -/
def Act.puts (a : Act) : List Nat → List Value → Act
  | d :: ds, v :: vs => (Act.puts a ds vs).put (some d) v
  | _, _ => a
section
variable {P : Program} {ops : Array Oper} {Q : Exit → Act → World → Prop} {md : Region.Mode} {S : World → Prop}
theorem wpAnyH_inv {I : List Bool → Act → World → Prop}
    (step : ∀ l a w, I l a w → ∀ i o, ops[i]? = some o → l[i]? = some false → (∀ e ∈ o.after, Region.binds md e = true → l[e.on]? = some true) → wpOp P ops Q i (fun a' w' => S w' ∧ I (l.set i true) a' w') a w)
    (done : ∀ l a w, I l a w → Region.ready md ops l.toArray = [] → Q .normal a w) :
    ∀ (fuel : Nat) (l : List Bool) (a : Act) (w : World), I l a w → unl l ≤ fuel → wpAnyH P md ops Q S fuel l.toArray a w := by
  intro fuel
  induction fuel with
  | zero =>
    intro l a w hi hc
    have hr : Region.ready md ops l.toArray = [] := by
      rw [List.eq_nil_iff_forall_not_mem]
      intro i hm
      have := unl_pos (getD_false.1 (mem_ready.1 hm).1)
      omega
    exact ⟨hr, done l a w hi hr⟩
  | succ fuel ih =>
    intro l a w hi hc
    refine ⟨fun hr => done l a w hi hr, fun i hm => ?_⟩
    obtain ⟨h0, o, ho, hall⟩ := mem_ready.1 hm
    have h1 := getD_false.1 h0
    refine wpOp_mono (fun a' w' h => ⟨h.1, ?_⟩) (step l a w hi i o ho h1 (fun e he hb => getD_true.1 (hall e he hb)))
    rw [List.setIfInBounds_toArray]
    refine ih _ _ _ h.2 ?_
    have := unl_set l i h1
    omega
/-- One operation of the region, from each state of the invariant in which it may come up. -/
def StepI (P : Program) (md : Region.Mode) (ops : Array Oper) (Q : Exit → Act → World → Prop) (S : World → Prop) (A : Act) (slots : List Nat) (J : List Bool → List Value → World → Prop) (i : Nat) : Prop :=
  ∀ l vs w, J l vs w → l[i]? = some false → (∀ o, ops[i]? = some o → ∀ e ∈ o.after, Region.binds md e = true → l[e.on]? = some true) →
    ∃ o, ops[i]? = some o ∧ ∀ K' : Act → World → Prop, Shut (∀ vs' a w', a = Act.puts A slots vs' → S w' → J (l.set i true) vs' w' → K' a w') →
      if Region.wanted o (yielded ops (Act.puts A slots vs).tmps) = true then Oper.wp P o (Act.puts A slots vs) w K' Q else K' ((Act.puts A slots vs).put o.dst undef) w
theorem wpAnyH_invP {A : Act} {listed : Array Bool} {fuel : Nat} {w : World} (slots : List Nat) (vs0 : List Value) (l0 : List Bool) (rs : List Nat) (J : List Bool → List Value → World → Prop)
    (hl : listed = l0.toArray) (hA : Act.puts A slots vs0 = A) (hc : unl l0 ≤ fuel) (init : J l0 vs0 w)
    (hrs : ∀ l vs w, J l vs w → ∀ i, l[i]? = some false → i ∈ rs)
    (step : ∀ i ∈ rs, StepI P md ops Q S A slots J i)
    (done : ∀ l vs w, J l vs w → Region.ready md ops l.toArray = [] → Q .normal (Act.puts A slots vs) w) : wpAnyH P md ops Q S fuel listed A w := by
  subst hl
  have := wpAnyH_inv (P := P) (ops := ops) (Q := Q) (md := md) (S := S) (I := fun l a w => ∃ vs, a = Act.puts A slots vs ∧ J l vs w)
    (fun l a w ⟨vs, e, hj⟩ i o ho hb hd => by
      subst e
      obtain ⟨o', ho', h⟩ := step i (hrs l vs w hj i hb) l vs w hj hb (fun o2 h2 => by
        rw [ho] at h2; cases h2; exact hd)
      rw [ho] at ho'; cases ho'
      exact wpOp_step ho (fun K' hK => h K' (fun vs' a w' e hS hJ => hK a w' ⟨hS, vs', e, hJ⟩)))
    (fun l a w ⟨vs, e, hj⟩ hr => by subst e; exact done l vs w hj hr)
    fuel l0 A w ⟨vs0, hA.symm, init⟩ hc
  exact this
/-- What cannot come up, though it is not listed, waits for something. -/
theorem not_ready {l : List Bool} (hr : Region.ready md ops l.toArray = []) (i : Nat) (o : Oper) (ho : ops[i]? = some o) (hd : ∀ e ∈ o.after, Region.binds md e = true → l[e.on]? = some true) {b : Bool} (hb : l[i]? = some b) : b = true := by
  cases b with
  | true => rfl
  | false =>
    have : i ∈ Region.ready md ops l.toArray := mem_ready.2 ⟨getD_false.2 hb, o, ho, fun e he h => getD_true.2 (hd e he h)⟩
    rw [hr] at this; cases this
end
/-- A pointer once its box is made. -/
def pv (z : Value) : Option Nat → Value
  | some T => .pointer (some ⟨T, 0, none⟩)
  | none => z
/-- Boxes, some of which are not made yet. -/
structure BxI (W w : World) (x : List (Option Nat × List Value)) : Prop where
  ext : Ext W w
  ge : ∀ (i T : Nat) (cs : List Value), x[i]? = some (some T, cs) → W.heap.size ≤ T ∧ T < w.heap.size
  inj : ∀ (i j T : Nat) (cs ds : List Value), x[i]? = some (some T, cs) → x[j]? = some (some T, ds) → i = j
  cell : ∀ (i T : Nat) (cs : List Value), x[i]? = some (some T, cs) → ∀ (j : Nat) (u : Value), cs[j]? = some u → w.cell? ⟨T, j, none⟩ = some u
  fr : ∀ (i T : Nat) (cs : List Value), x[i]? = some (some T, cs) → ∀ (o : Nat), w.frozen? ⟨T, o, none⟩ = false
theorem BxI.more {W w w' : World} {x : List (Option Nat × List Value)} (h : BxI W w x) (hx : Ext w w') : BxI W w' x :=
  ⟨h.ext.trans hx, fun i T cs e => ⟨(h.ge i T cs e).1, Nat.lt_of_lt_of_le (h.ge i T cs e).2 hx.size⟩, h.inj, fun i T cs e j u hu => hx.keep (h.cell i T cs e j u hu), fun i T cs e o => (hx.frozen (h.ge i T cs e).2).trans (h.fr i T cs e o)⟩
theorem BxI.start {W w : World} {x : List (Option Nat × List Value)} (hx : Ext W w) (h : ∀ p ∈ x, p.1 = none) : BxI W w x := by
  have no : ∀ (i T : Nat) (cs : List Value), ¬ x[i]? = some (some T, cs) := fun i T cs e => by
    have := h _ (List.mem_of_getElem? e)
    cases this
  exact ⟨hx, fun i T cs e => absurd e (no i T cs), fun i j T cs ds e _ => absurd e (no i T cs), fun i T cs e => absurd e (no i T cs), fun i T cs e => absurd e (no i T cs)⟩
theorem BxI.make {W w : World} {x : List (Option Nat × List Value)} (h : BxI W w x) (i : Nat) {cs ds : List Value} {vs : Array Value} {t : TypeId} (hi : x[i]? = some (none, cs)) (hd : vs = ds.toArray) :
    BxI W (w.alloc (.cells vs t)) (x.set i (some w.heap.size, ds)) := by
  subst hd
  have hlt : i < x.length := (List.getElem?_eq_some_iff.1 hi).1
  have split : ∀ (k T : Nat) (cs' : List Value), (x.set i (some w.heap.size, ds))[k]? = some (some T, cs') → (k = i ∧ T = w.heap.size ∧ cs' = ds) ∨ (k ≠ i ∧ x[k]? = some (some T, cs')) := fun k T cs' e => by
    by_cases hk : k = i
    · subst hk
      rw [List.getElem?_set_self hlt] at e
      simp only [Option.some.injEq, Prod.mk.injEq] at e
      exact .inl ⟨rfl, e.1.symm, e.2.symm⟩
    · rw [List.getElem?_set_ne (Ne.symm hk)] at e
      exact .inr ⟨hk, e⟩
  have hx : Ext w (w.alloc (.cells ds.toArray t)) := (Ext.refl w).alloc _
  have hs : (w.alloc (.cells ds.toArray t)).heap.size = w.heap.size + 1 := by simp [go_sem]
  refine ⟨h.ext.trans hx, fun k T cs' e => ?_, fun k j T c1 c2 e1 e2 => ?_, fun k T cs' e j u hu => ?_, fun k T cs' e o => ?_⟩
  · rcases split k T cs' e with ⟨rfl, rfl, rfl⟩ | ⟨-, e⟩
    · exact ⟨h.ext.size, by omega⟩
    · have := h.ge k T cs' e; exact ⟨this.1, by omega⟩
  · rcases split k T c1 e1 with ⟨rfl, rfl, rfl⟩ | ⟨hk, f1⟩ <;> rcases split j _ c2 e2 with ⟨rfl, h2, rfl⟩ | ⟨hj, f2⟩
    · rfl
    · have := (h.ge j _ c2 f2).2; omega
    · subst h2; have := (h.ge k _ c1 f1).2; omega
    · exact h.inj k j T c1 c2 f1 f2
  · rcases split k T cs' e with ⟨rfl, rfl, rfl⟩ | ⟨-, e⟩
    · simp [go_sem, hu]
    · exact hx.keep (h.cell k T cs' e j u hu)
  · rcases split k T cs' e with ⟨rfl, rfl, rfl⟩ | ⟨-, e⟩
    · simp [go_sem]
    · exact (hx.frozen (h.ge k T cs' e).2).trans (h.fr k T cs' e o)
theorem BxI.store {W w w' : World} {x : List (Option Nat × List Value)} (h : BxI W w x) (i : Nat) {T : Nat} {cs ds : List Value} (hi : x[i]? = some (some T, cs))
    (hp : KP (fun j => j = T) w w') (hc : ∀ (j : Nat) (u : Value), ds[j]? = some u → w'.cell? ⟨T, j, none⟩ = some u) (hf : ∀ o, w'.frozen? ⟨T, o, none⟩ = false) : BxI W w' (x.set i (some T, ds)) := by
  have hlt : i < x.length := (List.getElem?_eq_some_iff.1 hi).1
  have hT := h.ge i T cs hi
  have split : ∀ (k T' : Nat) (cs' : List Value), (x.set i (some T, ds))[k]? = some (some T', cs') → (k = i ∧ T' = T ∧ cs' = ds) ∨ (k ≠ i ∧ T' ≠ T ∧ x[k]? = some (some T', cs')) := fun k T' cs' e => by
    by_cases hk : k = i
    · subst hk
      rw [List.getElem?_set_self hlt] at e
      simp only [Option.some.injEq, Prod.mk.injEq] at e
      exact .inl ⟨rfl, e.1.symm, e.2.symm⟩
    · rw [List.getElem?_set_ne (Ne.symm hk)] at e
      exact .inr ⟨hk, fun e2 => hk (h.inj k i T _ _ (e2 ▸ e) hi), e⟩
  refine ⟨⟨hp.os.trans h.ext.os, hp.tape.trans h.ext.tape, hp.output.trans h.ext.output, Nat.le_trans h.ext.size hp.size, fun k hk => (hp.block k (Nat.lt_of_lt_of_le hk h.ext.size) (fun e => by have := hT.1; omega)).trans (h.ext.block k hk)⟩, fun k T' cs' e => ?_, fun k j T' c1 c2 e1 e2 => ?_, fun k T' cs' e j u hu => ?_, fun k T' cs' e o => ?_⟩
  · rcases split k T' cs' e with ⟨rfl, rfl, rfl⟩ | ⟨-, -, e⟩
    · exact ⟨hT.1, Nat.lt_of_lt_of_le hT.2 hp.size⟩
    · have := h.ge k T' cs' e; exact ⟨this.1, Nat.lt_of_lt_of_le this.2 hp.size⟩
  · rcases split k T' c1 e1 with ⟨rfl, rfl, rfl⟩ | ⟨hk, hn, f1⟩ <;> rcases split j T' c2 e2 with ⟨rfl, h2, rfl⟩ | ⟨hj, hn2, f2⟩
    · rfl
    · exact absurd rfl hn2
    · exact absurd h2 hn
    · exact h.inj k j T' c1 c2 f1 f2
  · rcases split k T' cs' e with ⟨rfl, rfl, rfl⟩ | ⟨-, hn, e⟩
    · exact hc j u hu
    · exact hp.keep hn (h.cell k T' cs' e j u hu)
  · rcases split k T' cs' e with ⟨rfl, rfl, rfl⟩ | ⟨-, hn, e⟩
    · exact hf o
    · exact (hp.frozen (h.ge k T' cs' e).2 hn).trans (h.fr k T' cs' e o)
theorem kp2 {w : World} {T : Nat} {u v : Value} : KP (fun j => j = T) w ((w.setCell ⟨T, 0, none⟩ u).setCell ⟨T, 1, none⟩ v) := KP.setCell (p := fun j => j = T) (KP.setCell (p := fun j => j = T) (KP.refl _) rfl _) rfl _
theorem news2 {w : World} {T : Nat} {x y u v : Value} (h0 : w.cell? ⟨T, 0, none⟩ = some x) (h1 : w.cell? ⟨T, 1, none⟩ = some y) : ∀ (j : Nat) (z : Value), [u, v][j]? = some z → ((w.setCell ⟨T, 0, none⟩ u).setCell ⟨T, 1, none⟩ v).cell? ⟨T, j, none⟩ = some z := by
  intro j z hj
  rcases j with _ | _ | j
  · cases hj
    rw [World.cell?_setCell_other (h := by simp)]
    exact World.cell?_setCell_same _ _ _ h0
  · cases hj
    exact World.cell?_setCell_same _ _ _ (by rw [World.cell?_setCell_other (h := by simp)]; exact h1)
  · simp at hj
end Go.Hs
