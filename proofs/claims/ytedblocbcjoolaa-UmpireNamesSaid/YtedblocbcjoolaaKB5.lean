/- Bundled: what the texts AI AJ AK AF AG AL AM AN AO VI say one after another. -/
import Derived.Test.YtedblocbcjoolaaKB2
import Derived.Test.YtedblocbcjoolaaKB4
import Derived.Test.YtedblocbcjoolaaKB1
import Derived.Maps.AppendAt
import Derived.Deep.CutRange
import Derived.RegionTactic
import Derived.Deep.RegionWith
/- The reference's small functions: ranges, rising lists, the last number. -/
namespace Go.Hs
open Go.RowKit
/-- Where the last number lies that is at most another one. -/
structure LastP (xs : List Int) (n : Int) (i : Nat) : Prop where
  lt : i = 0 ∨ i < xs.length
  le : ∀ m, 1 ≤ m → m ≤ i → xs.getD m 0 ≤ n
  gt : i + 1 < xs.length → n < xs.getD (i + 1) 0
end Go.Hs
namespace Go.Proofs.Ytedblocbcjoolaa
open Go.RowKit Go.Hs
attribute [local irreducible] World.setCell World.alloc

end Go.Proofs.Ytedblocbcjoolaa

/- The reference's IsTariff. -/
namespace Go.Hs
open Go.RowKit
end Go.Hs
namespace Go.Proofs.Ytedblocbcjoolaa
open Go.RowKit Go.Hs
attribute [local irreducible] World.setCell World.alloc

end Go.Proofs.Ytedblocbcjoolaa

/- The reference's Fault: the error of a list of tariffs. -/
namespace Go.Hs
open Go.RowKit
end Go.Hs
namespace Go.Proofs.Ytedblocbcjoolaa
open Go.RowKit Go.Hs
attribute [local irreducible] World.setCell World.alloc

end Go.Proofs.Ytedblocbcjoolaa

/- Words about memory: worlds in which some blocks are covered; lists that are built by appending. -/
namespace Go.Hs
open Go.RowKit

/-- The world with some blocks covered. -/
def mask (p : Nat → Bool) (w : World) : World := { w with heap := w.heap.mapIdx (fun i o => if p i then .map #[] 0 else o) }
theorem mask_cell (p : Nat → Bool) (w : World) (b o : Nat) : (mask p w).cell? ⟨b, o, none⟩ = if p b then none else w.cell? ⟨b, o, none⟩ := by
  unfold World.cell? mask
  simp only [Array.getElem?_mapIdx]
  cases h : w.heap[b]? with
  | none => simp
  | some x => cases hp : p b <;> simp
theorem mask_kc {p q : Nat → Bool} {w w' : World} (hq : ∀ k, k < w.heap.size → p k = false → q k = false) (h : ∀ k, k < w.heap.size → p k = false → w'.heap[k]? = w.heap[k]?) : KC (mask p w) (mask q w') := by
  intro k o v hc
  rw [mask_cell] at hc ⊢
  cases hp : p k with
  | true => rw [hp] at hc; simp at hc
  | false =>
    rw [hp] at hc
    simp only [Bool.false_eq_true, if_false] at hc
    have hk : k < w.heap.size := lt_of_cell (a := ⟨k, o, none⟩) hc
    rw [hq k hk hp]
    simp only [Bool.false_eq_true, if_false]
    rw [World.cell?_of_block (w := w) (h k hk hp)]; exact hc
theorem mask_kc0 (p : Nat → Bool) (w : World) : KC (mask p w) w := by
  intro k o v hc
  rw [mask_cell] at hc
  split at hc
  · cases hc
  · exact hc
theorem Ext.mask {p q : Nat → Bool} {w w' : World} (h : Ext w w') (hq : ∀ k, k < w.heap.size → p k = false → q k = false) : KC (mask p w) (mask q w') := mask_kc hq (fun _ hk _ => h.heap hk)
/-- The old blocks. -/
def oldB (w : World) : Nat → Bool := fun k => decide (k < w.heap.size)
theorem oldB_lt {w : World} {k : Nat} : oldB w k = false ↔ w.heap.size ≤ k := by simp [oldB]

theorem grown_ext {W w w' : World} {o : Option Nat} (h : Ext W w) (hg : w.grownBy w' o) (ho : ∀ g, o = some g → W.heap.size ≤ g) : Ext W w' :=
  ⟨hg.os.trans h.os, hg.tape.trans h.tape, hg.output.trans h.output, Nat.le_trans h.size hg.size, fun i hi => (hg.block i (Nat.lt_of_lt_of_le hi h.size) (fun e => by have := ho i e.symm; omega)).trans (h.block i hi)⟩

/-- What is owned, read out. -/
theorem own_open {w : World} {B e k n : Nat} {v : Value} {us : List Value} (h : w.ownsRow B e k v n us) :
    (v = .slice none 0 0 ∧ n = 0) ∨ ∃ g cap, v = .slice (some ⟨g, 0, none⟩) n cap ∧ B ≤ g ∧ g < w.heap.size ∧ n ≤ cap ∧ ∀ j u, us[j]? = some u → w.cell? ⟨g, j, none⟩ = some u := by
  have hc := fun g => h.cells (g := g)
  rcases h.2 with h0 | ⟨g, cap, cur, rfl, hb, hg, hn, -, -, -⟩
  · exact .inl h0
  · refine .inr ⟨g, cap, rfl, hb, (Array.getElem?_eq_some_iff.1 hg).1, hn, fun j u hu => ?_⟩
    have := hc g rfl j u hu
    have e : (⟨g, 0, none⟩ : Addr).add j = ⟨g, j, none⟩ := by
      unfold Addr.add
      split
      · rename_i h; subst h; rfl
      · simp
    rw [e] at this
    exact this
theorem own_lt {w : World} {B e k n : Nat} {v : Value} {us : List Value} (h : w.ownsRow B e k v n us) {g : Nat} (hg : v.ownBlock = some g) : B ≤ g ∧ g < w.heap.size := by
  rcases own_open h with ⟨rfl, -⟩ | ⟨g', cap, rfl, hb, hl, -, -⟩
  · simp [Value.ownBlock] at hg
  · simp [Value.ownBlock] at hg
    subst hg; exact ⟨hb, hl⟩
theorem own_keep {w w' : World} {B e k n : Nat} {v : Value} {us : List Value} (h : w.ownsRow B e k v n us) (hk : ∀ g, v.ownBlock = some g → w'.heap[g]? = w.heap[g]?) : w'.ownsRow B e k v n us := by
  refine ⟨h.1, ?_⟩
  rcases h.2 with h0 | ⟨g, cap, cur, rfl, hb, hg, rest⟩
  · exact .inl h0
  · exact .inr ⟨g, cap, cur, rfl, hb, by rw [hk g rfl]; exact hg, rest⟩

/-- What the elements of a list that is being built must not lie in: some blocks, and the list's own row. -/
def cov (p : Nat → Bool) (v : Value) : Nat → Bool := fun k => p k || (v.ownBlock == some k)
theorem cov_no {p : Nat → Bool} {v : Value} {k : Nat} : cov p v k = false ↔ p k = false ∧ v.ownBlock ≠ some k := by
  unfold cov
  simp

/-- A list that is being built, one cell an element. -/
def Build1 {α : Type} (S : World → Value → α → Prop) (p : Nat → Bool) (B e : Nat) (w : World) (v : Value) (xs : List α) : Prop :=
  ∃ us : List Value, us.length = xs.length ∧ w.ownsRow B e 1 v xs.length us ∧ (∀ k, v.ownBlock = some k → p k = false) ∧ ∀ i (h1 : i < us.length) (h2 : i < xs.length), S (mask (cov p v) w) us[i] xs[i]

section
variable {α : Type} {S : World → Value → α → Prop} (hS : ∀ {w w' : World} {v : Value} {x : α}, KC w w' → S w v x → S w' v x) {p : Nat → Bool} {B e : Nat}
theorem Build1.nil (w : World) : Build1 S p B e w (.slice none 0 0) [] := ⟨[], rfl, World.ownsRow_nil _ _ _ _, fun _ h => by simp [Value.ownBlock] at h, fun i h => absurd h (Nat.not_lt_zero _)⟩
include hS in
theorem Build1.keep {w w' : World} {v : Value} {xs : List α} (h : Build1 S p B e w v xs) (hk : ∀ k, k < w.heap.size → p k = false → w'.heap[k]? = w.heap[k]?) : Build1 S p B e w' v xs := by
  obtain ⟨us, hl, ho, hp, hs⟩ := h
  refine ⟨us, hl, own_keep ho (fun g hg => hk g (own_lt ho hg).2 (hp g hg)), hp, fun i h1 h2 => hS (mask_kc (fun _ _ h => h) (fun k hk' hc => hk k hk' (cov_no.1 hc).1)) (hs i h1 h2)⟩
include hS in
theorem Build1.next {w w' : World} {v v' u : Value} {xs : List α} {y : α} {us : List Value} (hl : us.length = xs.length) (hp : ∀ k, v.ownBlock = some k → p k = false)
    (hs : ∀ i (h1 : i < us.length) (h2 : i < xs.length), S (mask (cov p v) w) us[i] xs[i]) (hu : S (mask (cov p v) w) u y) (ho : w'.ownsRow B e 1 v' (xs.length + 1) (us ++ [u])) (hg : w.grownBy w' v.ownBlock)
    (hat : v'.ownBlock = v.ownBlock ∨ v'.ownBlock = some w.heap.size) (hpw : p w.heap.size = false) : Build1 S p B e w' v' (xs ++ [y]) := by
  have hkc : KC (mask (cov p v) w) (mask (cov p v') w') := by
    refine mask_kc (fun k hk hc => ?_) (fun k hk hc => hg.block k hk (fun e => (cov_no.1 hc).2 e.symm))
    obtain ⟨h1, h2⟩ := cov_no.1 hc
    refine cov_no.2 ⟨h1, ?_⟩
    rcases hat with h | h
    · rw [h]; exact h2
    · rw [h]; intro e; cases e; omega
  refine ⟨us ++ [u], by simp [hl], by simpa using ho, fun k hk => ?_, fun i h1 h2 => ?_⟩
  · rcases hat with h | h
    · exact hp k (h ▸ hk)
    · rw [h] at hk; cases hk; exact hpw
  · by_cases hi : i < us.length
    · rw [List.getElem_append_left hi, List.getElem_append_left (by omega)]
      exact hS hkc (hs i hi (by omega))
    · have e1 : i = us.length := by simp at h1; omega
      subst e1
      have e2 : (us ++ [u])[us.length] = u := by simp
      have e3 : (xs ++ [y])[us.length] = y := by simp [hl]
      rw [e2, e3]
      exact hS hkc hu
include hS in
theorem Build1.slice {w : World} {v : Value} {xs : List α} (h : Build1 S p B e w v xs) (hlen : xs.length ≤ 1000) : SliceV (fun w b o x => ∃ v, w.cell? ⟨b, o, none⟩ = some v ∧ S w v x) 1 (mask p w) v xs := by
  obtain ⟨us, hl, ho, hp, hs⟩ := h
  rcases own_open ho with ⟨rfl, h0⟩ | ⟨g, cap, rfl, -, hg, hn, hc⟩
  · have e : xs = [] := List.eq_nil_of_length_eq_zero h0
    subst e
    exact ⟨none, 0, rfl, Nat.le_refl _, by simp, fun i h => absurd h (Nat.not_lt_zero _)⟩
  · refine ⟨_, cap, rfl, hn, by omega, fun i hi => ⟨g, 0, rfl, us[i]'(by omega), ?_, ?_⟩⟩
    · rw [mask_cell, hp g rfl]
      simp only [Bool.false_eq_true, if_false]
      have := hc i (us[i]'(by omega)) (by simp)
      simpa using this
    · exact hS (mask_kc (fun k _ hc => (cov_no.1 hc).1) (fun _ _ _ => rfl)) (hs i (by omega) hi)
end
end Go.Hs
namespace Go.Proofs.Ytedblocbcjoolaa
open Go.RowKit Go.Hs
attribute [local irreducible] World.setCell World.alloc

theorem info_int : (Try.prog.info? 3).map (fun i => (i.zero, i.size, i.bytes)) = some (some (.int .i64 0), 1, 8) := by kernel_rfl

end Go.Proofs.Ytedblocbcjoolaa

/- The tariffs copied: what 'Tariffs' returns. -/
namespace Go.Hs
open Go.RowKit
abbrev V6.cs (u : V6) : List Value := [u.c0, u.c1, u.c2, u.c3, u.c4, u.c5]
theorem flat_get (us : List V6) (i : Nat) (h : i < us.length) : (us.flatMap V6.cs)[i * 6]? = some us[i].c0 ∧ (us.flatMap V6.cs)[i * 6 + 1]? = some us[i].c1 ∧ (us.flatMap V6.cs)[i * 6 + 2]? = some us[i].c2 ∧
    (us.flatMap V6.cs)[i * 6 + 3]? = some us[i].c3 ∧ (us.flatMap V6.cs)[i * 6 + 4]? = some us[i].c4 ∧ (us.flatMap V6.cs)[i * 6 + 5]? = some us[i].c5 := by
  induction us generalizing i with
  | nil => simp at h
  | cons u r ih =>
    cases i with
    | zero => simp
    | succ i =>
      have := ih i (by simpa using h)
      have e0 : (i + 1) * 6 = i * 6 + 6 := by omega
      simp only [e0, List.flatMap_cons, List.cons_append, List.nil_append, List.getElem?_cons_succ, List.getElem_cons_succ]
      exact this
/-- A list that is being built, six cells an element. -/
def Build6 {α : Type} (S : World → V6 → α → Prop) (p : Nat → Bool) (B e : Nat) (w : World) (v : Value) (xs : List α) : Prop :=
  ∃ us : List V6, us.length = xs.length ∧ w.ownsRow B e 6 v xs.length (us.flatMap V6.cs) ∧ (∀ k, v.ownBlock = some k → p k = false) ∧ ∀ i (h1 : i < us.length) (h2 : i < xs.length), S (mask (cov p v) w) us[i] xs[i]
section
variable {α : Type} {S : World → V6 → α → Prop} (hS : ∀ {w w' : World} {v : V6} {x : α}, KC w w' → S w v x → S w' v x) {p : Nat → Bool} {B e : Nat}
theorem Build6.nil (w : World) : Build6 S p B e w (.slice none 0 0) [] := ⟨[], rfl, World.ownsRow_nil _ _ _ _, fun _ h => by simp [Value.ownBlock] at h, fun i h => absurd h (Nat.not_lt_zero _)⟩
include hS in
theorem Build6.keep {w w' : World} {v : Value} {xs : List α} (h : Build6 S p B e w v xs) (hk : ∀ k, k < w.heap.size → p k = false → w'.heap[k]? = w.heap[k]?) : Build6 S p B e w' v xs := by
  obtain ⟨us, hl, ho, hp, hs⟩ := h
  refine ⟨us, hl, own_keep ho (fun g hg => hk g (own_lt ho hg).2 (hp g hg)), hp, fun i h1 h2 => hS (mask_kc (fun _ _ h => h) (fun k hk' hc => hk k hk' (cov_no.1 hc).1)) (hs i h1 h2)⟩
include hS in
theorem Build6.next {w w' : World} {v v' : Value} {u : V6} {xs : List α} {y : α} {us : List V6} (hl : us.length = xs.length) (hp : ∀ k, v.ownBlock = some k → p k = false)
    (hs : ∀ i (h1 : i < us.length) (h2 : i < xs.length), S (mask (cov p v) w) us[i] xs[i]) (hu : S (mask (cov p v) w) u y) (ho : w'.ownsRow B e 6 v' (xs.length + 1) (us.flatMap V6.cs ++ u.cs)) (hg : w.grownBy w' v.ownBlock)
    (hat : v'.ownBlock = v.ownBlock ∨ v'.ownBlock = some w.heap.size) (hpw : p w.heap.size = false) : Build6 S p B e w' v' (xs ++ [y]) := by
  have hkc : KC (mask (cov p v) w) (mask (cov p v') w') := by
    refine mask_kc (fun k hk hc => ?_) (fun k hk hc => hg.block k hk (fun e => (cov_no.1 hc).2 e.symm))
    obtain ⟨h1, h2⟩ := cov_no.1 hc
    refine cov_no.2 ⟨h1, ?_⟩
    rcases hat with h | h
    · rw [h]; exact h2
    · rw [h]; intro e; cases e; omega
  refine ⟨us ++ [u], by simp [hl], ?_, fun k hk => ?_, fun i h1 h2 => ?_⟩
  · have e : (us ++ [u]).flatMap V6.cs = us.flatMap V6.cs ++ u.cs := by simp
    rw [e]; simpa using ho
  · rcases hat with h | h
    · exact hp k (h ▸ hk)
    · rw [h] at hk; cases hk; exact hpw
  · by_cases hi : i < us.length
    · rw [List.getElem_append_left hi, List.getElem_append_left (by omega)]
      exact hS hkc (hs i hi (by omega))
    · have e1 : i = us.length := by simp at h1; omega
      subst e1
      have e2 : (us ++ [u])[us.length] = u := by simp
      have e3 : (xs ++ [y])[us.length] = y := by simp [hl]
      rw [e2, e3]
      exact hS hkc hu
theorem TarU.kc {w w' : World} {u : V6} {t : Tar} (h : KC w w') (k : TarU w u t) : TarU w' u t := ⟨k.1, k.2.1, k.2.2.1, k.2.2.2.kc h⟩
theorem Build6.tars {w : World} {v : Value} {xs : List Tar} (h : Build6 TarU p B e w v xs) (hlen : xs.length ≤ 1000) : TarsV (mask p w) v xs := by
  obtain ⟨us, hl, ho, hp, hs⟩ := h
  rcases own_open ho with ⟨rfl, h0⟩ | ⟨g, cap, rfl, -, hg, hn, hc⟩
  · have e : xs = [] := List.eq_nil_of_length_eq_zero h0
    subst e
    exact ⟨none, 0, rfl, Nat.le_refl _, by simp, fun i h => absurd h (Nat.not_lt_zero _)⟩
  · refine ⟨_, cap, rfl, hn, by omega, fun i hi => ⟨g, 0, rfl, ?_⟩⟩
    have hi' : i < us.length := by omega
    obtain ⟨g0, g1, g2, g3, g4, g5⟩ := flat_get us i hi'
    obtain ⟨t0, t1, t2, t3⟩ := TarU.kc (mask_kc (q := p) (w' := w) (fun k _ hc => (cov_no.1 hc).1) (fun _ _ _ => rfl)) (hs i hi' hi)
    have hm : ∀ o x, w.cell? ⟨g, o, none⟩ = some x → (mask p w).cell? ⟨g, o, none⟩ = some x := fun o x hx => by rw [mask_cell, hp g rfl]; exact hx
    rw [t0] at g0
    rw [t1] at g1
    rw [t2] at g2
    simp only [Nat.zero_add]
    exact ⟨_, _, _, hm _ _ (hc _ _ g0), hm _ _ (hc _ _ g1), hm _ _ (hc _ _ g2), hm _ _ (hc _ _ g3), hm _ _ (hc _ _ g4), hm _ _ (hc _ _ g5), t3⟩
end
end Go.Hs
namespace Go.Proofs.Ytedblocbcjoolaa
open Go.RowKit Go.Hs
attribute [local irreducible] World.setCell World.alloc

/-- The blocks that lay before a round, and the box of its tariff. -/
def pit (w : World) (T : Nat) : Nat → Bool := fun k => decide (k < w.heap.size) || (T == k)
theorem pit_no {w : World} {T k : Nat} : pit w T k = false ↔ w.heap.size ≤ k ∧ T ≠ k := by simp [pit]

/-- A tariff that is being copied: its box, without its rates. -/
structure Box (W : World) (T : Nat) (c3 c4 : Value) (t : Tar) (w : World) : Prop where
  t0 : w.cell? ⟨T, 0, none⟩ = some (.int .i64 t.start)
  t1 : w.cell? ⟨T, 1, none⟩ = some (.bool t.whole)
  t2 : w.cell? ⟨T, 2, none⟩ = some (.int .i64 t.least)
  t3 : w.cell? ⟨T, 3, none⟩ = some c3
  t4 : w.cell? ⟨T, 4, none⟩ = some c4
  frozen : ∀ o, w.frozen? ⟨T, o, none⟩ = false
  weeks : IntsV (mask (pit W T) w) c3 t.weeks
  counts : IntsV (mask (pit W T) w) c4 t.counts
  ge : W.heap.size ≤ T
  ext : Ext W w

/-- The six cells of the box. -/
abbrev boxV (t : Tar) (x3 x4 v2 : Value) : V6 := ⟨.int .i64 t.start, .bool t.whole, .int .i64 t.least, x3, x4, v2⟩
structure RatesI (wr wc : World) (T e : Nat) (t : Tar) (x3 x4 v2 : Value) (c : Nat) (w : World) : Prop where
  cells : Cell6 w T 0 (boxV t x3 x4 v2)
  frozen : ∀ o, w.frozen? ⟨T, o, none⟩ = false
  build : Build1 Ints2V (pit wr T) wc.heap.size e w v2 (t.rates.take c)
  but : ExtBut T wc w

theorem RatesI.start {wr wc : World} {T e : Nat} {t : Tar} {x3 x4 : Value} (h : Box wr T x3 x4 t wc) (h5 : wc.cell? ⟨T, 5, none⟩ = some (.slice none 0 0)) : RatesI wr wc T e t x3 x4 (.slice none 0 0) 0 wc :=
  ⟨by refine ⟨?_, ?_, ?_, ?_, ?_, ?_⟩ <;> simp only [Nat.zero_add] <;> first | exact h.t0 | exact h.t1 | exact h.t2 | exact h.t3 | exact h.t4 | exact h5, h.frozen, Build1.nil _, ExtBut.refl _ _⟩

theorem RatesI.next {wr wc wq wz w3 : World} {T e c : Nat} {t : Tar} {x3 x4 v2 v7 v' : Value} {o : Obj} {us : List Value} (hq : RatesI wr wc T e t x3 x4 v2 c wq) (hc : c < t.rates.length) (hTc : T < wc.heap.size) (hrc : wr.heap.size ≤ wc.heap.size)
    (hl : us.length = (t.rates.take c).length) (hp : ∀ k, v2.ownBlock = some k → pit wr T k = false) (hB : ∀ k, v2.ownBlock = some k → wc.heap.size ≤ k ∧ k < wq.heap.size)
    (hs : ∀ i (h1 : i < us.length) (h2 : i < (t.rates.take c).length), Ints2V (mask (cov (pit wr T) v2) wq) us[i] (t.rates.take c)[i]) (hz : Ext wq wz)
    (h7 : Ints2V (mask (oldB wq) wz) v7 (t.rates.getD c [])) (hown : w3.ownsRow wc.heap.size e 1 v' ((t.rates.take c).length + 1) (us ++ [v7])) (hg : (wz.alloc o).grownBy w3 v2.ownBlock)
    (hat : v'.ownBlock = v2.ownBlock ∨ v'.ownBlock = some (wz.alloc o).heap.size) : RatesI wr wc T e t x3 x4 v' (c + 1) (w3.setCell ⟨T, 5, none⟩ v') := by
  have hx : Ext wq (wz.alloc o) := hz.alloc o
  have hq1 : wq.heap.size ≤ wz.heap.size := hz.size
  have hq2 : wc.heap.size ≤ wq.heap.size := hq.but.size
  have hal : (wz.alloc o).heap.size = wz.heap.size + 1 := by simp
  have hsub : KC (mask (oldB wq) wz) (mask (cov (pit wr T) v2) (wz.alloc o)) := ((Ext.refl wz).alloc o).mask (fun k hk hc => by
    rw [oldB_lt] at hc
    rw [cov_no, pit_no]
    refine ⟨⟨by omega, by omega⟩, fun e => ?_⟩
    have := (hB k e).2; omega)
  have b1 : Build1 Ints2V (pit wr T) wc.heap.size e w3 v' (t.rates.take c ++ [t.rates.getD c []]) :=
    Build1.next (S := Ints2V) (fun h k => Ints2V.kc h k) (w := wz.alloc o) hl hp (fun i g1 g2 => (hs i g1 g2).kc (hx.mask (fun _ _ h => h))) (h7.kc hsub) hown hg hat (by rw [pit_no]; omega)
  have e1 : t.rates.take c ++ [t.rates.getD c []] = t.rates.take (c + 1) := by
    rw [List.take_succ_eq_append_getElem hc]; simp [hc]
  rw [e1] at b1
  have hTo : some T ≠ v2.ownBlock := fun e => by
    have := hp T e.symm
    rw [pit_no] at this; exact this.2 rfl
  have hTk : ∀ o' v, wq.cell? ⟨T, o', none⟩ = some v → w3.cell? ⟨T, o', none⟩ = some v := fun o' v h => hg.cell (hx.keep h) hTo
  obtain ⟨c0, c1, c2, c3, c4, c5⟩ := hq.cells
  simp only [Nat.zero_add] at c0 c1 c2 c3 c4 c5
  have n : ∀ i j : Nat, i ≠ j → (⟨T, i, none⟩ : Addr) ≠ ⟨T, j, none⟩ := fun i j hij e => hij (by cases e; rfl)
  have hb : ∀ k, k ≠ T → (w3.setCell ⟨T, 5, none⟩ v').heap[k]? = w3.heap[k]? := fun k hk => Below.heap_setCell _ _ _ _ hk
  have hTq : T < wq.heap.size := by omega
  refine ⟨?_, fun o' => ?_, ?_, ?_⟩
  · refine ⟨?_, ?_, ?_, ?_, ?_, ?_⟩
    all_goals simp only [Nat.zero_add]
    · rw [World.cell?_setCell_other (h := n _ _ (by decide))]; exact hTk _ _ c0
    · rw [World.cell?_setCell_other (h := n _ _ (by decide))]; exact hTk _ _ c1
    · rw [World.cell?_setCell_other (h := n _ _ (by decide))]; exact hTk _ _ c2
    · rw [World.cell?_setCell_other (h := n _ _ (by decide))]; exact hTk _ _ c3
    · rw [World.cell?_setCell_other (h := n _ _ (by decide))]; exact hTk _ _ c4
    · rw [World.cell?_setCell_same (h := hTk _ _ c5)]
  · rw [World.frozen?_setCell, World.frozen?_of_block (w := wz.alloc o) (hg.block T (by simp; omega) hTo), hx.frozen hTq]
    exact hq.frozen o'
  · exact Build1.keep (S := Ints2V) (fun h k => Ints2V.kc h k) b1 (fun k _ hp => hb k (fun e => (pit_no.1 hp).2 e.symm))
  · have E : Below 0 w3 (w3.setCell ⟨T, 5, none⟩ v') := Below.setCell (Below.refl 0 w3) (Nat.zero_le _) v'
    refine ⟨E.os.trans (hg.os.trans (hx.os.trans hq.but.os)), E.tape.trans (hg.tape.trans (hx.tape.trans hq.but.tape)), E.output.trans (hg.output.trans (hx.output.trans hq.but.output)), Nat.le_trans hq2 (Nat.le_trans hx.size (Nat.le_trans hg.size E.size)), ?_⟩
    intro k hk hkT
    rw [hb k hkT]
    have ho : some k ≠ v2.ownBlock := fun e => by
      have := (hB k e.symm).1; omega
    exact (hg.block k (by omega) ho).trans ((hx.heap (by omega)).trans (hq.but.block k hk hkT))

end Go.Proofs.Ytedblocbcjoolaa

/- The reference: the tariff of a day, the loss, the part. -/
namespace Go.Hs
open Go.RowKit
theorem weekTo_eq {xs : List Int} {d : Int} {i : Nat} (hi : xs.getD i 0 ≤ d) : ∀ k, i < k → (∀ m, i < m → m < k → d < xs.getD m 0) → weekTo xs d k = i := by
  intro k
  induction k with
  | zero => intro h; omega
  | succ k ih =>
    intro hk hm
    rw [weekTo_succ]
    by_cases e : i = k
    · subst e; rw [if_pos hi]
    · have := hm k (by omega) (by omega)
      rw [if_neg (by omega)]
      exact ih (by omega) (fun m h1 h2 => hm m h1 (by omega))
theorem atS_eq {l : List Tar} {d : Int} {i : Nat} (hi : (l.getD i default).start ≤ d) (hil : i < l.length) (hm : ∀ m, i < m → m < l.length → d < (l.getD m default).start) : atS l d = l.getD i default := by
  have : ∀ k, i < k → k ≤ l.length → atS (l.take k) d = l.getD i default := by
    intro k
    induction k with
    | zero => intro h; omega
    | succ k ih =>
      intro hk hl
      rw [atS_take (by omega)]
      have e1 : l[k]'(by omega) = l.getD k default := by simp [show k < l.length by omega]
      rw [e1]
      by_cases e : i = k
      · subst e; rw [if_pos hi]
      · have := hm k (by omega) (by omega)
        rw [if_neg (by omega)]
        exact ih (by omega) (by omega)
  have h := this l.length hil (Nat.le_refl _)
  rwa [List.take_length] at h
/-- A list that rises, and begins with at most a number. -/
structure UpFrom (xs : List Int) (n : Int) : Prop where
  pos : 0 < xs.length
  first : xs.getD 0 0 ≤ n
  strict : ∀ a b, a < b → b < xs.length → xs.getD a 0 < xs.getD b 0
theorem UpFrom.last {xs : List Int} {n : Int} (h : UpFrom xs n) {i : Nat} (hi : LastP xs n i) : i < xs.length ∧ xs.getD i 0 ≤ n ∧ (∀ m, i < m → m < xs.length → n < xs.getD m 0) := by
  have hl : i < xs.length := by rcases hi.lt with e | e; · rw [e]; exact h.pos
                                · exact e
  refine ⟨hl, ?_, fun m h1 h2 => ?_⟩
  · by_cases e : i = 0
    · rw [e]; exact h.first
    · exact hi.le i (by omega) (Nat.le_refl _)
  · have g := hi.gt (by omega)
    by_cases e : m = i + 1
    · rw [e]; exact g
    · have := h.strict (i + 1) m (by omega) h2; omega
theorem UpFrom.eq {xs : List Int} {n : Int} (h : UpFrom xs n) {i : Nat} (hi : LastP xs n i) : i = weekTo xs n xs.length :=
  let ⟨a, b, c⟩ := h.last hi
  (weekTo_eq b _ a c).symm
theorem starts_get (l : List Tar) (i : Nat) (hi : i < l.length) : (l.map Tar.start).getD i 0 = (l.getD i default).start := by simp [hi]
theorem ValidL.up {l : List Tar} (h : ValidL l) {d : Int} (hd : 0 ≤ d) : UpFrom (l.map Tar.start) d := by
  refine ⟨by simpa using h.pos, ?_, ?_⟩
  · rw [starts_get l 0 h.pos, h.first]; exact hd
  · intro a b hab hb
    simp at hb
    refine strict_of_step (f := fun i => (l.map Tar.start).getD i 0) (n := l.length) (fun i hi => ?_) a b hab hb
    have := h.link i (by omega)
    simp only [linkB, Bool.and_eq_true, decide_eq_true_eq] at this
    show (l.map Tar.start).getD i 0 < (l.map Tar.start).getD (i + 1) 0
    rw [starts_get l i (by omega), starts_get l (i + 1) hi]; exact this.1
theorem ValidL.of {l : List Tar} (h : ValidL l) {d : Int} (hd : 0 ≤ d) : weekTo (l.map Tar.start) d (l.map Tar.start).length < l.length ∧ l.getD (weekTo (l.map Tar.start) d (l.map Tar.start).length) default = atS l d := by
  have up := h.up hd
  have hex : ∃ i, i < l.length ∧ atS l d = l.getD i default ∧ True := by obtain ⟨i, h1, h2⟩ := atS_mem h.pos (by rw [h.first]; exact hd); exact ⟨i, h1, h2, trivial⟩
  -- the last one that has begun
  have key : ∀ k, 0 < k → k ≤ l.length → ∃ i, i < k ∧ (l.map Tar.start).getD i 0 ≤ d ∧ ∀ m, i < m → m < k → d < (l.map Tar.start).getD m 0 := by
    intro k
    induction k with
    | zero => intro h; omega
    | succ k ih =>
      intro _ hk
      by_cases e : (l.map Tar.start).getD k 0 ≤ d
      · exact ⟨k, by omega, e, fun m h1 h2 => by omega⟩
      · by_cases k0 : k = 0
        · subst k0; exact absurd up.first e
        · obtain ⟨i, h1, h2, h3⟩ := ih (by omega) (by omega)
          refine ⟨i, by omega, h2, fun m g1 g2 => ?_⟩
          by_cases em : m = k
          · subst em; omega
          · exact h3 m g1 (by omega)
  obtain ⟨i, h1, h2, h3⟩ := key l.length h.pos (Nat.le_refl _)
  have e : weekTo (l.map Tar.start) d (l.map Tar.start).length = i := by
    rw [List.length_map]; exact weekTo_eq h2 _ h1 h3
  rw [e]
  refine ⟨h1, (atS_eq (by rw [← starts_get l i h1]; exact h2) h1 (fun m g1 g2 => by rw [← starts_get l m g2]; exact h3 m g1 g2)).symm⟩
theorem Rises.up {xs : List Int} {m n : Int} (h : Rises xs m) (hn : 0 ≤ n) : UpFrom xs n := ⟨h.pos, by rw [h.first]; exact hn, h.strict⟩
end Go.Hs
namespace Go.Proofs.Ytedblocbcjoolaa
open Go.RowKit Go.Hs
attribute [local irreducible] World.setCell World.alloc

end Go.Proofs.Ytedblocbcjoolaa

/- The reference: the tariff of a day. -/
namespace Go.Hs
open Go.RowKit
def IntIs (_ : World) (v : Value) (x : Int) : Prop := v = .int .i64 x ∧ i64ok x
theorem IntIs.kc {w w' : World} {v : Value} {x : Int} (_ : KC w w') (k : IntIs w v x) : IntIs w' v x := k
theorem Build1.ints {p : Nat → Bool} {B e : Nat} {w : World} {v : Value} {xs : List Int} (h : Build1 IntIs p B e w v xs) (hl : xs.length ≤ 1000) : IntsV w v xs := by
  obtain ⟨a, c, he, h1, h2, hr⟩ := Build1.slice (S := IntIs) (fun h k => IntIs.kc h k) h hl
  refine ⟨a, c, he, h1, h2, fun i hi => ?_⟩
  obtain ⟨b, o, hb, x, hc, hx, ho⟩ := hr i hi
  subst hx
  exact ⟨b, o, hb, mask_kc0 p w _ _ _ hc, ho⟩
end Go.Hs
namespace Go.Proofs.Ytedblocbcjoolaa
open Go.RowKit Go.Hs
attribute [local irreducible] World.setCell World.alloc

end Go.Proofs.Ytedblocbcjoolaa

/- The reference: the loss, the part. -/
namespace Go.Proofs.Ytedblocbcjoolaa
open Go.RowKit Go.Hs
attribute [local irreducible] World.setCell World.alloc

end Go.Proofs.Ytedblocbcjoolaa

/- The reference: the part. -/
namespace Go.Proofs.Ytedblocbcjoolaa
open Go.RowKit Go.Hs
attribute [local irreducible] World.setCell World.alloc

end Go.Proofs.Ytedblocbcjoolaa

/- Contracts of the reference of layer 7: what is settled, and what is paid. -/
namespace Go.Hs
open Go.RowKit Go.Proofs.Ytedblocbcjoolaa
/-- An outcome of the reference: the payment, whether the umpire was called, who lost the field. -/
structure Oc where
  pay : Int
  called : Bool
  lost : Int
abbrev Oc.v (o : Oc) : Value := .agg #[.int .i64 o.pay, .bool o.called, .int .i64 o.lost]
theorem sc_ne' {W : World} {b i b' i' : Nat} {x v : Value} (h : b ≠ b' ∨ i ≠ i') (hc : W.cell? ⟨b, i, none⟩ = some x) : (W.setCell ⟨b', i', none⟩ v).cell? ⟨b, i, none⟩ = some x := by
  rw [World.cell?_setCell_other (h := by intro e; cases e; simp at h)]; exact hc
end Go.Hs
namespace Go.Proofs.Ytedblocbcjoolaa
open Go.RowKit Go.Hs
attribute [local irreducible] World.setCell World.alloc

end Go.Proofs.Ytedblocbcjoolaa
