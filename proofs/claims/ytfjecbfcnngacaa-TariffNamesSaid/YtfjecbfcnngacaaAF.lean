/- Words about memory: worlds in which some blocks are covered; lists that are built by appending. -/
import Derived.Test.YtfjecbfcnngacaaP
import Derived.Test.YtfjecbfcnngacaaA
import Derived.Maps.AppendAt
namespace Go.Hs
open Go.RowKit

/-- The world with some blocks covered. -/
def mask (p : Nat → Bool) (w : World) : World := { w with heap := w.heap.mapIdx (fun i o => if p i then .map #[] 0 else o) }
theorem mask_cell (p : Nat → Bool) (w : World) (b o : Nat) : (mask p w).cell? ⟨b, o, none⟩ = if p b then none else w.cell? ⟨b, o, none⟩ := by
  unfold World.cell? mask
  simp only [Array.getElem?_mapIdx]
  cases h : w.heap[b]? with
  | none => simp
  | some x => cases hp : p b <;> simp
theorem mask_kc {p q : Nat → Bool} {w w' : World} (hq : ∀ k, k < w.heap.size → p k = false → q k = false) (h : ∀ k, k < w.heap.size → p k = false → w'.heap[k]? = w.heap[k]?) : KC (mask p w) (mask q w') := by
  intro k o v hc
  rw [mask_cell] at hc ⊢
  cases hp : p k with
  | true => rw [hp] at hc; simp at hc
  | false =>
    rw [hp] at hc
    simp only [Bool.false_eq_true, if_false] at hc
    have hk : k < w.heap.size := lt_of_cell (a := ⟨k, o, none⟩) hc
    rw [hq k hk hp]
    simp only [Bool.false_eq_true, if_false]
    rw [World.cell?_of_block (w := w) (h k hk hp)]; exact hc
theorem mask_kc0 (p : Nat → Bool) (w : World) : KC (mask p w) w := by
  intro k o v hc
  rw [mask_cell] at hc
  split at hc
  · cases hc
  · exact hc
theorem Ext.mask {p q : Nat → Bool} {w w' : World} (h : Ext w w') (hq : ∀ k, k < w.heap.size → p k = false → q k = false) : KC (mask p w) (mask q w') := mask_kc hq (fun _ hk _ => h.heap hk)
/-- From a world on into one in which new blocks alone are covered. -/
theorem Ext.masked {q : Nat → Bool} {w w' : World} (h : Ext w w') (hq : ∀ k, k < w.heap.size → q k = false) : KC w (Hs.mask q w') := by
  intro k o v hc
  have hk : k < w.heap.size := lt_of_cell (a := ⟨k, o, none⟩) hc
  rw [mask_cell, hq k hk]
  exact h.keep hc

/-- The old blocks. -/
def oldB (w : World) : Nat → Bool := fun k => decide (k < w.heap.size)
theorem oldB_lt {w : World} {k : Nat} : oldB w k = false ↔ w.heap.size ≤ k := by simp [oldB]

theorem grown_ext {W w w' : World} {o : Option Nat} (h : Ext W w) (hg : w.grownBy w' o) (ho : ∀ g, o = some g → W.heap.size ≤ g) : Ext W w' :=
  ⟨hg.os.trans h.os, hg.tape.trans h.tape, hg.output.trans h.output, Nat.le_trans h.size hg.size, fun i hi => (hg.block i (Nat.lt_of_lt_of_le hi h.size) (fun e => by have := ho i e.symm; omega)).trans (h.block i hi)⟩

/-- What is owned, read out. -/
theorem own_open {w : World} {B e k n : Nat} {v : Value} {us : List Value} (h : w.ownsRow B e k v n us) :
    (v = .slice none 0 0 ∧ n = 0) ∨ ∃ g cap, v = .slice (some ⟨g, 0, none⟩) n cap ∧ B ≤ g ∧ g < w.heap.size ∧ n ≤ cap ∧ ∀ j u, us[j]? = some u → w.cell? ⟨g, j, none⟩ = some u := by
  have hc := fun g => h.cells (g := g)
  rcases h.2 with h0 | ⟨g, cap, cur, rfl, hb, hg, hn, -, -, -⟩
  · exact .inl h0
  · refine .inr ⟨g, cap, rfl, hb, (Array.getElem?_eq_some_iff.1 hg).1, hn, fun j u hu => ?_⟩
    have := hc g rfl j u hu
    have e : (⟨g, 0, none⟩ : Addr).add j = ⟨g, j, none⟩ := by
      unfold Addr.add
      split
      · rename_i h; subst h; rfl
      · simp
    rw [e] at this
    exact this
theorem own_lt {w : World} {B e k n : Nat} {v : Value} {us : List Value} (h : w.ownsRow B e k v n us) {g : Nat} (hg : v.ownBlock = some g) : B ≤ g ∧ g < w.heap.size := by
  rcases own_open h with ⟨rfl, -⟩ | ⟨g', cap, rfl, hb, hl, -, -⟩
  · simp [Value.ownBlock] at hg
  · simp [Value.ownBlock] at hg
    subst hg; exact ⟨hb, hl⟩
theorem own_keep {w w' : World} {B e k n : Nat} {v : Value} {us : List Value} (h : w.ownsRow B e k v n us) (hk : ∀ g, v.ownBlock = some g → w'.heap[g]? = w.heap[g]?) : w'.ownsRow B e k v n us := by
  refine ⟨h.1, ?_⟩
  rcases h.2 with h0 | ⟨g, cap, cur, rfl, hb, hg, rest⟩
  · exact .inl h0
  · exact .inr ⟨g, cap, cur, rfl, hb, by rw [hk g rfl]; exact hg, rest⟩

/-- What the elements of a list that is being built must not lie in: some blocks, and the list's own row. -/
def cov (p : Nat → Bool) (v : Value) : Nat → Bool := fun k => p k || (v.ownBlock == some k)
theorem cov_no {p : Nat → Bool} {v : Value} {k : Nat} : cov p v k = false ↔ p k = false ∧ v.ownBlock ≠ some k := by
  unfold cov
  simp

/-- A list that is being built, one cell an element. -/
def Build1 {α : Type} (S : World → Value → α → Prop) (p : Nat → Bool) (B e : Nat) (w : World) (v : Value) (xs : List α) : Prop :=
  ∃ us : List Value, us.length = xs.length ∧ w.ownsRow B e 1 v xs.length us ∧ (∀ k, v.ownBlock = some k → p k = false) ∧ ∀ i (h1 : i < us.length) (h2 : i < xs.length), S (mask (cov p v) w) us[i] xs[i]

section
variable {α : Type} {S : World → Value → α → Prop} (hS : ∀ {w w' : World} {v : Value} {x : α}, KC w w' → S w v x → S w' v x) {p : Nat → Bool} {B e : Nat}
theorem Build1.nil (w : World) : Build1 S p B e w (.slice none 0 0) [] := ⟨[], rfl, World.ownsRow_nil _ _ _ _, fun _ h => by simp [Value.ownBlock] at h, fun i h => absurd h (Nat.not_lt_zero _)⟩
include hS in
theorem Build1.keep {w w' : World} {v : Value} {xs : List α} (h : Build1 S p B e w v xs) (hk : ∀ k, k < w.heap.size → p k = false → w'.heap[k]? = w.heap[k]?) : Build1 S p B e w' v xs := by
  obtain ⟨us, hl, ho, hp, hs⟩ := h
  refine ⟨us, hl, own_keep ho (fun g hg => hk g (own_lt ho hg).2 (hp g hg)), hp, fun i h1 h2 => hS (mask_kc (fun _ _ h => h) (fun k hk' hc => hk k hk' (cov_no.1 hc).1)) (hs i h1 h2)⟩
include hS in
theorem Build1.next {w w' : World} {v v' u : Value} {xs : List α} {y : α} {us : List Value} (hl : us.length = xs.length) (hp : ∀ k, v.ownBlock = some k → p k = false)
    (hs : ∀ i (h1 : i < us.length) (h2 : i < xs.length), S (mask (cov p v) w) us[i] xs[i]) (hu : S (mask (cov p v) w) u y) (ho : w'.ownsRow B e 1 v' (xs.length + 1) (us ++ [u])) (hg : w.grownBy w' v.ownBlock)
    (hat : v'.ownBlock = v.ownBlock ∨ v'.ownBlock = some w.heap.size) (hpw : p w.heap.size = false) : Build1 S p B e w' v' (xs ++ [y]) := by
  have hkc : KC (mask (cov p v) w) (mask (cov p v') w') := by
    refine mask_kc (fun k hk hc => ?_) (fun k hk hc => hg.block k hk (fun e => (cov_no.1 hc).2 e.symm))
    obtain ⟨h1, h2⟩ := cov_no.1 hc
    refine cov_no.2 ⟨h1, ?_⟩
    rcases hat with h | h
    · rw [h]; exact h2
    · rw [h]; intro e; cases e; omega
  refine ⟨us ++ [u], by simp [hl], by simpa using ho, fun k hk => ?_, fun i h1 h2 => ?_⟩
  · rcases hat with h | h
    · exact hp k (h ▸ hk)
    · rw [h] at hk; cases hk; exact hpw
  · by_cases hi : i < us.length
    · rw [List.getElem_append_left hi, List.getElem_append_left (by omega)]
      exact hS hkc (hs i hi (by omega))
    · have e1 : i = us.length := by simp at h1; omega
      subst e1
      have e2 : (us ++ [u])[us.length] = u := by simp
      have e3 : (xs ++ [y])[us.length] = y := by simp [hl]
      rw [e2, e3]
      exact hS hkc hu
include hS in
theorem Build1.slice {w : World} {v : Value} {xs : List α} (h : Build1 S p B e w v xs) (hlen : xs.length ≤ 1000) : SliceV (fun w b o x => ∃ v, w.cell? ⟨b, o, none⟩ = some v ∧ S w v x) 1 (mask p w) v xs := by
  obtain ⟨us, hl, ho, hp, hs⟩ := h
  rcases own_open ho with ⟨rfl, h0⟩ | ⟨g, cap, rfl, -, hg, hn, hc⟩
  · have e : xs = [] := List.eq_nil_of_length_eq_zero h0
    subst e
    exact ⟨none, 0, rfl, Nat.le_refl _, by simp, fun i h => absurd h (Nat.not_lt_zero _)⟩
  · refine ⟨_, cap, rfl, hn, by omega, fun i hi => ⟨g, 0, rfl, us[i]'(by omega), ?_, ?_⟩⟩
    · rw [mask_cell, hp g rfl]
      simp only [Bool.false_eq_true, if_false]
      have := hc i (us[i]'(by omega)) (by simp)
      simpa using this
    · exact hS (mask_kc (fun k _ hc => (cov_no.1 hc).1) (fun _ _ _ => rfl)) (hs i (by omega) hi)
end
end Go.Hs
namespace Go.Proofs.Ytfjecbfcnngacaa
open Go.RowKit Go.Hs
attribute [local irreducible] World.setCell World.alloc

theorem add_none' (b o n : Nat) : (⟨b, o, none⟩ : Addr).add n = ⟨b, o + n, none⟩ := by
  unfold Addr.add
  split
  · rename_i h; subst h; rfl
  · rfl

theorem run_append_none {P : Program} (w : World) (t ty e : TypeId) (i : TypeInfo) (ht : P.underlying t = some (.slice e)) (hi : P.info? e = some i) (base b : Option Addr) (sLen sCap c : Nat) (hle : sLen ≤ sCap) :
    (Builtin.append_ #[t, t] ty #[.slice base sLen sCap, .slice b 0 c]).run P w = .ok (.slice base sLen sCap) w := by
  cases base <;> cases b <;> simp [Builtin.append_, run_underlying ht, sizeOf, typeInfo, hi, Builtin.lenOf, hle, Builtin.firstCells, loadCells, loadCellsFrom, storeCells]

theorem wpList_append_none {P : Program} {w : World} {ops : Array Oper} {rest : List Oper} {o : Oper} {a : Act} {Q : Exit → Act → World → Prop} (hgd : o.guard = none) (s x : Operand) (t : TypeId)
    (ho : o.op = .call { callee := .builtin .append, args := #[s, x], argTypes := #[t, t] }) (e : TypeId) (i : TypeInfo) (ht : P.underlying t = some (.slice e)) (hi : P.info? e = some i)
    (base b : Option Addr) (sLen sCap c : Nat) (hle : sLen ≤ sCap) (hs : a.eval s = .slice base sLen sCap) (hx : a.eval x = .slice b 0 c)
    (h : wpList P ops Q rest (a.put o.dst (.slice base sLen sCap)) w) : wpList P ops Q (o :: rest) a w :=
  wpList_plain hgd fun _ hK => by
    have hr := run_append_none (P := P) w t o.type e i ht hi base b sLen sCap c hle
    unfold Oper.wp execOp
    simp only [ho, resolve, invoke, builtin, Sem.run_bind, Sem.run_pure, Result.andThen_ok, List.map_toArray, List.map_cons, List.map_nil, hs, hx, hr]
    exact hK _ _ h

theorem info_int : (Try.prog.info? 3).map (fun i => (i.zero, i.size, i.bytes)) = some (some (.int .i64 0), 1, 8) := by kernel_rfl

set_option maxRecDepth 100000 in
theorem list_any (v : Value) (xs : List Int) (w : World) (hv : IntsV w v xs) (hl : xs.length ≤ 7) :
    Calls Try.prog 63 #[v] w fun e w' => ∃ a c, e = .returned (.slice a xs.length c) ∧ IntsV (mask (oldB w) w') (.slice a xs.length c) xs ∧ Ext w w' := by
  obtain ⟨a, c, rfl, h1, h2, hr⟩ := hv
  obtain ⟨i0, hi, hz0, hz1, hz2⟩ := info_parts info_int
  by_cases h0 : xs = []
  · subst h0
    go_enter Try.func63, Try.ntmps63
    go_wp2_with (at_builtin; refine wpList_append_none rfl _ _ 59 rfl 3 i0 Try.underlying59 hi _ _ _ _ _ (Nat.le_refl _) rfl rfl ?_)
    go_ret
    exact ⟨_, _, rfl, ⟨_, _, rfl, by simp, by simp, fun i hi => absurd hi (by simp)⟩, by (repeat (first | exact Ext.refl _ | (with_reducible assumption) | (with_reducible refine Ext.drew ?_) | (with_reducible refine Ext.alloc ?_ _) | (with_reducible refine Ext.drewN ?_ _) | (with_reducible refine Ext.setCell ?_ (by omega) _) | (with_reducible refine Ext.trans ?_ (by with_reducible assumption))))⟩
  · have hpos : 0 < xs.length := List.length_pos_iff.2 h0
    obtain ⟨b, off, rfl, hc⟩ := hr 0 hpos
    have HR := Lib.hid hr
    have H0 := Lib.hid h0
    clear hr h0 hc
    go_enter Try.func63, Try.ntmps63
    go_wp2_with (at_builtin; refine wpList_append_own_at _ rfl _ _ 59 rfl w.heap.size 3 i0 (.int .i64 0) 1 8 Try.underlying59 hi hz0 hz1 hz2 rfl (by decide) (.slice (some ⟨w.heap.size, 0, none⟩) 0 0) 0 [] rfl ?own ⟨b, off, none⟩ xs.length c (xs.map (.int .i64)) rfl ?len ?cells ?one ?fit1 ?fit2 ?fit3 ?next)
    case own => exact ⟨rfl, .inr ⟨_, _, _, rfl, Nat.le_refl _, heap_alloc_new _ _, Nat.le_refl _, by simp, rfl, rfl⟩⟩
    case len => simp
    case cells =>
      intro j u hj
      have hj' : j < xs.length := by
        rcases Nat.lt_or_ge j xs.length with h | h
        · exact h
        · rw [List.getElem?_eq_none (by simpa using h)] at hj; cases hj
      have := (Rows.at HR.out j hj').1
      rw [add_none']
      simp [hj'] at hj
      rw [← hj]
      exact ((Ext.refl w).alloc _).keep (by simpa using this)
    case one =>
      intro u hu
      obtain ⟨x, -, rfl⟩ := List.mem_map.1 hu
      rfl
    case fit1 => simp only [maxLen]; omega
    case fit2 => omega
    case fit3 => simp
    case next =>
      intro v' w' hown hgrow hnil hat
      have hv' := own_open hown
      have hx : Ext w w' := grown_ext ((Ext.refl w).alloc _) hgrow (fun g hg => by simp [Value.ownBlock] at hg; omega)
      rcases hv' with ⟨-, h0⟩ | ⟨g, cap, rfl, hB, hlt, hcap, hcells⟩
      · omega
      · clear hnil hat hown hgrow
        go_wp2_with fail
        go_ret
        refine ⟨_, _, rfl, ⟨_, _, rfl, hcap, h2, fun i hi => ⟨g, 0, rfl, ?_, (Rows.at HR.out i hi).2⟩⟩, hx⟩
        rw [mask_cell, oldB_lt.2 hB]
        have := hcells i (.int .i64 xs[i]) (by simp [hi])
        simpa using this
end Go.Proofs.Ytfjecbfcnngacaa
