/- Plain facts on a list of claims that is turned, and words about worlds in which some blocks may turn. -/
import Derived.Test.YtfjecbfcnngacaaBX
namespace Go.Hs
open Go.RowKit
/-- The world has grown; the blocks from lo to hi may have turned. -/
structure EG (lo hi : Nat) (w w' : World) : Prop where
  os : w'.os = w.os
  tape : w'.tape = w.tape
  output : w'.output = w.output
  size : w.heap.size ≤ w'.heap.size
  block : ∀ k, k < w.heap.size → k < lo ∨ hi ≤ k → w'.heap[k]? = w.heap[k]?
theorem Ext.eg {lo hi : Nat} {w w' : World} (h : Ext w w') : EG lo hi w w' := ⟨h.os, h.tape, h.output, h.size, fun k hk _ => h.block k hk⟩
theorem EG.refl {lo hi : Nat} (w : World) : EG lo hi w w := (Ext.refl w).eg
theorem EG.trans {lo hi : Nat} {a b c : World} (h : EG lo hi a b) (k : EG lo hi b c) : EG lo hi a c :=
  ⟨k.os.trans h.os, k.tape.trans h.tape, k.output.trans h.output, Nat.le_trans h.size k.size, fun i hi hr => (k.block i (Nat.lt_of_lt_of_le hi h.size) hr).trans (h.block i hi hr)⟩
theorem EG.ext {lo hi : Nat} {a b c : World} (h : EG lo hi a b) (k : Ext b c) : EG lo hi a c := h.trans k.eg
theorem EG.drew {lo hi : Nat} {a b : World} (h : EG lo hi a b) : EG lo hi a b.drew := h.ext (Ext.refl b).drew
theorem EG.drewN {lo hi : Nat} {a b : World} (h : EG lo hi a b) (n : Nat) : EG lo hi a (b.drewN n) := h.ext ((Ext.refl b).drewN n)
theorem EG.alloc {lo hi : Nat} {a b : World} (h : EG lo hi a b) (o : Obj) : EG lo hi a (b.alloc o) := h.ext ((Ext.refl b).alloc o)
theorem EG.grown {lo hi : Nat} {a b : World} {o : Option Nat} (h : a.grownBy b o) (ho : ∀ g, o = some g → lo ≤ g ∧ g < hi) : EG lo hi a b :=
  ⟨h.os, h.tape, h.output, h.size, fun i hi hr => h.block i hi (fun e => by have := ho i e.symm; omega)⟩
theorem EG.keep {lo hi : Nat} {a b : World} (h : EG lo hi a b) {k o : Nat} {v : Value} (hr : k < lo ∨ hi ≤ k) (hc : a.cell? ⟨k, o, none⟩ = some v) : b.cell? ⟨k, o, none⟩ = some v := by
  rw [World.cell?_of_block (w := a) (a := ⟨k, o, none⟩) (h.block k (lt_of_cell (a := ⟨k, o, none⟩) hc) hr)]; exact hc
theorem EG.frozen {lo hi : Nat} {a b : World} (h : EG lo hi a b) {k o : Nat} (hk : k < a.heap.size) (hr : k < lo ∨ hi ≤ k) : b.frozen? ⟨k, o, none⟩ = a.frozen? ⟨k, o, none⟩ :=
  World.frozen?_of_block (w := a) (a := ⟨k, o, none⟩) (h.block k hk hr)
/-- From a world on in which the turned blocks did not lie yet. -/
theorem EG.over {lo hi : Nat} {W a b : World} (h : Ext W a) (hl : W.heap.size ≤ lo) (k : EG lo hi a b) : Ext W b :=
  ⟨k.os.trans h.os, k.tape.trans h.tape, k.output.trans h.output, Nat.le_trans h.size k.size, fun i hi => (k.block i (Nat.lt_of_lt_of_le hi h.size) (.inl (by omega))).trans (h.block i hi)⟩
theorem EG.setCell {lo hi : Nat} {a b : World} {T i : Nat} (h : EG lo hi a b) (hT : a.heap.size ≤ T) (x : Value) : EG lo hi a (b.setCell ⟨T, i, none⟩ x) :=
  have E : Below 0 b (b.setCell ⟨T, i, none⟩ x) := Below.setCell (Below.refl 0 b) (Nat.zero_le _) x
  ⟨E.os.trans h.os, E.tape.trans h.tape, E.output.trans h.output, Nat.le_trans h.size E.size, fun k hk hr => (Below.heap_setCell _ _ _ _ (show k ≠ T by omega)).trans (h.block k hk hr)⟩
/-- What was copied into new blocks stays when an elder row grows. -/
theorem tars_grown {wt w3 wa w4 : World} {v : Value} {l : List Tar} {o : Option Nat} (h : TarsV (mask (oldB wt) w3) v l) (hx : Ext w3 wa) (hg : wa.grownBy w4 o) (ho : ∀ g, o = some g → g < wt.heap.size) : TarsV w4 v l := by
  refine TarsV.kc (w := mask (oldB wt) w3) ?_ h
  intro k i x hc
  rw [mask_cell] at hc
  split at hc
  · cases hc
  · rename_i hk
    have hk : oldB wt k = false := by simpa using hk
    rw [oldB_lt] at hk
    have h1 := hx.keep hc
    exact hg.cell h1 (fun e => by have := ho k e.symm; omega)
theorem six_in {W wa : World} {b : Nat} {u : V6} {t : TypeId} (h : Ext (W.alloc (.cells #[u.c0, u.c1, u.c2, u.c3, u.c4, u.c5] t)) wa) (hb : b = W.heap.size) : ∀ j x, u.cs[j]? = some x → wa.cell? ((⟨b, 0, none⟩ : Addr).add j) = some x := by
  subst hb
  intro j x hj
  have := cell_six_new W u t j x hj
  rw [Go.Proofs.Ytfjecbfcnngacaa.add_none'] at this ⊢
  exact h.keep this
theorem own_clas {α : Type} {Cu : α → V6} {w : World} {B e n : Nat} {v : Value} {us : List Value} {cs : List α} (h : w.ownsRow B e 6 v n us) (hu : us = (cs.map Cu).flatMap V6.cs) (hn : n = cs.length) (hl : cs.length ≤ 1000) : ClasV Cu w v cs := by
  subst hu hn
  rcases own_open h with ⟨rfl, h0⟩ | ⟨g, cap, rfl, -, hg, hn, hc⟩
  · have e : cs = [] := List.eq_nil_of_length_eq_zero h0
    subst e
    exact ⟨none, 0, rfl, Nat.le_refl _, by simp, fun i h => absurd h (by simp)⟩
  · refine ⟨_, cap, rfl, hn, hl, fun i hi => ⟨g, 0, rfl, ?_⟩⟩
    obtain ⟨g0, g1, g2, g3, g4, g5⟩ := flat_get (cs.map Cu) i hi
    simp only [Nat.zero_add]
    exact ⟨hc _ _ g0, hc _ _ g1, hc _ _ g2, hc _ _ g3, hc _ _ g4, hc _ _ g5⟩
theorem Build6.own {α : Type} {Cu : α → V6} {p : Nat → Bool} {B e : Nat} {w : World} {v : Value} {xs : List α} (h : Build6 (UIs Cu) p B e w v xs) : w.ownsRow B e 6 v xs.length ((xs.map Cu).flatMap V6.cs) := by
  obtain ⟨us, hu, ho, hp, hs⟩ := h
  have hus : us = xs.map Cu := by
    refine List.ext_getElem (by simpa using hu) (fun i h1 h2 => ?_)
    have := hs i h1 (by simpa using h2)
    simpa [UIs] using this
  subst hus
  exact ho
end Go.Hs
namespace Go.Proofs.Ytfjecbfcnngacaa
open Go.RowKit Go.Hs
/-- A box of two zeros, kept where other blocks turn. -/
theorem ZB.keepG {lo hi : Nat} {w w' : World} {T : Nat} (z : ZB w T) (h : EG lo hi w w') (hT : hi ≤ T) : ZB w' T :=
  have l := lt_of_cell z.z0
  ⟨h.keep (.inr hT) z.z0, h.keep (.inr hT) z.z1, (h.frozen l (.inr hT)).trans z.f0, (h.frozen l (.inr hT)).trans z.f1⟩
/-- A box of two numbers, made since a world, where other blocks may have turned. -/
structure BoxG (lo hi : Nat) (W : World) (T : Nat) (a b : Int) (w : World) : Prop where
  b0 : w.cell? ⟨T, 0, none⟩ = some (.int .i64 a)
  b1 : w.cell? ⟨T, 1, none⟩ = some (.int .i64 b)
  ext : EG lo hi W w
  ge : W.heap.size ≤ T
theorem BoxG.stored {lo hi : Nat} {W w : World} {T : Nat} {a b : Int} (z : ZB w T) (h : EG lo hi W w) (hT : W.heap.size ≤ T) : BoxG lo hi W T a b ((w.setCell ⟨T, 0, none⟩ (.int .i64 a)).setCell ⟨T, 1, none⟩ (.int .i64 b)) :=
  ⟨set_off (by omega) (set_same z.z0), set_same (set_off (by omega) z.z1), (h.setCell hT _).setCell hT _, hT⟩
theorem BoxG.made {lo hi : Nat} {W w : World} (h : EG lo hi W w) (a b : Int) (t : TypeId) : BoxG lo hi W w.heap.size a b (w.alloc (.cells #[.int .i64 a, .int .i64 b] t)) :=
  ⟨by simp, by simp, h.alloc _, h.size⟩

/-- The list, turned. -/
def rotC (cs : List Cla) (b : Nat) : List Cla := (List.range cs.length).map (fun i => cs.getD ((i + b) % cs.length) default)
theorem rot_len (cs : List Cla) (b : Nat) : (rotC cs b).length = cs.length := by simp [rotC]
theorem rot_next {cs : List Cla} {b k j : Nat} (hk : k < cs.length) (hj : j = (k + b) % cs.length) (hjn : j < cs.length) : (rotC cs b).take k ++ [cs[j]] = (rotC cs b).take (k + 1) := by
  have hk' : k < (rotC cs b).length := by rw [rot_len]; exact hk
  rw [List.take_succ_eq_append_getElem hk']
  congr 2
  subst hj
  simp [rotC, hjn]
theorem rot_eq (cs : List Cla) (b : Nat) : rotC cs b = cs.drop (b % cs.length) ++ cs.take (b % cs.length) := by
  rcases Nat.eq_zero_or_pos cs.length with h0 | h0
  · have : cs = [] := List.eq_nil_of_length_eq_zero h0
    subst this; simp [rotC]
  · have hb : b % cs.length < cs.length := Nat.mod_lt _ h0
    refine List.ext_getElem (by simp [rotC]; omega) (fun i h1 h2 => ?_)
    have hi : i < cs.length := by simpa [rotC] using h1
    have e : (i + b) % cs.length = if i + b % cs.length < cs.length then i + b % cs.length else i + b % cs.length - cs.length := by
      rw [Nat.add_mod, Nat.mod_eq_of_lt hi]
      split
      · rename_i h; exact Nat.mod_eq_of_lt h
      · rename_i h
        rw [Nat.mod_eq_sub_mod (by omega)]
        exact Nat.mod_eq_of_lt (by omega)
    have hjn : (i + b) % cs.length < cs.length := Nat.mod_lt _ h0
    have e2 : (rotC cs b)[i] = cs[(i + b) % cs.length] := by simp [rotC, hjn]
    rw [e2]
    simp only [e]
    by_cases h : i + b % cs.length < cs.length
    · rw [List.getElem_append_left (by simp; omega)]
      simp only [if_pos h, List.getElem_drop]
      congr 1; omega
    · rw [List.getElem_append_right (by simp; omega)]
      simp only [if_neg h, List.getElem_take, List.length_drop]
      congr 1; omega
theorem sumLo_append (l : List Tar) (a b : List Cla) : sumLo l (a ++ b) = sumLo l a + sumLo l b := by simp [sumLo]
theorem sumHi_append (l : List Tar) (a b : List Cla) : sumHi l (a ++ b) = sumHi l a + sumHi l b := by simp [sumHi]
theorem rot_lo (l : List Tar) (cs : List Cla) (b : Nat) : sumLo l (rotC cs b) = sumLo l cs := by
  rw [rot_eq, sumLo_append, Int.add_comm, ← sumLo_append, List.take_append_drop]
theorem rot_hi (l : List Tar) (cs : List Cla) (b : Nat) : sumHi l (rotC cs b) = sumHi l cs := by
  rw [rot_eq, sumHi_append, Int.add_comm, ← sumHi_append, List.take_append_drop]
theorem rot_mem {cs : List Cla} {b : Nat} {c : Cla} (h : c ∈ rotC cs b) : c ∈ cs := by
  rw [rot_eq] at h
  rcases List.mem_append.1 h with g | g
  · exact List.mem_of_mem_drop g
  · exact List.mem_of_mem_take g
theorem claimsB_of {l : List Tar} {cs : List Cla} (h : ∀ c, c ∈ cs → claimB l c = true) : claimsB l cs = true :=
  allB_iff.2 fun i hi => by
    have e : cs.getD i default = cs[i] := by simp [hi]
    first
      | (rw [e]; exact h _ (List.getElem_mem hi))
      | (have := h _ (List.getElem_mem hi); simpa [hi] using this)
theorem tot_ok {l : List Tar} {cs : List Cla} (h0 : checkS l = 0) (h5 : cs.length ≤ 5) (h : ∀ c, c ∈ cs → claimB l c = true) : totE l cs = 0 ∧ totLo l cs = sumLo l cs ∧ totHi l cs = sumHi l cs := by
  have e : totE l cs = 0 := by unfold totE; rw [if_neg (by simp [h0]), if_neg (by omega), claimsB_of h]; rfl
  exact ⟨e, by unfold totLo; rw [if_pos e], by unfold totHi; rw [if_pos e]⟩
end Go.Proofs.Ytfjecbfcnngacaa
