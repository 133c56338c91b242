/- Plain laws of layer 7: both ends of all bounds are reached in some truth. -/
import Derived.Test.YtbmjnilcinfdiaaGreatKXJ
import Derived.Test.YtbmjnilcinfdiaaGreatKRB
import Derived.Test.YtbmjnilcinfdiaaGreatKRF
set_option linter.unusedSimpArgs false
set_option linter.unusedVariables false
namespace Go.Hs
open Go.RowKit Go.Proofs.YtbmjnilcinfdiaaGreat
/-- Which ends a sum meets. -/
def nowB (c : Cas) (s : Sm) : Nat → Bool
  | 0 => s.award == bLo c 0
  | 1 => s.award == bHi c 0
  | 2 => feeA c.fee s == bLo c 1
  | 3 => feeA c.fee s == bHi c 1
  | 4 => feeB c.fee s == bLo c 2
  | 5 => feeB c.fee s == bHi c 2
  | 6 => s.award - feeA c.fee s == bLo c 3
  | _ => s.award + feeB c.fee s == bHi c 4
def metB (c : Cas) (f : Fld) (i k : Nat) : Bool := (List.range i).any (fun j => nowB c (sumT c [f] [truthAt f j]) k)
theorem metB_zero (c : Cas) (f : Fld) : metB c f 0 = fun _ => false := rfl
theorem metB_next (c : Cas) (f : Fld) (i k : Nat) : metB c f (i + 1) k = (metB c f i k || nowB c (sumT c [f] [truthAt f i]) k) := by
  unfold metB
  rw [List.range_succ, List.any_append]; simp
theorem met_of {c : Cas} {f : Fld} (hf : c.flds = [f]) {s : Sm} (hs : s ∈ sumsS c) {k : Nat} (h : nowB c s k = true) : metB c f (truthsN f) k = true := by
  obtain ⟨t, ht, rfl⟩ := mem_sumsS.1 hs
  rw [hf] at ht
  cases ht with
  | cons hx hk =>
    cases hk
    rename_i x
    obtain ⟨i, hi, rfl⟩ := List.mem_map.1 (mem_truths.2 hx)
    unfold metB
    rw [List.any_eq_true]
    exact ⟨i, hi, by rw [hf] at h; exact h⟩
theorem metB_all {c : Cas} (hc : CasOK c) {f : Fld} (hf : c.flds = [f]) (k : Nat) : metB c f (truthsN f) k = true := by
  have g : ∀ q, (∃ s, s ∈ sumsS c ∧ askQ q c.fee s = bLo c q) ∧ ∃ s, s ∈ sumsS c ∧ askQ q c.fee s = bHi c q := fun q => ⟨(bounds_ends hc q).mn, (bounds_ends hc q).mx⟩
  match k with
  | 0 => obtain ⟨⟨s, hs, e⟩, -⟩ := g 0; exact met_of hf hs (by simpa [nowB, askQ] using e)
  | 1 => obtain ⟨-, s, hs, e⟩ := g 0; exact met_of hf hs (by simpa [nowB, askQ] using e)
  | 2 => obtain ⟨⟨s, hs, e⟩, -⟩ := g 1; exact met_of hf hs (by simpa [nowB, askQ] using e)
  | 3 => obtain ⟨-, s, hs, e⟩ := g 1; exact met_of hf hs (by simpa [nowB, askQ] using e)
  | 4 => obtain ⟨⟨s, hs, e⟩, -⟩ := g 2; exact met_of hf hs (by simpa [nowB, askQ] using e)
  | 5 => obtain ⟨-, s, hs, e⟩ := g 2; exact met_of hf hs (by simpa [nowB, askQ] using e)
  | 6 => obtain ⟨⟨s, hs, e⟩, -⟩ := g 3; exact met_of hf hs (by simpa [nowB, askQ] using e)
  | (_ + 7) => obtain ⟨-, s, hs, e⟩ := g 4; exact met_of hf hs (by simpa [nowB, askQ] using e)
theorem isCount_mem {f : Fld} {n : Nat} (hn : n < 101) : decide ((n : Int) ∈ countsS f) = isCount f n := by
  rw [Bool.eq_iff_iff, decide_eq_true_iff]
  unfold countsS
  simp only [List.mem_map, List.mem_filter, List.mem_range]
  constructor
  · rintro ⟨i, ⟨_, h⟩, e⟩
    obtain rfl : i = n := by omega
    exact h
  · intro h; exact ⟨n, ⟨hn, h⟩, rfl⟩
/-- The state of the loop over all truths. -/
structure EndsI (W : World) (S T : Nat) (c : Cas) (f : Fld) (i : Nat) (w : World) : Prop where
  kp : KP (fun j => j = S ∨ j = T) W w
  seen : BitsAt S 8 (metB c f i) w
  sfr : ∀ o, w.frozen? ⟨S, o, none⟩ = false
  is : BitsAt T 101 (seenB f i) w
  tfr : ∀ o, w.frozen? ⟨T, o, none⟩ = false
/-- The state of the loop over what is seen. -/
structure SeenI (W : World) (S : Nat) (g h : Nat → Bool) (m : Nat) (w : World) : Prop where
  kp : KP (fun j => j = S) W w
  bits : BitsAt S 8 (fun j => if j < m then (g j || h j) else g j) w
  fr : ∀ o, w.frozen? ⟨S, o, none⟩ = false
theorem SeenI.next {W w : World} {S m : Nat} {g h : Nat → Bool} (k : SeenI W S g h m w) (_ : m < 8) : SeenI W S g h (m + 1) (w.setCell ⟨S, m, none⟩ (.bool (g m || h m))) := by
  refine ⟨k.kp.setCell (p := fun j => j = S) rfl _, fun j hj => ?_, fun o => by rw [World.frozen?_setCell]; exact k.fr o⟩
  have hb := k.bits j hj
  by_cases e : j = m
  · subst e
    simp only [show j < j + 1 from Nat.lt_succ_self j, if_true]
    exact sc_eq' hb
  · have : (j < m + 1) = (j < m) := by simp; omega
    simp only [this]
    exact sc_ne' (.inr e) hb
theorem bits_of {W w : World} {S : Nat} {b0 b1 b2 b3 b4 b5 b6 b7 : Bool} (h : BoxN W S [.bool b0, .bool b1, .bool b2, .bool b3, .bool b4, .bool b5, .bool b6, .bool b7] w) {g : Nat → Bool} (e0 : g 0 = b0) (e1 : g 1 = b1) (e2 : g 2 = b2) (e3 : g 3 = b3) (e4 : g 4 = b4) (e5 : g 5 = b5) (e6 : g 6 = b6) (e7 : g 7 = b7) : BitsAt S 8 g w := fun j hj => by
  have : j = 0 ∨ j = 1 ∨ j = 2 ∨ j = 3 ∨ j = 4 ∨ j = 5 ∨ j = 6 ∨ j = 7 := by omega
  rcases this with rfl | rfl | rfl | rfl | rfl | rfl | rfl | rfl
  · rw [e0]; exact h.cells 0 _ rfl
  · rw [e1]; exact h.cells 1 _ rfl
  · rw [e2]; exact h.cells 2 _ rfl
  · rw [e3]; exact h.cells 3 _ rfl
  · rw [e4]; exact h.cells 4 _ rfl
  · rw [e5]; exact h.cells 5 _ rfl
  · rw [e6]; exact h.cells 6 _ rfl
  · rw [e7]; exact h.cells 7 _ rfl
theorem one_thr {W wa : World} {b : Nat} {A B U : Int} {t : TypeId} (h : Ext (W.alloc (.cells #[.int .i64 A, .int .i64 B, .int .i64 U] t)) wa) (hb : b = W.heap.size) : ThrsV wa (.slice (some ⟨b, 0, none⟩) 1 1) [⟨A, B, U⟩] := by
  have g := three_in (u := Thr.c ⟨A, B, U⟩) h hb
  have e : ∀ j, (⟨b, 0, none⟩ : Addr).add j = ⟨b, j, none⟩ := fun j => by unfold Addr.add; split <;> simp_all
  refine ⟨_, _, rfl, Nat.le_refl _, by simp, fun i hi => ⟨b, 0, rfl, ?_⟩⟩
  obtain rfl : i = 0 := by simpa using hi
  have g0 := g 0 _ rfl
  have g1 := g 1 _ rfl
  have g2 := g 2 _ rfl
  rw [e] at g0 g1 g2
  exact ⟨by simpa using g0, by simpa using g1, by simpa using g2⟩
theorem bound_fld {w : World} {b o q : Nat} {f : Fld} (h : Cell9 w b o f.c) (hq : 1 ≤ q) : FldsV w (.slice (some ⟨b, o, none⟩) 1 q) [f] :=
  ⟨some ⟨b, o, none⟩, q, rfl, hq, by simp, fun i hi => ⟨b, o, rfl, by
    obtain rfl : i = 0 := by simpa using hi
    simpa using h⟩⟩
end Go.Hs
namespace Go.Hs
open Go.RowKit Go.Proofs.YtbmjnilcinfdiaaGreat
theorem EndsI.ext {W w w' : World} {S T i : Nat} {c : Cas} {f : Fld} (h : EndsI W S T c f i w) (hx : Ext w w') : EndsI W S T c f i w' :=
  ⟨h.kp.ext hx, h.seen.ext hx, fun o => (hx.frozen (lt_of_cell (h.seen 0 (by decide)))).trans (h.sfr o), h.is.ext hx, fun o => (hx.frozen (lt_of_cell (h.is 0 (by decide)))).trans (h.tfr o)⟩
theorem EndsI.next {W w w7 : World} {S T i m : Nat} {c : Cas} {f : Fld} {g : Nat → Bool} (h : EndsI W S T c f i w) (h8 : SeenI w S (metB c f i) g 8 w7) (hg : ∀ k, metB c f (i + 1) k = (metB c f i k || g k)) (hm : settledS f (truthAt f i) = (m : Int)) (hST : S ≠ T) : EndsI W S T c f (i + 1) (w7.setCell ⟨T, m, none⟩ (.bool true)) := by
  have hn : ¬ T = S := fun e => hST e.symm
  refine ⟨(h.kp.trans (h8.kp.mono' (fun j hj => .inl hj))).setCell (p := fun j => j = S ∨ j = T) (.inr rfl) _, fun j hj => ?_, fun o => by rw [World.frozen?_setCell]; exact h8.fr o, fun j hj => ?_, fun o => by rw [World.frozen?_setCell]; exact (h8.kp.frozen (lt_of_cell (h.is 0 (by decide))) hn).trans (h.tfr o)⟩
  · have hb := h8.bits j hj
    simp only [hj, if_true] at hb
    rw [hg]
    exact sc_ne' (.inl hST) hb
  · have hb := h8.kp.keep hn (h.is j hj)
    rw [seenB_next f i m hm]
    by_cases e : m = j
    · subst e
      simp only [beq_self_eq_true, Bool.or_true]
      exact sc_eq' hb
    · have : (m == j) = false := by simp [e]
      rw [this, Bool.or_false]
      exact sc_ne' (.inr (Ne.symm e)) hb
theorem SeenI.zero {w : World} {S : Nat} {g h : Nat → Bool} (hb : BitsAt S 8 g w) (hf : ∀ o, w.frozen? ⟨S, o, none⟩ = false) : SeenI w S g h 0 w :=
  ⟨KP.refl _, fun j hj => by simpa using hb j hj, hf⟩
theorem SeenI.at {W w : World} {S m : Nat} {g h : Nat → Bool} (k : SeenI W S g h m w) (hm : m < 8) : w.cell? ⟨S, m, none⟩ = some (.bool (g m)) := by
  have := k.bits m hm
  simpa using this
end Go.Hs
namespace Go.Hs
open Go.RowKit Go.Proofs.YtbmjnilcinfdiaaGreat
theorem thr_box {W w : World} {T : Nat} {A B U : Int} (h : BoxN W T [.int .i64 A, .int .i64 B, .int .i64 U] w) : ThrsV w (.slice (some ⟨T, 0, none⟩) 1 1) [⟨A, B, U⟩] :=
  ⟨_, _, rfl, Nat.le_refl _, by simp, fun i hi => ⟨T, 0, rfl, by
    obtain rfl : i = 0 := by simpa using hi
    exact ⟨by simpa [Thr.c] using h.cells 0 _ rfl, by simpa [Thr.c] using h.cells 1 _ rfl, by simpa [Thr.c] using h.cells 2 _ rfl⟩⟩⟩
end Go.Hs
namespace Go.Hs
open Go.RowKit Go.Proofs.YtbmjnilcinfdiaaGreat
theorem cell_to {W1 w w' : World} {b o : Nat} {v : Value} (_ : Hid (Ext W1 w')) (h : w.cell? ⟨b, o, none⟩ = some v) (hx : Ext w w') : w'.cell? ⟨b, o, none⟩ = some v := hx.keep h
end Go.Hs
namespace Go.Hs
open Go.RowKit Go.Proofs.YtbmjnilcinfdiaaGreat
theorem ints_kp {p : Nat → Prop} {w w1 w2 : World} {v : Value} {xs : List Int} (h : IntsV w v xs) (hx : Ext w w1) (hk : KP p w1 w2) (hp : ∀ j, j < w.heap.size → ¬ p j) : IntsV w2 v xs := by
  obtain ⟨a, c, he, h1, h2, hr⟩ := h
  refine ⟨a, c, he, h1, h2, fun i hi => ?_⟩
  obtain ⟨b, o, hb, hc, ho⟩ := hr i hi
  exact ⟨b, o, hb, hk.keep (hp b (lt_of_cell hc)) (hx.keep hc), ho⟩
end Go.Hs
