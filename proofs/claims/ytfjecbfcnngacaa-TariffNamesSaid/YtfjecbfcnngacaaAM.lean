/- The reference: the tariff of a day. -/
import Derived.Test.YtfjecbfcnngacaaAL
namespace Go.Hs
open Go.RowKit
def IntIs (_ : World) (v : Value) (x : Int) : Prop := v = .int .i64 x ∧ i64ok x
theorem IntIs.kc {w w' : World} {v : Value} {x : Int} (_ : KC w w') (k : IntIs w v x) : IntIs w' v x := k
theorem Build1.ints {p : Nat → Bool} {B e : Nat} {w : World} {v : Value} {xs : List Int} (h : Build1 IntIs p B e w v xs) (hl : xs.length ≤ 1000) : IntsV w v xs := by
  obtain ⟨a, c, he, h1, h2, hr⟩ := Build1.slice (S := IntIs) (fun h k => IntIs.kc h k) h hl
  refine ⟨a, c, he, h1, h2, fun i hi => ?_⟩
  obtain ⟨b, o, hb, x, hc, hx, ho⟩ := hr i hi
  subst hx
  exact ⟨b, o, hb, mask_kc0 p w _ _ _ hc, ho⟩
def isB (B : Nat) : Nat → Bool := fun k => B == k
theorem isB_no {B k : Nat} : isB B k = false ↔ B ≠ k := by simp [isB]
end Go.Hs
namespace Go.Proofs.Ytfjecbfcnngacaa
open Go.RowKit Go.Hs
attribute [local irreducible] World.setCell World.alloc

set_option maxRecDepth 100000 in
set_option maxHeartbeats 2000000 in
theorem Of_any (v : Value) (l : List Tar) (d : Int) (w : World) (hv : TarsV w v l) (hl : ValidL l) (hd : 0 ≤ d) :
    Calls Try.prog 37 #[v, .int .i64 d] w fun e w' => ∃ u : V6, e = .returned u.val ∧ TarU w u (atS l d) ∧ Ext w w' := by
  have HV := Lib.hid hv
  obtain ⟨a, c, rfl, h1, h2, hr⟩ := hv
  obtain ⟨i1, hi1, hz10, hz11, hz12⟩ := info_parts info_int
  have h3 := hl.three
  have hp := hl.pos
  have HR := Lib.hid hr
  have HO := Lib.hid (hl.of hd)
  have HU := Lib.hid (hl.up hd)
  clear hr hl
  go_enter Try.func37, Try.ntmps37
  go_wp2_with fail
  go_loopw [5, 6] (fun s5 s6 wr => ∃ (k : Nat) (a5 : Option Addr) (q5 : Nat), k ≤ l.length ∧ s6 = .int .i64 k ∧ s5 = .slice a5 k q5 ∧ Hid (Build1 IntIs (isB w.heap.size) w.heap.size 3 wr (.slice a5 k q5) ((l.map Tar.start).take k)) ∧ Ext w wr ∧ Hid (Cell6 wr w.heap.size 0 ⟨.int .i64 0, .bool false, .int .i64 0, .slice none 0 0, .slice none 0 0, .slice none 0 0⟩ ∧ ∀ o, wr.frozen? ⟨w.heap.size, o, none⟩ = false)) (fun _ i _ => l.length - (intOf i).toNat)
  case atStart => exact ⟨0, none, 0, Nat.zero_le _, rfl, rfl, Build1.nil _, by (repeat (first | exact Ext.refl _ | (with_reducible assumption) | (with_reducible refine Ext.drew ?_) | (with_reducible refine Ext.alloc ?_ _) | (with_reducible refine Ext.drewN ?_ _) | (with_reducible refine Ext.setCell ?_ (by omega) _) | (with_reducible refine Ext.trans ?_ (by with_reducible assumption)))), by simp [Cell6], fun o => by simp⟩
  case round =>
    obtain ⟨k, a5, q5, hk, rfl, rfl, HB, hx, HC⟩ := hrel
    obtain ⟨wo, rfl⟩ : ∃ x, x = wr := ⟨_, rfl⟩
    by_cases hlt : k < l.length
    · obtain ⟨b, off, rfl, hta⟩ := HR.out k hlt
      obtain ⟨a3, k3, a4, k4, a5', k5, m0, -, -, -, -, -, mc⟩ := TarAt.open (hta.ext hx)
      have hok := mc.f
      clear hta mc
      have ek : ((l.map Tar.start).take k).length = k := by simp; omega
      have e2 : (l.map Tar.start).take k ++ [l[k].start] = (l.map Tar.start).take (k + 1) := by
        rw [List.take_succ_eq_append_getElem (by simpa using hlt)]; simp
      have E2 := Lib.hid e2
      clear e2
      obtain ⟨us, hul, hown0, hp0, hs0⟩ := HB.out
      rw [ek] at hown0
      have HUL := Lib.hid (And.intro hul (And.intro hp0 hs0))
      have OWN := Lib.hid hown0
      have hlb := fun g hg => own_lt hown0 (g := g) hg
      have HLB := Lib.hid hlb
      clear hul hp0 hs0 hown0 hlb
      have EK := Lib.hid ek
      clear ek
      have HOK := Lib.hid hok
      clear hok
      generalize l[k].start = x at *
      go_wp2_with (at_builtin; refine wpList_append_own_at _ rfl _ _ 59 rfl w.heap.size 3 i1 (.int .i64 0) 1 8 Try.underlying59 hi1 hz10 hz11 hz12 rfl (by decide) (.slice a5 k q5) k us rfl ?own ⟨wo.heap.size, 0, none⟩ 1 1 [.int .i64 x] rfl rfl (cell_one_new _ _ _) ?one ?f1 ?f2 ?f3 ?next)
      case own => exact own_keep OWN.out (fun g hg => ((Ext.refl wo).alloc _).heap (HLB.out g hg).2)
      case one => first | rfl | (intro u hu; simp at hu; subst hu; rfl)
      case f1 => simp only [maxLen]; omega
      case f2 => omega
      case f3 => have h1 := hx.size; simp; omega
      case next =>
        intro v' w3 hown hgrow hnil hat
        obtain ⟨hul, hp0, hs0⟩ := HUL.out
        have hb : Build1 IntIs (isB w.heap.size) w.heap.size 3 w3 v' ((l.map Tar.start).take k ++ [x]) :=
          Build1.next (S := IntIs) (fun h k => IntIs.kc h k) (us := us) (w := wo.alloc _) hul hp0 hs0 ⟨rfl, HOK.out⟩ (by rw [EK.out]; exact hown) hgrow (hat.imp_right (fun h => h.trans (by simp))) (by rw [isB_no]; have := lt_of_cell HC.out.1.1; simp at this ⊢; omega)
        rw [E2.out] at hb
        have hx3 : Ext w w3 := grown_ext (hx.alloc _) hgrow (fun g hg => (HLB.out g hg).1)
        have hTo : some w.heap.size ≠ (Value.slice a5 k q5).ownBlock := fun e => (isB_no.1 (hp0 _ e.symm)) rfl
        have hT := lt_of_cell HC.out.1.1
        simp only at hT
        have hc3 : Cell6 w3 w.heap.size 0 ⟨.int .i64 0, .bool false, .int .i64 0, .slice none 0 0, .slice none 0 0, .slice none 0 0⟩ := by
          obtain ⟨c0, c1, c2, c3, c4, c5⟩ := HC.out.1
          exact ⟨hgrow.cell (((Ext.refl wo).alloc _).keep c0) hTo, hgrow.cell (((Ext.refl wo).alloc _).keep c1) hTo, hgrow.cell (((Ext.refl wo).alloc _).keep c2) hTo, hgrow.cell (((Ext.refl wo).alloc _).keep c3) hTo, hgrow.cell (((Ext.refl wo).alloc _).keep c4) hTo, hgrow.cell (((Ext.refl wo).alloc _).keep c5) hTo⟩
        have hf3 : ∀ o, w3.frozen? ⟨w.heap.size, o, none⟩ = false := fun o => by
          rw [World.frozen?_of_block (w := wo.alloc _) (hgrow.block _ (by simp; omega) hTo), ((Ext.refl wo).alloc _).frozen hT]
          exact HC.out.2 o
        rcases own_open hown with ⟨-, h0⟩ | ⟨g, cap, rfl, -, -, -, -⟩
        · omega
        · have HB3 := Lib.hid hb
          have HC3 := Lib.hid (And.intro hc3 hf3)
          clear hb hc3 hf3 hT hTo hown hgrow hnil hat hul hp0 hs0
          go_wp2_with fail
          go_roundw
          case rel => exact ⟨k + 1, _, _, by omega, by go_num, rfl, HB3.out, hx3, HC3.out⟩
          case measure => simp [intOf]; omega
    · have ek : k = l.length := by omega
      subst ek
      have hb := HB.out
      rw [List.take_of_length_le (by simp)] at hb
      have hi := Build1.ints hb (by simp; omega)
      have hlast := LastUp_any _ _ d wo hi HU.out
      obtain ⟨hlt, heq⟩ := HO.out
      generalize weekTo (l.map Tar.start) d (l.map Tar.start).length = i at *
      obtain ⟨b, off, rfl, hta⟩ := HR.out i hlt
      obtain ⟨a3, k3, a4, k4, a6, k6, m0, m1, m2, m3, m4, m5, mc⟩ := TarAt.open hta
      have e1 : l[i] = atS l d := by rw [← heq]; simp [hlt]
      rw [e1] at m0 m1 m2 m3 m4 m5 mc
      have HMC := Lib.hid mc
      obtain ⟨c0, c1, c2, c3, c4, c5⟩ := HC.out.1
      simp only [Nat.zero_add] at c0 c1 c2 c3 c4 c5
      have fr := HC.out.2
      have f0 := fr 0
      have f1 := fr 1
      have f2 := fr 2
      have f3 := fr 3
      have f4 := fr 4
      have f5 := fr 5
      have HCC := Lib.hid HC.out.1
      replace m0 := hx.keep m0
      replace m1 := hx.keep m1
      replace m2 := hx.keep m2
      replace m3 := hx.keep m3
      replace m4 := hx.keep m4
      replace m5 := hx.keep m5
      clear hta mc e1 heq hb hi fr HC
      generalize hat : atS l d = t at *
      have HAT := Lib.hid hat
      clear hat
      go_wp2_with fail
      (with_reducible refine hlast.mono ?_)
      rintro e w2 ⟨rfl, rfl⟩
      clear hlast
      go_wp2_with fail
      have hfin := set6_cell (u := ⟨.int .i64 t.start, .bool t.whole, .int .i64 t.least, .slice a3 t.weeks.length k3, .slice a4 t.counts.length k4, .slice a6 t.rates.length k6⟩) HCC.out
      have hxx : Ext w (World.set6 wo w.heap.size ⟨.int .i64 t.start, .bool t.whole, .int .i64 t.least, .slice a3 t.weeks.length k3, .slice a4 t.counts.length k4, .slice a6 t.rates.length k6⟩) := hx.set6 (Nat.le_refl _) _
      obtain ⟨q0, q1, q2, q3, q4, q5⟩ := hfin
      simp only [Nat.zero_add, World.set6] at q0 q1 q2 q3 q4 q5
      exact bodyPost_ret (v := .agg #[.int .i64 t.start, .bool t.whole, .int .i64 t.least, .slice a3 t.weeks.length k3, .slice a4 t.counts.length k4, .slice a6 t.rates.length k6]) (by simp [results, Try.results37, go_sem, q0, q1, q2, q3, q4, q5]) rfl ⟨⟨_, _, _, _, _, _⟩, rfl, by rw [HAT.out]; exact ⟨rfl, rfl, rfl, HMC.out⟩, hxx⟩
end Go.Proofs.Ytfjecbfcnngacaa
