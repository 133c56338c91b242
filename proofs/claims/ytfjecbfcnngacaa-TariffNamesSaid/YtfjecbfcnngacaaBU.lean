/- Contracts: lists of claims; the bounds of all claims together. -/
import Derived.Test.YtfjecbfcnngacaaBL
namespace Go.Hs
open Go.RowKit
/-- A slice that reads as a list of claims. -/
def ClasV {α : Type} (Cu : α → V6) (w : World) (v : Value) (cs : List α) : Prop := ∃ a c, v = .slice a cs.length c ∧ cs.length ≤ c ∧ cs.length ≤ 1000 ∧ Cells6 w a (cs.map Cu)
theorem ClasV.ext {α : Type} {Cu : α → V6} {w w' : World} {v : Value} {cs : List α} (h : Ext w w') (k : ClasV Cu w v cs) : ClasV Cu w' v cs :=
  let ⟨a, c, e, h1, h2, h3⟩ := k; ⟨a, c, e, h1, h2, h3.ext h⟩
def UIs {α : Type} (Cu : α → V6) (_ : World) (u : V6) (x : α) : Prop := u = Cu x
theorem UIs.kc {α : Type} {Cu : α → V6} {w w' : World} {u : V6} {x : α} (_ : KC w w') (k : UIs Cu w u x) : UIs Cu w' u x := k
theorem Build6.claims {α : Type} {Cu : α → V6} {p : Nat → Bool} {B e : Nat} {w : World} {v : Value} {xs : List α} (h : Build6 (UIs Cu) p B e w v xs) (hl : xs.length ≤ 1000) : ClasV Cu w v xs := by
  obtain ⟨us, hu, ho, hp, hs⟩ := h
  have hus : us = xs.map Cu := by
    refine List.ext_getElem (by simpa using hu) (fun i h1 h2 => ?_)
    have := hs i h1 (by simpa using h2)
    simpa [UIs] using this
  subst hus
  rcases own_open ho with ⟨rfl, h0⟩ | ⟨g, cap, rfl, -, hg, hn, hc⟩
  · have e : xs = [] := List.eq_nil_of_length_eq_zero h0
    subst e
    exact ⟨none, 0, rfl, Nat.le_refl _, by simp, fun i h => absurd h (by simp)⟩
  · refine ⟨_, cap, rfl, hn, hl, fun i hi => ⟨g, 0, rfl, ?_⟩⟩
    obtain ⟨g0, g1, g2, g3, g4, g5⟩ := flat_get (xs.map Cu) i hi
    simp only [Nat.zero_add]
    exact ⟨hc _ _ g0, hc _ _ g1, hc _ _ g2, hc _ _ g3, hc _ _ g4, hc _ _ g5⟩
end Go.Hs
namespace Go.Proofs.Ytfjecbfcnngacaa
open Go.RowKit Go.Hs
attribute [local irreducible] World.setCell World.alloc

theorem info_claim : (Try.prog.info? 44).map (fun i => (i.zero, i.size, i.bytes)) = some (some (.agg #[.int .i64 0, .int .i64 0, .int .i64 0, .int .i64 0, .int .i64 0, .int .i64 0]), 6, 48) := by kernel_rfl

set_option maxRecDepth 100000 in
set_option maxHeartbeats 2000000 in
theorem Claims_any (v : Value) (cs : List Cla) (w : World) (hv : ClasV Cla.u w v cs) (h7 : cs.length ≤ 7) :
    Calls Try.prog 49 #[v] w fun e w' => ∃ v', e = .returned v' ∧ ClasV Cla.u w' v' cs ∧ Ext w w' := by
  obtain ⟨a, c, rfl, h1, h2, hr⟩ := hv
  obtain ⟨i3, hi3, hz30, hz31, hz32⟩ := info_parts info_claim
  have HR := Lib.hid hr
  have HCL := Lib.hid Claim_any
  clear hr
  go_enter Try.func49, Try.ntmps49
  go_wp2_with fail
  go_loopw [3, 4] (fun s3 s4 wr => ∃ (k : Nat) (a5 : Option Addr) (q5 : Nat), k ≤ cs.length ∧ s4 = .int .i64 k ∧ s3 = .slice a5 k q5 ∧ Hid (Build6 (UIs Cla.u) (fun _ => false) w.heap.size 44 wr (.slice a5 k q5) (cs.take k)) ∧ Ext w wr) (fun _ i _ => cs.length - (intOf i).toNat)
  case atStart => exact ⟨0, none, 0, Nat.zero_le _, rfl, rfl, Build6.nil _, Ext.refl _⟩
  case round =>
    obtain ⟨k, a5, q5, hk, rfl, rfl, HB, hx⟩ := hrel
    obtain ⟨wo, rfl⟩ : ∃ x, x = wr := ⟨_, rfl⟩
    by_cases hlt : k < cs.length
    · obtain ⟨b, off, rfl, hce⟩ := HR.out k (by simpa using hlt)
      have hce := hce.ext hx
      have e1 : (cs.map Cla.u)[k]'(by simpa using hlt) = (cs[k]).u := by simp
      rw [e1] at hce
      clear e1
      have ek : (cs.take k).length = k := by simp; omega
      have e2 : cs.take k ++ [cs[k]] = cs.take (k + 1) := by rw [List.take_succ_eq_append_getElem hlt]
      have E2 := Lib.hid e2
      clear e2
      obtain ⟨us, hul, hown0, hp0, hs0⟩ := HB.out
      rw [ek] at hown0
      have HUL := Lib.hid (And.intro hul hs0)
      have OWN := Lib.hid hown0
      have hlb := fun g hg => own_lt hown0 (g := g) hg
      have HLB := Lib.hid hlb
      clear hul hp0 hs0 hown0 hlb
      have EK := Lib.hid ek
      clear ek
      generalize cs[k] = x at *
      have hcl := HCL.out x wo
      obtain ⟨cr, va, dl, dh, cl, ch⟩ := x
      obtain ⟨m0, m1, m2, m3, m4, m5⟩ := hce
      simp only at m0 m1 m2 m3 m4 m5
      go_wp2_with fail
      (with_reducible refine hcl.mono ?_)
      rintro e w1 ⟨rfl, hx1⟩
      clear hcl
      go_wp2_with (at_builtin; refine wpList_append_own_at _ rfl _ _ 83 rfl w.heap.size 44 i3 (.agg #[.int .i64 0, .int .i64 0, .int .i64 0, .int .i64 0, .int .i64 0, .int .i64 0]) 6 48 Try.underlying83 hi3 hz30 hz31 hz32 rfl (by decide) (.slice a5 k q5) k (us.flatMap V6.cs) rfl ?own ⟨w1.heap.size, 0, none⟩ 1 1 (V6.cs (Cla.u ⟨cr, va, dl, dh, cl, ch⟩)) rfl rfl (cell_six_new _ (Cla.u ⟨cr, va, dl, dh, cl, ch⟩) _) ?one ?f1 ?f2 ?f3 ?next)
      case own => exact own_keep OWN.out (fun g hg => (hx1.alloc _).heap (HLB.out g hg).2)
      case one =>
        intro u hu
        simp only [V6.cs, List.mem_cons, List.not_mem_nil, or_false] at hu
        rcases hu with rfl | rfl | rfl | rfl | rfl | rfl <;> rfl
      case f1 => simp only [maxLen]; omega
      case f2 => omega
      case f3 => have h1 := hx.size; have h2 := hx1.size; simp; omega
      case next =>
        intro v' w3 hown hgrow hnil hat
        obtain ⟨hul, hs0⟩ := HUL.out
        have hb : Build6 (UIs Cla.u) (fun _ => false) w.heap.size 44 w3 v' (cs.take k ++ [⟨cr, va, dl, dh, cl, ch⟩]) :=
          Build6.next (S := UIs Cla.u) (fun h k => UIs.kc h k) (us := us) (w := w1.alloc _) hul (fun _ _ => rfl) hs0 rfl (by rw [EK.out]; exact hown) hgrow (hat.imp_right (fun h => h.trans (by simp))) rfl
        rw [E2.out] at hb
        have hx3 : Ext w w3 := grown_ext ((hx.trans hx1).alloc _) hgrow (fun g hg => (HLB.out g hg).1)
        rcases own_open hown with ⟨-, h0⟩ | ⟨g, cap, rfl, -, -, -, -⟩
        · omega
        · have HB3 := Lib.hid hb
          clear hb hown hgrow hnil hat hul hs0
          go_wp2_with fail
          go_roundw
          case rel => exact ⟨k + 1, _, _, by omega, by go_num, rfl, HB3.out, hx3⟩
          case measure => simp [intOf]; omega
    · have ek : k = cs.length := by omega
      subst ek
      have hb := HB.out
      rw [List.take_length] at hb
      have hcv := Build6.claims hb (by omega)
      have HCV := Lib.hid hcv
      clear hb hcv
      go_wp2_with fail
      go_ret
      exact ⟨_, rfl, HCV.out, hx⟩
end Go.Proofs.Ytfjecbfcnngacaa
