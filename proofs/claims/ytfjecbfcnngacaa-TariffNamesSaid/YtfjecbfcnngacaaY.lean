/- Contracts: the truths of a claim. -/
import Derived.Test.YtfjecbfcnngacaaX
import Derived.OwnWalkIn
import Derived.TacticsInMore
import Derived.RegionIn
import Derived.LoopIn
import Derived.RangeFuncIn
import Derived.RangeFuncLeaves
import Derived.RangeFuncCalls
namespace Go.Proofs.Ytfjecbfcnngacaa
open Go.RowKit Go.Hs
attribute [local irreducible] World.setCell World.alloc
attribute [local go_sem] Oper.semAt_some
theorem wide_fn (f : FuncId) : Fence.wide.fn f := trivial
theorem wide_fn' (f : FuncId) (l : Nat) : (Fence.wide.inRound l).fn f := trivial
theorem wide_depth : Fence.wide.depth = none := rfl
theorem wide_round : Fence.wide.round = none := rfl
attribute [local simp] wide_fn wide_fn' wide_depth wide_round
attribute [local go_sem] wide_fn wide_fn' wide_depth wide_round

/-- A range over a function, of a frame that is no round. -/
theorem range_wide {g : Operand} {ps : Array Tmp} {assign body : Code} {Q : Exit → Act → World → Prop} {a : Act} {w : World} (f : FuncId) (caps : Array Value)
    (hg : a.eval g = .func (.func f) #[] caps) (hF : FnOK f)
    (h : ∀ fn, CallsIn Fence.wide 0 Try.prog f (#[.func (.yield (w.heap.size + 1)) #[] #[]] ++ caps) ((w.alloc (.deferred (some []))).alloc (.loop { state := .ready, pending := none, fn, tmps := a.tmps, params := ps, assign, body, defers := w.heap.size }))
      (rangePost Fence.wide 0 Try.prog (w.heap.size + 1) Q { a with defers := { target := .collected w.heap.size, args := #[] } :: a.defers })) :
    (Code.rangeFunc g ps assign body).wpIn Fence.wide 0 Try.prog Q a w := by
  refine wpIn_rangeFunc fun fn _ => ?_
  rw [wide_round]
  refine ⟨_, _, _, { target := .fn (.func f) caps, args := #[.func (.yield (w.heap.size + 1)) #[] #[]] }, (w.alloc (.deferred (some []))).alloc (.loop { state := .ready, pending := none, fn, tmps := a.tmps, params := ps, assign, body, defers := w.heap.size }), f, _, (w.alloc (.deferred (some []))).alloc (.loop { state := .ready, pending := none, fn, tmps := a.tmps, params := ps, assign, body, defers := w.heap.size }), run_enterLoop_outer _ _ _ _ _, ?_, fun _ _ => trivial, ?_, by simp, h fn⟩
  · have e : resolve a.eval (rangeCall g (w.heap.size + 1)) 0 = Deferred.ofValue (a.eval g) #[.func (.yield (w.heap.size + 1)) #[] #[]] := by
      simp [resolve, Act.eval]
    rw [e, hg]
    rfl
  · exact hF _ _

set_option maxRecDepth 100000 in
set_option maxHeartbeats 1000000 in
theorem truths1_any (L : Nat) (c : Cla) (hd : 0 ≤ c.dlo ∧ c.dlo ≤ c.dhi ∧ c.dhi ≤ 120) (hn : 0 ≤ c.clo ∧ c.clo ≤ c.chi ∧ c.chi ≤ 100) (bc : Nat) (I : Nat → Nat → World → Prop) (w : World)
    (hI : ∀ d n w, I d n w → Cell6 w bc 0 c.u)
    (hr : ∀ (d n : Nat) (w1 : World), (d : Int) ≤ c.dhi - c.dlo → (n : Int) ≤ c.chi - c.clo → I d n w1 → YieldAt Fence.wide 0 Try.prog L #[.agg #[.int .i64 (c.dlo + d), .int .i64 (c.clo + n)]] w1 fun e w2 => e = .returned (.bool true) ∧ I d (n + 1) w2)
    (hs : ∀ (d n : Nat) (w1 : World), (n : Int) = c.chi - c.clo + 1 → I d n w1 → I (d + 1) 0 w1)
    (h0 : I 0 0 w) :
    CallsIn Fence.wide 0 Try.prog 110 #[.func (.yield L) #[] #[], .pointer (some ⟨bc, 0, none⟩)] w fun e w' => e = .returned (.tuple #[]) ∧ ∃ d : Nat, (d : Int) = c.dhi - c.dlo + 1 ∧ I d 0 w' := by
  obtain ⟨cr, va, dl, dh, cl, ch⟩ := c
  simp only at hd hn hr hs
  obtain ⟨c0, c1, c2, c3, c4, c5⟩ := hI 0 0 w h0
  try simp only [Nat.zero_add] at c0 c1 c2 c3 c4 c5
  gi_enter Try.func110, Try.ntmps110
  gi_wp2_with fail
  have hD : ∃ D : Nat, dh - dl + 1 = (D : Int) := ⟨(dh - dl + 1).toNat, by omega⟩
  have hC : ∃ C : Nat, ch - cl + 1 = (C : Int) := ⟨(ch - cl + 1).toNat, by omega⟩
  obtain ⟨D, hD⟩ := hD
  obtain ⟨C, hC⟩ := hC
  rw [hD]
  gi_loopw [3, 4, 13] (fun _ _ i wr => ∃ k : Nat, k ≤ D ∧ i = .int .i64 k ∧ I k 0 wr) (fun _ _ i _ => D - (intOf i).toNat)
  case atStart => exact ⟨0, Nat.zero_le _, rfl, h0⟩
  case round =>
    obtain ⟨k, hk, rfl, hI0⟩ := hrel
    have hCb : C ≤ 200 := by omega
    have hDb : D ≤ 200 := by omega
    by_cases hlt : k < D
    · obtain ⟨e0, e1, e2, e3, e4, e5⟩ := hI k 0 wr hI0
      simp only [Nat.zero_add] at e0 e1 e2 e3 e4 e5
      gi_wp2_with fail
      obtain ⟨wo, rfl⟩ : ∃ wo : World, wo = wr := ⟨_, rfl⟩
      gi_loopw [4, 24] (fun _ i wr => ∃ j : Nat, j ≤ C ∧ i = .int .i64 j ∧ I k j wr) (fun _ i _ => C - (intOf i).toNat)
      case atStart => exact ⟨0, Nat.zero_le _, rfl, hI0⟩
      case round =>
        obtain ⟨j, hj, rfl, hIj⟩ := hrel
        by_cases hjt : j < C
        · obtain ⟨e0, e1, e2, e3, e4, e5⟩ := hI k j wr hIj
          simp only [Nat.zero_add] at e0 e1 e2 e3 e4 e5
          obtain ⟨fn, tmps, assign, body, hy, hrd⟩ := hr k j wr (by omega) (by omega) hIj
          clear hr hs hI
          gi_wp2_with (first | ((with_reducible refine hrd.mono ?_); rintro e w2 ⟨rfl, hI2⟩))
          go_roundw
          case rel => exact ⟨j + 1, by omega, by go_num, hI2⟩
          case measure => simp [intOf]; omega
        · have hj' : j = C := by omega
          subst hj'
          have hnext := hs k j wr (by omega) hIj
          clear hr hs hI
          gi_wp2_with fail
          go_roundw
          case rel => exact ⟨k + 1, by omega, by go_num, hnext⟩
          case measure => simp [intOf]; omega
    · have hk' : k = D := by omega
      subst hk'
      clear hr hs hI
      gi_wp2_with fail
      go_end0
      exact ⟨rfl, k, by omega, hI0⟩
end Go.Proofs.Ytfjecbfcnngacaa
