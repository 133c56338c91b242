/- Contracts: what Total answers, whatever the claims. -/
import Derived.Test.YtfjecbfcnngacaaBW
import Derived.Test.YtfjecbfcnngacaaOD
namespace Go.Proofs.Ytfjecbfcnngacaa
open Go.RowKit Go.Hs
def totLo (l : List Tar) (cs : List Cla) : Int := if totE l cs = 0 then sumLo l cs else 0
def totHi (l : List Tar) (cs : List Cla) : Int := if totE l cs = 0 then sumHi l cs else 0
theorem Total_any (v vc : Value) (l : List Tar) (cs : List Cla) (w : World) (hv : TarsV w v l) (hc : ClasV Cla.u w vc cs) :
    Calls Try.prog 48 #[v, vc] w fun e w' => e = .returned (.tuple #[.agg #[.int .i64 (totLo l cs), .int .i64 (totHi l cs)], .int .i64 (totE l cs)]) ∧ Ext w w' := by
  obtain ⟨a, c, rfl, h1, h2, h3⟩ := hc
  by_cases h0 : checkS l = 0
  · by_cases h5 : 5 < cs.length
    · have e : totE l cs = 3 := by unfold totE; rw [if_neg (by simp [h0]), if_pos h5]
      have e1 : totLo l cs = 0 := by unfold totLo; rw [e, if_neg (by decide)]
      have e2 : totHi l cs = 0 := by unfold totHi; rw [e, if_neg (by decide)]
      rw [e, e1, e2]
      exact Total_many v a cs.length c l w hv h0 h5 h2
    · cases hb : claimsB l cs with
      | false =>
        have e : totE l cs = 2 := by unfold totE; rw [if_neg (by simp [h0]), if_neg h5, hb]; rfl
        have e1 : totLo l cs = 0 := by unfold totLo; rw [e, if_neg (by decide)]
        have e2 : totHi l cs = 0 := by unfold totHi; rw [e, if_neg (by decide)]
        rw [e, e1, e2]
        exact Total_bad v l a c cs w hv h3 h0 h5 hb
      | true =>
        have e : totE l cs = 0 := by unfold totE; rw [if_neg (by simp [h0]), if_neg h5, hb]; rfl
        have e1 : totLo l cs = sumLo l cs := by unfold totLo; rw [if_pos e]
        have e2 : totHi l cs = sumHi l cs := by unfold totHi; rw [if_pos e]
        rw [e, e1, e2]
        exact Total_good v l a c cs w hv h3 h0 h5 hb
  · have e : totE l cs = checkS l := by unfold totE; rw [if_pos h0]
    have e1 : totLo l cs = 0 := by unfold totLo; rw [e, if_neg h0]
    have e2 : totHi l cs = 0 := by unfold totHi; rw [e, if_neg h0]
    rw [e, e1, e2]
    exact Total_err v _ l w hv h0
end Go.Proofs.Ytfjecbfcnngacaa
