/- Contracts of layer 1's reference: In. -/
import Derived.Test.YtegkdnfeceomdaaGreatKC1
set_option linter.unusedSimpArgs false
set_option linter.unusedVariables false
namespace Go.Proofs.YtegkdnfeceomdaaGreat
open Go.RowKit Go.Hs
attribute [local irreducible] World.setCell World.alloc
set_option maxHeartbeats 400000 in
theorem In_h0 (n lo hi : Int) (w : World) :
    Calls Tryz.prog 21 #[.int .i64 n, .int .i64 lo, .int .i64 hi] w fun e w' => e = .returned (.bool (inR n lo hi)) ∧ Ext w w' := by
  by_cases h : lo ≤ n
  · go_enter Tryz.func21, Tryz.ntmps21
    go_wp2
    go_ret; exact ⟨ret_bool (by simp [inR, h]), Ext.refl _⟩
  · go_enter Tryz.func21, Tryz.ntmps21
    go_wp2
    go_ret
    exact ⟨ret_bool (by have : ¬ lo ≤ n := by omega
                        simp [inR, this]), Ext.refl _⟩
end Go.Proofs.YtegkdnfeceomdaaGreat
