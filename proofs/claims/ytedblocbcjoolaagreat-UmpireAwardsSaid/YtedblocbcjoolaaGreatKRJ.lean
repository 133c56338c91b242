/- Two outcomes compared. -/
import Derived.Test.YtedblocbcjoolaaGreatKRH
set_option linter.unusedSimpArgs false
set_option linter.unusedVariables false
namespace Go.Proofs.YtedblocbcjoolaaGreat
open Go.RowKit Go.Hs
theorem eq_oc (p l p' l' : Int) (b b' : Bool) (w : World) : (binOp .eql 128 (.agg #[.int .i64 p', .bool b', .int .i64 l']) (.agg #[.int .i64 p, .bool b, .int .i64 l])).run Tryz.prog w = .ok (.bool ((Oc.mk p' b' l').same ⟨p, b, l⟩)) w := by
  have u3 := Tryz.underlying4
  have a3' := Tryz.isAgg4
  have z3 := Tryz.sizeOf4
  have u4 := Tryz.underlying3
  have a4' := Tryz.isAgg3
  have z4 := Tryz.sizeOf3
  have hst : Tryz.prog.stoodInHeld 128 = false := by kernel_rfl
  rw [run_eql_struct]
  rw [show (10000 : Nat) = 9999 + 1 from rfl, Op.equalIn]
  simp only [Sem.run_bind, run_underlying Tryz.underlying128, Result.andThen_ok]
  go_simp
  unfold Oc.same
  by_cases h0 : p' = p <;> by_cases h1 : b' = b <;> by_cases h2 : l' = l <;> simp [h0, h1, h2]
end Go.Proofs.YtedblocbcjoolaaGreat
