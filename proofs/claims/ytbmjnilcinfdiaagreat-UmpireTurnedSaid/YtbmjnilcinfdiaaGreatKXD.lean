/- Plain law of layer 7: the settled counts do not change if the adjusters change their parts. -/
import Derived.Test.YtbmjnilcinfdiaaGreatKXC
import Derived.Test.YtbmjnilcinfdiaaGreatKB6
set_option linter.unusedSimpArgs false
set_option linter.unusedVariables false
namespace Go.Hs
open Go.RowKit Go.Proofs.YtbmjnilcinfdiaaGreat
theorem turn_counts : ∀ (fs : List Fld) (t : List Thr), countsT (fs.map Fld.turn) (t.map Thr.turn) = countsT fs t
  | [], t => by simp [countsT]
  | f :: fs, [] => by simp [countsT]
  | f :: fs, x :: t => by
    have := turn_counts fs t
    unfold countsT at this ⊢
    simp only [List.map_cons, List.zip_cons_cons]
    rw [this, turn_settled]
end Go.Hs
