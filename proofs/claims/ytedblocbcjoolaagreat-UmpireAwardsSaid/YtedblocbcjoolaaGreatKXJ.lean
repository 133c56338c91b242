/- Plain laws of layer 7: what holds in each truth. -/
import Derived.Test.YtedblocbcjoolaaGreatKXI
import Derived.Test.YtedblocbcjoolaaGreatKXC
import Derived.Test.YtedblocbcjoolaaGreatKVK
set_option linter.unusedSimpArgs false
set_option linter.unusedVariables false
namespace Go.Hs
open Go.RowKit Go.Proofs.YtedblocbcjoolaaGreat
/-- What a truth's result is like. -/
structure ResB (c : Cas) (t : List Thr) : Prop where
  award : bLo c 0 ≤ (sumT c c.flds t).award ∧ (sumT c c.flds t).award ≤ bHi c 0
  far : bLo c 1 ≤ feeA c.fee (sumT c c.flds t) ∧ feeA c.fee (sumT c c.flds t) ≤ bHi c 1
  soc : bLo c 2 ≤ feeB c.fee (sumT c c.flds t) ∧ feeB c.fee (sumT c c.flds t) ≤ bHi c 2
  net : bLo c 3 ≤ (sumT c c.flds t).award - feeA c.fee (sumT c c.flds t)
  cost : (sumT c c.flds t).award + feeB c.fee (sumT c c.flds t) ≤ bHi c 4
  aw : 0 ≤ (sumT c c.flds t).award ∧ (sumT c c.flds t).award ≤ 300000
  fa : 0 ≤ feeA c.fee (sumT c c.flds t) ∧ feeA c.fee (sumT c c.flds t) ≤ 10000
  fb : 0 ≤ feeB c.fee (sumT c c.flds t) ∧ feeB c.fee (sumT c c.flds t) ≤ 10000
  yes : calledS (sumT c c.flds t) = true → feeA c.fee (sumT c c.flds t) + feeB c.fee (sumT c c.flds t) = c.fee
  no : calledS (sumT c c.flds t) = false → feeA c.fee (sumT c c.flds t) = 0 ∧ feeB c.fee (sumT c c.flds t) = 0
end Go.Hs
