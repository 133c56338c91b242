/-
  No cell of these rows narrows 'for every input' (looked for: loops, veiled, ifaces, maps, wideKeys, modest, calm, conditions, laid).
  DERIVED. THE GIVEN ROWS OF THIS SEAT. 15 by the template 'for every input the law returns true; each argument reads behind the call as it read before'; 0 by the template 'total and deterministic' (their statements: YtfjecbfcnngacaaTotals.lean).
  GIVEN WITH THE SEED: the statements are not yours to turn. If you find one false, say at which input.
  Laid BY PROGRAM, IN A SANDBOX (cutbox-rows.mjs): the forced cells as the released guide's own fill.sh prints them over the translation 8776f87bd6844710… (all of the seat's roots in one cut). By AI agents, Wed Nov 11 2026. No macro, syntax, notation, axiom, sorry.
-/
import Derived.Test.YtfjecbfcnngacaaChecked
import GoSem.Claim
import GoSem.ClaimJoined
import GoSem.ClaimMapViews
import Derived.JoinedTies
import Derived.KernelRfl
namespace Go.Proofs.Ytfjecbfcnngacaa
/- THE CELL 'sum', in the pinned program and in every row, IS THE sha256 OF THE DUMP (.gsa) THAT YtfjecbfcnngacaaProg.lean LOADS. Nothing in Lean hashes anything: it is a label: what it is worth is what the hold of that sum in a sandbox is worth. -/
noncomputable def Try.pinned : Pinned := { name := "ytfjecbfcnngacaa", sum := "8776f87bd6844710f46f345be2cb9bc03168ceae879f8df4c1e3a7278e94a5b0", checked := Try.checked }
namespace Rows
def none {H : Type} : Left H := { results := [], args := [] }

/-- 'hailstonelaw05.TariffParts': WHATEVER THE INPUT: true; the input reads as it did. -/
def tariffPartsSpec : ChangeSpec := { name := "tariffParts", fn := fun _ => fun
  | [d1, d2, d3, d4] => { results := [.lit (.bool true)], args := [d1, d2, d3, d4] }
  | _ => none }
def tariffPartsRow : OpenClaim := { program := "ytfjecbfcnngacaa", sum := "8776f87bd6844710f46f345be2cb9bc03168ceae879f8df4c1e3a7278e94a5b0", func := "hailstone/hailstonelaw05.TariffParts", spec := "tariffParts", unfollowed := true, recurses := true, plainKeys := false, apart := false }
def TariffPartsSaid : Prop := tariffPartsRow.holds Try.pinned (OpenSpec.ofChange tariffPartsSpec)

/-- ITS FALSE NEIGHBOUR: 'it returns false'. Refute it at one input. -/
def tariffPartsWrong : ChangeSpec := { name := "tariffParts", fn := fun _ => fun
  | [d1, d2, d3, d4] => { results := [.lit (.bool false)], args := [d1, d2, d3, d4] }
  | _ => none }
def TariffPartsWrongFalsely : Prop := tariffPartsRow.holds Try.pinned (OpenSpec.ofChange tariffPartsWrong)

/-- 'hailstonelaw05.TariffBounds': WHATEVER THE INPUT: true; the input reads as it did. -/
def tariffBoundsSpec : ChangeSpec := { name := "tariffBounds", fn := fun _ => fun
  | [d1, d2] => { results := [.lit (.bool true)], args := [d1, d2] }
  | _ => none }
def tariffBoundsRow : OpenClaim := { program := "ytfjecbfcnngacaa", sum := "8776f87bd6844710f46f345be2cb9bc03168ceae879f8df4c1e3a7278e94a5b0", func := "hailstone/hailstonelaw05.TariffBounds", spec := "tariffBounds", unfollowed := true, recurses := true, plainKeys := false, apart := false }
def TariffBoundsSaid : Prop := tariffBoundsRow.holds Try.pinned (OpenSpec.ofChange tariffBoundsSpec)

/-- ITS FALSE NEIGHBOUR: 'it returns false'. Refute it at one input. -/
def tariffBoundsWrong : ChangeSpec := { name := "tariffBounds", fn := fun _ => fun
  | [d1, d2] => { results := [.lit (.bool false)], args := [d1, d2] }
  | _ => none }
def TariffBoundsWrongFalsely : Prop := tariffBoundsRow.holds Try.pinned (OpenSpec.ofChange tariffBoundsWrong)

/-- 'hailstonelaw05.TariffLater': WHATEVER THE INPUT: true; the input reads as it did. -/
def tariffLaterSpec : ChangeSpec := { name := "tariffLater", fn := fun _ => fun
  | [d1, d2, d3, d4] => { results := [.lit (.bool true)], args := [d1, d2, d3, d4] }
  | _ => none }
def tariffLaterRow : OpenClaim := { program := "ytfjecbfcnngacaa", sum := "8776f87bd6844710f46f345be2cb9bc03168ceae879f8df4c1e3a7278e94a5b0", func := "hailstone/hailstonelaw05.TariffLater", spec := "tariffLater", unfollowed := true, recurses := true, plainKeys := false, apart := false }
def TariffLaterSaid : Prop := tariffLaterRow.holds Try.pinned (OpenSpec.ofChange tariffLaterSpec)

/-- ITS FALSE NEIGHBOUR: 'it returns false'. Refute it at one input. -/
def tariffLaterWrong : ChangeSpec := { name := "tariffLater", fn := fun _ => fun
  | [d1, d2, d3, d4] => { results := [.lit (.bool false)], args := [d1, d2, d3, d4] }
  | _ => none }
def TariffLaterWrongFalsely : Prop := tariffLaterRow.holds Try.pinned (OpenSpec.ofChange tariffLaterWrong)

/-- 'hailstonelaw05.TariffMore': WHATEVER THE INPUT: true; the input reads as it did. -/
def tariffMoreSpec : ChangeSpec := { name := "tariffMore", fn := fun _ => fun
  | [d1, d2, d3, d4, d5] => { results := [.lit (.bool true)], args := [d1, d2, d3, d4, d5] }
  | _ => none }
def tariffMoreRow : OpenClaim := { program := "ytfjecbfcnngacaa", sum := "8776f87bd6844710f46f345be2cb9bc03168ceae879f8df4c1e3a7278e94a5b0", func := "hailstone/hailstonelaw05.TariffMore", spec := "tariffMore", unfollowed := true, recurses := true, plainKeys := false, apart := false }
def TariffMoreSaid : Prop := tariffMoreRow.holds Try.pinned (OpenSpec.ofChange tariffMoreSpec)

/-- ITS FALSE NEIGHBOUR: 'it returns false'. Refute it at one input. -/
def tariffMoreWrong : ChangeSpec := { name := "tariffMore", fn := fun _ => fun
  | [d1, d2, d3, d4, d5] => { results := [.lit (.bool false)], args := [d1, d2, d3, d4, d5] }
  | _ => none }
def TariffMoreWrongFalsely : Prop := tariffMoreRow.holds Try.pinned (OpenSpec.ofChange tariffMoreWrong)

/-- 'hailstonelaw05.TariffLeast': WHATEVER THE INPUT: true; the input reads as it did. -/
def tariffLeastSpec : ChangeSpec := { name := "tariffLeast", fn := fun _ => fun
  | [d1, d2, d3, d4, d5] => { results := [.lit (.bool true)], args := [d1, d2, d3, d4, d5] }
  | _ => none }
def tariffLeastRow : OpenClaim := { program := "ytfjecbfcnngacaa", sum := "8776f87bd6844710f46f345be2cb9bc03168ceae879f8df4c1e3a7278e94a5b0", func := "hailstone/hailstonelaw05.TariffLeast", spec := "tariffLeast", unfollowed := true, recurses := true, plainKeys := false, apart := false }
def TariffLeastSaid : Prop := tariffLeastRow.holds Try.pinned (OpenSpec.ofChange tariffLeastSpec)

/-- ITS FALSE NEIGHBOUR: 'it returns false'. Refute it at one input. -/
def tariffLeastWrong : ChangeSpec := { name := "tariffLeast", fn := fun _ => fun
  | [d1, d2, d3, d4, d5] => { results := [.lit (.bool false)], args := [d1, d2, d3, d4, d5] }
  | _ => none }
def TariffLeastWrongFalsely : Prop := tariffLeastRow.holds Try.pinned (OpenSpec.ofChange tariffLeastWrong)

/-- 'hailstonelaw05.TariffBetween': WHATEVER THE INPUT: true; the input reads as it did. -/
def tariffBetweenSpec : ChangeSpec := { name := "tariffBetween", fn := fun _ => fun
  | [d1, d2, d3, d4] => { results := [.lit (.bool true)], args := [d1, d2, d3, d4] }
  | _ => none }
def tariffBetweenRow : OpenClaim := { program := "ytfjecbfcnngacaa", sum := "8776f87bd6844710f46f345be2cb9bc03168ceae879f8df4c1e3a7278e94a5b0", func := "hailstone/hailstonelaw05.TariffBetween", spec := "tariffBetween", unfollowed := true, recurses := true, plainKeys := false, apart := false }
def TariffBetweenSaid : Prop := tariffBetweenRow.holds Try.pinned (OpenSpec.ofChange tariffBetweenSpec)

/-- ITS FALSE NEIGHBOUR: 'it returns false'. Refute it at one input. -/
def tariffBetweenWrong : ChangeSpec := { name := "tariffBetween", fn := fun _ => fun
  | [d1, d2, d3, d4] => { results := [.lit (.bool false)], args := [d1, d2, d3, d4] }
  | _ => none }
def TariffBetweenWrongFalsely : Prop := tariffBetweenRow.holds Try.pinned (OpenSpec.ofChange tariffBetweenWrong)

/-- 'hailstonelaw05.TariffHalves': WHATEVER THE INPUT: true; the input reads as it did. -/
def tariffHalvesSpec : ChangeSpec := { name := "tariffHalves", fn := fun _ => fun
  | [d1, d2, d3] => { results := [.lit (.bool true)], args := [d1, d2, d3] }
  | _ => none }
def tariffHalvesRow : OpenClaim := { program := "ytfjecbfcnngacaa", sum := "8776f87bd6844710f46f345be2cb9bc03168ceae879f8df4c1e3a7278e94a5b0", func := "hailstone/hailstonelaw05.TariffHalves", spec := "tariffHalves", unfollowed := true, recurses := true, plainKeys := false, apart := false }
def TariffHalvesSaid : Prop := tariffHalvesRow.holds Try.pinned (OpenSpec.ofChange tariffHalvesSpec)

/-- ITS FALSE NEIGHBOUR: 'it returns false'. Refute it at one input. -/
def tariffHalvesWrong : ChangeSpec := { name := "tariffHalves", fn := fun _ => fun
  | [d1, d2, d3] => { results := [.lit (.bool false)], args := [d1, d2, d3] }
  | _ => none }
def TariffHalvesWrongFalsely : Prop := tariffHalvesRow.holds Try.pinned (OpenSpec.ofChange tariffHalvesWrong)

/-- 'hailstonelaw05.TariffWider': WHATEVER THE INPUT: true; the input reads as it did. -/
def tariffWiderSpec : ChangeSpec := { name := "tariffWider", fn := fun _ => fun
  | [d1, d2, d3, d4, d5] => { results := [.lit (.bool true)], args := [d1, d2, d3, d4, d5] }
  | _ => none }
def tariffWiderRow : OpenClaim := { program := "ytfjecbfcnngacaa", sum := "8776f87bd6844710f46f345be2cb9bc03168ceae879f8df4c1e3a7278e94a5b0", func := "hailstone/hailstonelaw05.TariffWider", spec := "tariffWider", unfollowed := true, recurses := true, plainKeys := false, apart := false }
def TariffWiderSaid : Prop := tariffWiderRow.holds Try.pinned (OpenSpec.ofChange tariffWiderSpec)

/-- ITS FALSE NEIGHBOUR: 'it returns false'. Refute it at one input. -/
def tariffWiderWrong : ChangeSpec := { name := "tariffWider", fn := fun _ => fun
  | [d1, d2, d3, d4, d5] => { results := [.lit (.bool false)], args := [d1, d2, d3, d4, d5] }
  | _ => none }
def TariffWiderWrongFalsely : Prop := tariffWiderRow.holds Try.pinned (OpenSpec.ofChange tariffWiderWrong)

/-- 'hailstonelaw05.TariffPays': WHATEVER THE INPUT: true; the input reads as it did. -/
def tariffPaysSpec : ChangeSpec := { name := "tariffPays", fn := fun _ => fun
  | [d1, d2, d3, d4] => { results := [.lit (.bool true)], args := [d1, d2, d3, d4] }
  | _ => none }
def tariffPaysRow : OpenClaim := { program := "ytfjecbfcnngacaa", sum := "8776f87bd6844710f46f345be2cb9bc03168ceae879f8df4c1e3a7278e94a5b0", func := "hailstone/hailstonelaw05.TariffPays", spec := "tariffPays", unfollowed := true, recurses := true, plainKeys := false, apart := false }
def TariffPaysSaid : Prop := tariffPaysRow.holds Try.pinned (OpenSpec.ofChange tariffPaysSpec)

/-- ITS FALSE NEIGHBOUR: 'it returns false'. Refute it at one input. -/
def tariffPaysWrong : ChangeSpec := { name := "tariffPays", fn := fun _ => fun
  | [d1, d2, d3, d4] => { results := [.lit (.bool false)], args := [d1, d2, d3, d4] }
  | _ => none }
def TariffPaysWrongFalsely : Prop := tariffPaysRow.holds Try.pinned (OpenSpec.ofChange tariffPaysWrong)

/-- 'hailstonelaw05.TariffTruth': WHATEVER THE INPUT: true; the input reads as it did. -/
def tariffTruthSpec : ChangeSpec := { name := "tariffTruth", fn := fun _ => fun
  | [d1, d2, d3, d4] => { results := [.lit (.bool true)], args := [d1, d2, d3, d4] }
  | _ => none }
def tariffTruthRow : OpenClaim := { program := "ytfjecbfcnngacaa", sum := "8776f87bd6844710f46f345be2cb9bc03168ceae879f8df4c1e3a7278e94a5b0", func := "hailstone/hailstonelaw05.TariffTruth", spec := "tariffTruth", unfollowed := true, recurses := true, plainKeys := false, apart := false }
def TariffTruthSaid : Prop := tariffTruthRow.holds Try.pinned (OpenSpec.ofChange tariffTruthSpec)

/-- ITS FALSE NEIGHBOUR: 'it returns false'. Refute it at one input. -/
def tariffTruthWrong : ChangeSpec := { name := "tariffTruth", fn := fun _ => fun
  | [d1, d2, d3, d4] => { results := [.lit (.bool false)], args := [d1, d2, d3, d4] }
  | _ => none }
def TariffTruthWrongFalsely : Prop := tariffTruthRow.holds Try.pinned (OpenSpec.ofChange tariffTruthWrong)

/-- 'hailstonelaw05.TariffTotals': WHATEVER THE INPUT: true; the input reads as it did. -/
def tariffTotalsSpec : ChangeSpec := { name := "tariffTotals", fn := fun _ => fun
  | [d1, d2, d3, d4] => { results := [.lit (.bool true)], args := [d1, d2, d3, d4] }
  | _ => none }
def tariffTotalsRow : OpenClaim := { program := "ytfjecbfcnngacaa", sum := "8776f87bd6844710f46f345be2cb9bc03168ceae879f8df4c1e3a7278e94a5b0", func := "hailstone/hailstonelaw05.TariffTotals", spec := "tariffTotals", unfollowed := true, recurses := true, plainKeys := false, apart := false }
def TariffTotalsSaid : Prop := tariffTotalsRow.holds Try.pinned (OpenSpec.ofChange tariffTotalsSpec)

/-- ITS FALSE NEIGHBOUR: 'it returns false'. Refute it at one input. -/
def tariffTotalsWrong : ChangeSpec := { name := "tariffTotals", fn := fun _ => fun
  | [d1, d2, d3, d4] => { results := [.lit (.bool false)], args := [d1, d2, d3, d4] }
  | _ => none }
def TariffTotalsWrongFalsely : Prop := tariffTotalsRow.holds Try.pinned (OpenSpec.ofChange tariffTotalsWrong)

/-- 'hailstonelaw05.TariffAll': WHATEVER THE INPUT: true; the input reads as it did. -/
def tariffAllSpec : ChangeSpec := { name := "tariffAll", fn := fun _ => fun
  | [d1, d2, d3, d4] => { results := [.lit (.bool true)], args := [d1, d2, d3, d4] }
  | _ => none }
def tariffAllRow : OpenClaim := { program := "ytfjecbfcnngacaa", sum := "8776f87bd6844710f46f345be2cb9bc03168ceae879f8df4c1e3a7278e94a5b0", func := "hailstone/hailstonelaw05.TariffAll", spec := "tariffAll", unfollowed := true, recurses := true, plainKeys := false, apart := false }
def TariffAllSaid : Prop := tariffAllRow.holds Try.pinned (OpenSpec.ofChange tariffAllSpec)

/-- ITS FALSE NEIGHBOUR: 'it returns false'. Refute it at one input. -/
def tariffAllWrong : ChangeSpec := { name := "tariffAll", fn := fun _ => fun
  | [d1, d2, d3, d4] => { results := [.lit (.bool false)], args := [d1, d2, d3, d4] }
  | _ => none }
def TariffAllWrongFalsely : Prop := tariffAllRow.holds Try.pinned (OpenSpec.ofChange tariffAllWrong)

/-- 'hailstonelaw05.TariffMisprints': WHATEVER THE INPUT: true; the input reads as it did. -/
def tariffMisprintsSpec : ChangeSpec := { name := "tariffMisprints", fn := fun _ => fun
  | [d1, d2, d3, d4] => { results := [.lit (.bool true)], args := [d1, d2, d3, d4] }
  | _ => none }
def tariffMisprintsRow : OpenClaim := { program := "ytfjecbfcnngacaa", sum := "8776f87bd6844710f46f345be2cb9bc03168ceae879f8df4c1e3a7278e94a5b0", func := "hailstone/hailstonelaw05.TariffMisprints", spec := "tariffMisprints", unfollowed := true, recurses := true, plainKeys := false, apart := false }
def TariffMisprintsSaid : Prop := tariffMisprintsRow.holds Try.pinned (OpenSpec.ofChange tariffMisprintsSpec)

/-- ITS FALSE NEIGHBOUR: 'it returns false'. Refute it at one input. -/
def tariffMisprintsWrong : ChangeSpec := { name := "tariffMisprints", fn := fun _ => fun
  | [d1, d2, d3, d4] => { results := [.lit (.bool false)], args := [d1, d2, d3, d4] }
  | _ => none }
def TariffMisprintsWrongFalsely : Prop := tariffMisprintsRow.holds Try.pinned (OpenSpec.ofChange tariffMisprintsWrong)

/-- 'hailstonelaw05.TariffRising': WHATEVER THE INPUT: true; the input reads as it did. -/
def tariffRisingSpec : ChangeSpec := { name := "tariffRising", fn := fun _ => fun
  | [d1, d2, d3, d4, d5] => { results := [.lit (.bool true)], args := [d1, d2, d3, d4, d5] }
  | _ => none }
def tariffRisingRow : OpenClaim := { program := "ytfjecbfcnngacaa", sum := "8776f87bd6844710f46f345be2cb9bc03168ceae879f8df4c1e3a7278e94a5b0", func := "hailstone/hailstonelaw05.TariffRising", spec := "tariffRising", unfollowed := true, recurses := true, plainKeys := false, apart := false }
def TariffRisingSaid : Prop := tariffRisingRow.holds Try.pinned (OpenSpec.ofChange tariffRisingSpec)

/-- ITS FALSE NEIGHBOUR: 'it returns false'. Refute it at one input. -/
def tariffRisingWrong : ChangeSpec := { name := "tariffRising", fn := fun _ => fun
  | [d1, d2, d3, d4, d5] => { results := [.lit (.bool false)], args := [d1, d2, d3, d4, d5] }
  | _ => none }
def TariffRisingWrongFalsely : Prop := tariffRisingRow.holds Try.pinned (OpenSpec.ofChange tariffRisingWrong)

/-- 'hailstonelaw05.TariffNames': WHATEVER THE INPUT: true; the input reads as it did. -/
def tariffNamesSpec : ChangeSpec := { name := "tariffNames", fn := fun _ => fun
  | [] => { results := [.lit (.bool true)], args := [] }
  | _ => none }
def tariffNamesRow : OpenClaim := { program := "ytfjecbfcnngacaa", sum := "8776f87bd6844710f46f345be2cb9bc03168ceae879f8df4c1e3a7278e94a5b0", func := "hailstone/hailstonelaw05.TariffNames", spec := "tariffNames", unfollowed := true, recurses := true, plainKeys := false, apart := false }
def TariffNamesSaid : Prop := tariffNamesRow.holds Try.pinned (OpenSpec.ofChange tariffNamesSpec)

/-- ITS FALSE NEIGHBOUR: 'it returns false'. Refute it at one input. -/
def tariffNamesWrong : ChangeSpec := { name := "tariffNames", fn := fun _ => fun
  | [] => { results := [.lit (.bool false)], args := [] }
  | _ => none }
def TariffNamesWrongFalsely : Prop := tariffNamesRow.holds Try.pinned (OpenSpec.ofChange tariffNamesWrong)

/- THE SECOND FORM. 'bulk': how many values and letters a reading holds, each counted each time it is reached (what is shared counts as often as it is met; a slice's spare places count too). A statement '..UptoSaid' is the law's where the arguments, and the package variables that the reading takes, are together of bulk at most 1048576: NARROWER than '..Said'. Prove '..Said' where nothing that the law and all that it calls make is longer than what came in: it says more and counts as full. Else prove '..UptoSaid'. A law counts once. -/
mutual
def uptoBulk {H : Type} : DataW H → Nat
  | .lit (.string bytes) => bytes.length + 1
  | .lit _ => 1
  | .nil => 1
  | .ptr d => uptoBulk d + 1
  | .slice elems spare => uptoBulkAll elems + uptoBulkAll spare + 1
  | .agg parts => uptoBulkAll parts + 1
  | .iface _ d => uptoBulk d + 1
  | .map entries => uptoBulkEntries entries + 1
  | .held _ => 1
def uptoBulkAll {H : Type} : List (DataW H) → Nat
  | [] => 0
  | d :: r => uptoBulk d + uptoBulkAll r
def uptoBulkEntries {H : Type} : List (Lit × DataW H) → Nat
  | [] => 0
  | x :: r => uptoBulkEntry x + uptoBulkEntries r
def uptoBulkEntry {H : Type} : Lit × DataW H → Nat
  | (.string bytes, d) => bytes.length + uptoBulk d + 1
  | (_, d) => uptoBulk d + 1
 end
def uptoSmall : (H : Type) → List (DataW H) → Bool := fun _ ds => decide (uptoBulkAll ds ≤ 1048576)
def OpenSpec.upto (s : _root_.Go.ChangeSpec) : _root_.Go.OpenSpec := { _root_.Go.OpenSpec.ofChange s with cond := some uptoSmall }

/-- 'hailstonelaw05.TariffParts', WHERE WHAT IT READS IS OF BULK AT MOST 1048576: true; the input reads as it did. -/
def tariffPartsUptoRow : OpenClaim := { program := "ytfjecbfcnngacaa", sum := "8776f87bd6844710f46f345be2cb9bc03168ceae879f8df4c1e3a7278e94a5b0", func := "hailstone/hailstonelaw05.TariffParts", spec := "tariffParts", unfollowed := true, recurses := true, plainKeys := false, apart := false, narrowed := true }
def TariffPartsUptoSaid : Prop := tariffPartsUptoRow.holds Try.pinned (OpenSpec.upto tariffPartsSpec)

/-- 'hailstonelaw05.TariffBounds', WHERE WHAT IT READS IS OF BULK AT MOST 1048576: true; the input reads as it did. -/
def tariffBoundsUptoRow : OpenClaim := { program := "ytfjecbfcnngacaa", sum := "8776f87bd6844710f46f345be2cb9bc03168ceae879f8df4c1e3a7278e94a5b0", func := "hailstone/hailstonelaw05.TariffBounds", spec := "tariffBounds", unfollowed := true, recurses := true, plainKeys := false, apart := false, narrowed := true }
def TariffBoundsUptoSaid : Prop := tariffBoundsUptoRow.holds Try.pinned (OpenSpec.upto tariffBoundsSpec)

/-- 'hailstonelaw05.TariffLater', WHERE WHAT IT READS IS OF BULK AT MOST 1048576: true; the input reads as it did. -/
def tariffLaterUptoRow : OpenClaim := { program := "ytfjecbfcnngacaa", sum := "8776f87bd6844710f46f345be2cb9bc03168ceae879f8df4c1e3a7278e94a5b0", func := "hailstone/hailstonelaw05.TariffLater", spec := "tariffLater", unfollowed := true, recurses := true, plainKeys := false, apart := false, narrowed := true }
def TariffLaterUptoSaid : Prop := tariffLaterUptoRow.holds Try.pinned (OpenSpec.upto tariffLaterSpec)

/-- 'hailstonelaw05.TariffMore', WHERE WHAT IT READS IS OF BULK AT MOST 1048576: true; the input reads as it did. -/
def tariffMoreUptoRow : OpenClaim := { program := "ytfjecbfcnngacaa", sum := "8776f87bd6844710f46f345be2cb9bc03168ceae879f8df4c1e3a7278e94a5b0", func := "hailstone/hailstonelaw05.TariffMore", spec := "tariffMore", unfollowed := true, recurses := true, plainKeys := false, apart := false, narrowed := true }
def TariffMoreUptoSaid : Prop := tariffMoreUptoRow.holds Try.pinned (OpenSpec.upto tariffMoreSpec)

/-- 'hailstonelaw05.TariffLeast', WHERE WHAT IT READS IS OF BULK AT MOST 1048576: true; the input reads as it did. -/
def tariffLeastUptoRow : OpenClaim := { program := "ytfjecbfcnngacaa", sum := "8776f87bd6844710f46f345be2cb9bc03168ceae879f8df4c1e3a7278e94a5b0", func := "hailstone/hailstonelaw05.TariffLeast", spec := "tariffLeast", unfollowed := true, recurses := true, plainKeys := false, apart := false, narrowed := true }
def TariffLeastUptoSaid : Prop := tariffLeastUptoRow.holds Try.pinned (OpenSpec.upto tariffLeastSpec)

/-- 'hailstonelaw05.TariffBetween', WHERE WHAT IT READS IS OF BULK AT MOST 1048576: true; the input reads as it did. -/
def tariffBetweenUptoRow : OpenClaim := { program := "ytfjecbfcnngacaa", sum := "8776f87bd6844710f46f345be2cb9bc03168ceae879f8df4c1e3a7278e94a5b0", func := "hailstone/hailstonelaw05.TariffBetween", spec := "tariffBetween", unfollowed := true, recurses := true, plainKeys := false, apart := false, narrowed := true }
def TariffBetweenUptoSaid : Prop := tariffBetweenUptoRow.holds Try.pinned (OpenSpec.upto tariffBetweenSpec)

/-- 'hailstonelaw05.TariffHalves', WHERE WHAT IT READS IS OF BULK AT MOST 1048576: true; the input reads as it did. -/
def tariffHalvesUptoRow : OpenClaim := { program := "ytfjecbfcnngacaa", sum := "8776f87bd6844710f46f345be2cb9bc03168ceae879f8df4c1e3a7278e94a5b0", func := "hailstone/hailstonelaw05.TariffHalves", spec := "tariffHalves", unfollowed := true, recurses := true, plainKeys := false, apart := false, narrowed := true }
def TariffHalvesUptoSaid : Prop := tariffHalvesUptoRow.holds Try.pinned (OpenSpec.upto tariffHalvesSpec)

/-- 'hailstonelaw05.TariffWider', WHERE WHAT IT READS IS OF BULK AT MOST 1048576: true; the input reads as it did. -/
def tariffWiderUptoRow : OpenClaim := { program := "ytfjecbfcnngacaa", sum := "8776f87bd6844710f46f345be2cb9bc03168ceae879f8df4c1e3a7278e94a5b0", func := "hailstone/hailstonelaw05.TariffWider", spec := "tariffWider", unfollowed := true, recurses := true, plainKeys := false, apart := false, narrowed := true }
def TariffWiderUptoSaid : Prop := tariffWiderUptoRow.holds Try.pinned (OpenSpec.upto tariffWiderSpec)

/-- 'hailstonelaw05.TariffPays', WHERE WHAT IT READS IS OF BULK AT MOST 1048576: true; the input reads as it did. -/
def tariffPaysUptoRow : OpenClaim := { program := "ytfjecbfcnngacaa", sum := "8776f87bd6844710f46f345be2cb9bc03168ceae879f8df4c1e3a7278e94a5b0", func := "hailstone/hailstonelaw05.TariffPays", spec := "tariffPays", unfollowed := true, recurses := true, plainKeys := false, apart := false, narrowed := true }
def TariffPaysUptoSaid : Prop := tariffPaysUptoRow.holds Try.pinned (OpenSpec.upto tariffPaysSpec)

/-- 'hailstonelaw05.TariffTruth', WHERE WHAT IT READS IS OF BULK AT MOST 1048576: true; the input reads as it did. -/
def tariffTruthUptoRow : OpenClaim := { program := "ytfjecbfcnngacaa", sum := "8776f87bd6844710f46f345be2cb9bc03168ceae879f8df4c1e3a7278e94a5b0", func := "hailstone/hailstonelaw05.TariffTruth", spec := "tariffTruth", unfollowed := true, recurses := true, plainKeys := false, apart := false, narrowed := true }
def TariffTruthUptoSaid : Prop := tariffTruthUptoRow.holds Try.pinned (OpenSpec.upto tariffTruthSpec)

/-- 'hailstonelaw05.TariffTotals', WHERE WHAT IT READS IS OF BULK AT MOST 1048576: true; the input reads as it did. -/
def tariffTotalsUptoRow : OpenClaim := { program := "ytfjecbfcnngacaa", sum := "8776f87bd6844710f46f345be2cb9bc03168ceae879f8df4c1e3a7278e94a5b0", func := "hailstone/hailstonelaw05.TariffTotals", spec := "tariffTotals", unfollowed := true, recurses := true, plainKeys := false, apart := false, narrowed := true }
def TariffTotalsUptoSaid : Prop := tariffTotalsUptoRow.holds Try.pinned (OpenSpec.upto tariffTotalsSpec)

/-- 'hailstonelaw05.TariffAll', WHERE WHAT IT READS IS OF BULK AT MOST 1048576: true; the input reads as it did. -/
def tariffAllUptoRow : OpenClaim := { program := "ytfjecbfcnngacaa", sum := "8776f87bd6844710f46f345be2cb9bc03168ceae879f8df4c1e3a7278e94a5b0", func := "hailstone/hailstonelaw05.TariffAll", spec := "tariffAll", unfollowed := true, recurses := true, plainKeys := false, apart := false, narrowed := true }
def TariffAllUptoSaid : Prop := tariffAllUptoRow.holds Try.pinned (OpenSpec.upto tariffAllSpec)

/-- 'hailstonelaw05.TariffMisprints', WHERE WHAT IT READS IS OF BULK AT MOST 1048576: true; the input reads as it did. -/
def tariffMisprintsUptoRow : OpenClaim := { program := "ytfjecbfcnngacaa", sum := "8776f87bd6844710f46f345be2cb9bc03168ceae879f8df4c1e3a7278e94a5b0", func := "hailstone/hailstonelaw05.TariffMisprints", spec := "tariffMisprints", unfollowed := true, recurses := true, plainKeys := false, apart := false, narrowed := true }
def TariffMisprintsUptoSaid : Prop := tariffMisprintsUptoRow.holds Try.pinned (OpenSpec.upto tariffMisprintsSpec)

/-- 'hailstonelaw05.TariffRising', WHERE WHAT IT READS IS OF BULK AT MOST 1048576: true; the input reads as it did. -/
def tariffRisingUptoRow : OpenClaim := { program := "ytfjecbfcnngacaa", sum := "8776f87bd6844710f46f345be2cb9bc03168ceae879f8df4c1e3a7278e94a5b0", func := "hailstone/hailstonelaw05.TariffRising", spec := "tariffRising", unfollowed := true, recurses := true, plainKeys := false, apart := false, narrowed := true }
def TariffRisingUptoSaid : Prop := tariffRisingUptoRow.holds Try.pinned (OpenSpec.upto tariffRisingSpec)

/-- 'hailstonelaw05.TariffNames', WHERE WHAT IT READS IS OF BULK AT MOST 1048576: true; the input reads as it did. -/
def tariffNamesUptoRow : OpenClaim := { program := "ytfjecbfcnngacaa", sum := "8776f87bd6844710f46f345be2cb9bc03168ceae879f8df4c1e3a7278e94a5b0", func := "hailstone/hailstonelaw05.TariffNames", spec := "tariffNames", unfollowed := true, recurses := true, plainKeys := false, apart := false, narrowed := true }
def TariffNamesUptoSaid : Prop := tariffNamesUptoRow.holds Try.pinned (OpenSpec.upto tariffNamesSpec)

end Rows
end Go.Proofs.Ytfjecbfcnngacaa
