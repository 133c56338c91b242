/-
  No cell of these rows narrows 'for every input' (looked for: loops, veiled, ifaces, maps, wideKeys, modest, calm, conditions, laid).
  DERIVED. THE GIVEN ROWS OF THIS SEAT. 15 by the template 'for every input the law returns true; each argument reads behind the call as it read before'; 0 by the template 'total and deterministic' (their statements: YtegkdnfeceomdaaGreatTotals.lean).
  GIVEN WITH THE SEED: the statements are not yours to turn. If you find one false, say at which input.
  Laid BY PROGRAM, IN A SANDBOX (cutbox-rows.mjs): the forced cells as the released guide's own fill.sh prints them over the translation 7ccc85a763a45454… (all of the seat's roots in one cut). By AI agents, Wed Nov 11 2026. No macro, syntax, notation, axiom, sorry.
-/
import Derived.Test.YtegkdnfeceomdaaGreatChecked
import GoSem.Claim
import GoSem.ClaimJoined
import GoSem.ClaimMapViews
import Derived.JoinedTies
import Derived.KernelRfl
namespace Go.Proofs.YtegkdnfeceomdaaGreat
/- THE CELL 'sum', in the pinned program and in every row, IS THE sha256 OF THE DUMP (.gsa) THAT YtegkdnfeceomdaaGreatProg.lean LOADS. Nothing in Lean hashes anything: it is a label: what it is worth is what the hold of that sum in a sandbox is worth. -/
noncomputable def Tryz.pinned : Pinned := { name := "ytegkdnfeceomdaagreat", sum := "7ccc85a763a454548f3fcd00a86d9ad781f03a258d2abb5a0108f9148f9c6848", checked := Tryz.checked }
namespace Rows
def none {H : Type} : Left H := { results := [], args := [] }

/-- 'hailstonelaw08.DoubleSettles': WHATEVER THE INPUT: true; the input reads as it did. -/
def doubleSettlesSpec : ChangeSpec := { name := "doubleSettles", fn := fun _ => fun
  | [d1, d2] => { results := [.lit (.bool true)], args := [d1, d2] }
  | _ => none }
def doubleSettlesRow : OpenClaim := { program := "ytegkdnfeceomdaagreat", sum := "7ccc85a763a454548f3fcd00a86d9ad781f03a258d2abb5a0108f9148f9c6848", func := "hailstone/hailstonelaw08.DoubleSettles", spec := "doubleSettles", unfollowed := true, recurses := true, plainKeys := false, apart := false }
def DoubleSettlesSaid : Prop := doubleSettlesRow.holds Tryz.pinned (OpenSpec.ofChange doubleSettlesSpec)

/-- ITS FALSE NEIGHBOUR: 'it returns false'. Refute it at one input. -/
def doubleSettlesWrong : ChangeSpec := { name := "doubleSettles", fn := fun _ => fun
  | [d1, d2] => { results := [.lit (.bool false)], args := [d1, d2] }
  | _ => none }
def DoubleSettlesWrongFalsely : Prop := doubleSettlesRow.holds Tryz.pinned (OpenSpec.ofChange doubleSettlesWrong)

/-- 'hailstonelaw08.DoublePlays': WHATEVER THE INPUT: true; the input reads as it did. -/
def doublePlaysSpec : ChangeSpec := { name := "doublePlays", fn := fun _ => fun
  | [d1, d2] => { results := [.lit (.bool true)], args := [d1, d2] }
  | _ => none }
def doublePlaysRow : OpenClaim := { program := "ytegkdnfeceomdaagreat", sum := "7ccc85a763a454548f3fcd00a86d9ad781f03a258d2abb5a0108f9148f9c6848", func := "hailstone/hailstonelaw08.DoublePlays", spec := "doublePlays", unfollowed := true, recurses := true, plainKeys := false, apart := false }
def DoublePlaysSaid : Prop := doublePlaysRow.holds Tryz.pinned (OpenSpec.ofChange doublePlaysSpec)

/-- ITS FALSE NEIGHBOUR: 'it returns false'. Refute it at one input. -/
def doublePlaysWrong : ChangeSpec := { name := "doublePlays", fn := fun _ => fun
  | [d1, d2] => { results := [.lit (.bool false)], args := [d1, d2] }
  | _ => none }
def DoublePlaysWrongFalsely : Prop := doublePlaysRow.holds Tryz.pinned (OpenSpec.ofChange doublePlaysWrong)

/-- 'hailstonelaw08.DoubleBounds': WHATEVER THE INPUT: true; the input reads as it did. -/
def doubleBoundsSpec : ChangeSpec := { name := "doubleBounds", fn := fun _ => fun
  | [d] => { results := [.lit (.bool true)], args := [d] }
  | _ => none }
def doubleBoundsRow : OpenClaim := { program := "ytegkdnfeceomdaagreat", sum := "7ccc85a763a454548f3fcd00a86d9ad781f03a258d2abb5a0108f9148f9c6848", func := "hailstone/hailstonelaw08.DoubleBounds", spec := "doubleBounds", unfollowed := true, recurses := true, plainKeys := false, apart := false }
def DoubleBoundsSaid : Prop := doubleBoundsRow.holds Tryz.pinned (OpenSpec.ofChange doubleBoundsSpec)

/-- ITS FALSE NEIGHBOUR: 'it returns false'. Refute it at one input. -/
def doubleBoundsWrong : ChangeSpec := { name := "doubleBounds", fn := fun _ => fun
  | [d] => { results := [.lit (.bool false)], args := [d] }
  | _ => none }
def DoubleBoundsWrongFalsely : Prop := doubleBoundsRow.holds Tryz.pinned (OpenSpec.ofChange doubleBoundsWrong)

/-- 'hailstonelaw08.DoubleLeaves': WHATEVER THE INPUT: true; the input reads as it did. -/
def doubleLeavesSpec : ChangeSpec := { name := "doubleLeaves", fn := fun _ => fun
  | [d] => { results := [.lit (.bool true)], args := [d] }
  | _ => none }
def doubleLeavesRow : OpenClaim := { program := "ytegkdnfeceomdaagreat", sum := "7ccc85a763a454548f3fcd00a86d9ad781f03a258d2abb5a0108f9148f9c6848", func := "hailstone/hailstonelaw08.DoubleLeaves", spec := "doubleLeaves", unfollowed := true, recurses := true, plainKeys := false, apart := false }
def DoubleLeavesSaid : Prop := doubleLeavesRow.holds Tryz.pinned (OpenSpec.ofChange doubleLeavesSpec)

/-- ITS FALSE NEIGHBOUR: 'it returns false'. Refute it at one input. -/
def doubleLeavesWrong : ChangeSpec := { name := "doubleLeaves", fn := fun _ => fun
  | [d] => { results := [.lit (.bool false)], args := [d] }
  | _ => none }
def DoubleLeavesWrongFalsely : Prop := doubleLeavesRow.holds Tryz.pinned (OpenSpec.ofChange doubleLeavesWrong)

/-- 'hailstonelaw08.DoubleTruth': WHATEVER THE INPUT: true; the input reads as it did. -/
def doubleTruthSpec : ChangeSpec := { name := "doubleTruth", fn := fun _ => fun
  | [d1, d2, d3] => { results := [.lit (.bool true)], args := [d1, d2, d3] }
  | _ => none }
def doubleTruthRow : OpenClaim := { program := "ytegkdnfeceomdaagreat", sum := "7ccc85a763a454548f3fcd00a86d9ad781f03a258d2abb5a0108f9148f9c6848", func := "hailstone/hailstonelaw08.DoubleTruth", spec := "doubleTruth", unfollowed := true, recurses := true, plainKeys := false, apart := false }
def DoubleTruthSaid : Prop := doubleTruthRow.holds Tryz.pinned (OpenSpec.ofChange doubleTruthSpec)

/-- ITS FALSE NEIGHBOUR: 'it returns false'. Refute it at one input. -/
def doubleTruthWrong : ChangeSpec := { name := "doubleTruth", fn := fun _ => fun
  | [d1, d2, d3] => { results := [.lit (.bool false)], args := [d1, d2, d3] }
  | _ => none }
def DoubleTruthWrongFalsely : Prop := doubleTruthRow.holds Tryz.pinned (OpenSpec.ofChange doubleTruthWrong)

/-- 'hailstonelaw08.DoubleEnds': WHATEVER THE INPUT: true; the input reads as it did. -/
def doubleEndsSpec : ChangeSpec := { name := "doubleEnds", fn := fun _ => fun
  | [d1, d2] => { results := [.lit (.bool true)], args := [d1, d2] }
  | _ => none }
def doubleEndsRow : OpenClaim := { program := "ytegkdnfeceomdaagreat", sum := "7ccc85a763a454548f3fcd00a86d9ad781f03a258d2abb5a0108f9148f9c6848", func := "hailstone/hailstonelaw08.DoubleEnds", spec := "doubleEnds", unfollowed := true, recurses := true, plainKeys := false, apart := false }
def DoubleEndsSaid : Prop := doubleEndsRow.holds Tryz.pinned (OpenSpec.ofChange doubleEndsSpec)

/-- ITS FALSE NEIGHBOUR: 'it returns false'. Refute it at one input. -/
def doubleEndsWrong : ChangeSpec := { name := "doubleEnds", fn := fun _ => fun
  | [d1, d2] => { results := [.lit (.bool false)], args := [d1, d2] }
  | _ => none }
def DoubleEndsWrongFalsely : Prop := doubleEndsRow.holds Tryz.pinned (OpenSpec.ofChange doubleEndsWrong)

/-- 'hailstonelaw08.DoubleMore': WHATEVER THE INPUT: true; the input reads as it did. -/
def doubleMoreSpec : ChangeSpec := { name := "doubleMore", fn := fun _ => fun
  | [d1, d2] => { results := [.lit (.bool true)], args := [d1, d2] }
  | _ => none }
def doubleMoreRow : OpenClaim := { program := "ytegkdnfeceomdaagreat", sum := "7ccc85a763a454548f3fcd00a86d9ad781f03a258d2abb5a0108f9148f9c6848", func := "hailstone/hailstonelaw08.DoubleMore", spec := "doubleMore", unfollowed := true, recurses := true, plainKeys := false, apart := false }
def DoubleMoreSaid : Prop := doubleMoreRow.holds Tryz.pinned (OpenSpec.ofChange doubleMoreSpec)

/-- ITS FALSE NEIGHBOUR: 'it returns false'. Refute it at one input. -/
def doubleMoreWrong : ChangeSpec := { name := "doubleMore", fn := fun _ => fun
  | [d1, d2] => { results := [.lit (.bool false)], args := [d1, d2] }
  | _ => none }
def DoubleMoreWrongFalsely : Prop := doubleMoreRow.holds Tryz.pinned (OpenSpec.ofChange doubleMoreWrong)

/-- 'hailstonelaw08.DoubleWider': WHATEVER THE INPUT: true; the input reads as it did. -/
def doubleWiderSpec : ChangeSpec := { name := "doubleWider", fn := fun _ => fun
  | [d1, d2, d3] => { results := [.lit (.bool true)], args := [d1, d2, d3] }
  | _ => none }
def doubleWiderRow : OpenClaim := { program := "ytegkdnfeceomdaagreat", sum := "7ccc85a763a454548f3fcd00a86d9ad781f03a258d2abb5a0108f9148f9c6848", func := "hailstone/hailstonelaw08.DoubleWider", spec := "doubleWider", unfollowed := true, recurses := true, plainKeys := false, apart := false }
def DoubleWiderSaid : Prop := doubleWiderRow.holds Tryz.pinned (OpenSpec.ofChange doubleWiderSpec)

/-- ITS FALSE NEIGHBOUR: 'it returns false'. Refute it at one input. -/
def doubleWiderWrong : ChangeSpec := { name := "doubleWider", fn := fun _ => fun
  | [d1, d2, d3] => { results := [.lit (.bool false)], args := [d1, d2, d3] }
  | _ => none }
def DoubleWiderWrongFalsely : Prop := doubleWiderRow.holds Tryz.pinned (OpenSpec.ofChange doubleWiderWrong)

/-- 'hailstonelaw08.DoubleLoss': WHATEVER THE INPUT: true; the input reads as it did. -/
def doubleLossSpec : ChangeSpec := { name := "doubleLoss", fn := fun _ => fun
  | [d1, d2, d3] => { results := [.lit (.bool true)], args := [d1, d2, d3] }
  | _ => none }
def doubleLossRow : OpenClaim := { program := "ytegkdnfeceomdaagreat", sum := "7ccc85a763a454548f3fcd00a86d9ad781f03a258d2abb5a0108f9148f9c6848", func := "hailstone/hailstonelaw08.DoubleLoss", spec := "doubleLoss", unfollowed := true, recurses := true, plainKeys := false, apart := false }
def DoubleLossSaid : Prop := doubleLossRow.holds Tryz.pinned (OpenSpec.ofChange doubleLossSpec)

/-- ITS FALSE NEIGHBOUR: 'it returns false'. Refute it at one input. -/
def doubleLossWrong : ChangeSpec := { name := "doubleLoss", fn := fun _ => fun
  | [d1, d2, d3] => { results := [.lit (.bool false)], args := [d1, d2, d3] }
  | _ => none }
def DoubleLossWrongFalsely : Prop := doubleLossRow.holds Tryz.pinned (OpenSpec.ofChange doubleLossWrong)

/-- 'hailstonelaw08.DoubleFirst': WHATEVER THE INPUT: true; the input reads as it did. -/
def doubleFirstSpec : ChangeSpec := { name := "doubleFirst", fn := fun _ => fun
  | [d] => { results := [.lit (.bool true)], args := [d] }
  | _ => none }
def doubleFirstRow : OpenClaim := { program := "ytegkdnfeceomdaagreat", sum := "7ccc85a763a454548f3fcd00a86d9ad781f03a258d2abb5a0108f9148f9c6848", func := "hailstone/hailstonelaw08.DoubleFirst", spec := "doubleFirst", unfollowed := true, recurses := true, plainKeys := false, apart := false }
def DoubleFirstSaid : Prop := doubleFirstRow.holds Tryz.pinned (OpenSpec.ofChange doubleFirstSpec)

/-- ITS FALSE NEIGHBOUR: 'it returns false'. Refute it at one input. -/
def doubleFirstWrong : ChangeSpec := { name := "doubleFirst", fn := fun _ => fun
  | [d] => { results := [.lit (.bool false)], args := [d] }
  | _ => none }
def DoubleFirstWrongFalsely : Prop := doubleFirstRow.holds Tryz.pinned (OpenSpec.ofChange doubleFirstWrong)

/-- 'hailstonelaw08.DoubleLeft': WHATEVER THE INPUT: true; the input reads as it did. -/
def doubleLeftSpec : ChangeSpec := { name := "doubleLeft", fn := fun _ => fun
  | [d1, d2] => { results := [.lit (.bool true)], args := [d1, d2] }
  | _ => none }
def doubleLeftRow : OpenClaim := { program := "ytegkdnfeceomdaagreat", sum := "7ccc85a763a454548f3fcd00a86d9ad781f03a258d2abb5a0108f9148f9c6848", func := "hailstone/hailstonelaw08.DoubleLeft", spec := "doubleLeft", unfollowed := true, recurses := true, plainKeys := false, apart := false }
def DoubleLeftSaid : Prop := doubleLeftRow.holds Tryz.pinned (OpenSpec.ofChange doubleLeftSpec)

/-- ITS FALSE NEIGHBOUR: 'it returns false'. Refute it at one input. -/
def doubleLeftWrong : ChangeSpec := { name := "doubleLeft", fn := fun _ => fun
  | [d1, d2] => { results := [.lit (.bool false)], args := [d1, d2] }
  | _ => none }
def DoubleLeftWrongFalsely : Prop := doubleLeftRow.holds Tryz.pinned (OpenSpec.ofChange doubleLeftWrong)

/-- 'hailstonelaw08.DoubleOne': WHATEVER THE INPUT: true; the input reads as it did. -/
def doubleOneSpec : ChangeSpec := { name := "doubleOne", fn := fun _ => fun
  | [d1, d2, d3] => { results := [.lit (.bool true)], args := [d1, d2, d3] }
  | _ => none }
def doubleOneRow : OpenClaim := { program := "ytegkdnfeceomdaagreat", sum := "7ccc85a763a454548f3fcd00a86d9ad781f03a258d2abb5a0108f9148f9c6848", func := "hailstone/hailstonelaw08.DoubleOne", spec := "doubleOne", unfollowed := true, recurses := true, plainKeys := false, apart := false }
def DoubleOneSaid : Prop := doubleOneRow.holds Tryz.pinned (OpenSpec.ofChange doubleOneSpec)

/-- ITS FALSE NEIGHBOUR: 'it returns false'. Refute it at one input. -/
def doubleOneWrong : ChangeSpec := { name := "doubleOne", fn := fun _ => fun
  | [d1, d2, d3] => { results := [.lit (.bool false)], args := [d1, d2, d3] }
  | _ => none }
def DoubleOneWrongFalsely : Prop := doubleOneRow.holds Tryz.pinned (OpenSpec.ofChange doubleOneWrong)

/-- 'hailstonelaw08.DoubleShows': WHATEVER THE INPUT: true; the input reads as it did. -/
def doubleShowsSpec : ChangeSpec := { name := "doubleShows", fn := fun _ => fun
  | [d1, d2, d3] => { results := [.lit (.bool true)], args := [d1, d2, d3] }
  | _ => none }
def doubleShowsRow : OpenClaim := { program := "ytegkdnfeceomdaagreat", sum := "7ccc85a763a454548f3fcd00a86d9ad781f03a258d2abb5a0108f9148f9c6848", func := "hailstone/hailstonelaw08.DoubleShows", spec := "doubleShows", unfollowed := true, recurses := true, plainKeys := false, apart := false }
def DoubleShowsSaid : Prop := doubleShowsRow.holds Tryz.pinned (OpenSpec.ofChange doubleShowsSpec)

/-- ITS FALSE NEIGHBOUR: 'it returns false'. Refute it at one input. -/
def doubleShowsWrong : ChangeSpec := { name := "doubleShows", fn := fun _ => fun
  | [d1, d2, d3] => { results := [.lit (.bool false)], args := [d1, d2, d3] }
  | _ => none }
def DoubleShowsWrongFalsely : Prop := doubleShowsRow.holds Tryz.pinned (OpenSpec.ofChange doubleShowsWrong)

/-- 'hailstonelaw08.DoubleNames': WHATEVER THE INPUT: true; the input reads as it did. -/
def doubleNamesSpec : ChangeSpec := { name := "doubleNames", fn := fun _ => fun
  | [] => { results := [.lit (.bool true)], args := [] }
  | _ => none }
def doubleNamesRow : OpenClaim := { program := "ytegkdnfeceomdaagreat", sum := "7ccc85a763a454548f3fcd00a86d9ad781f03a258d2abb5a0108f9148f9c6848", func := "hailstone/hailstonelaw08.DoubleNames", spec := "doubleNames", unfollowed := true, recurses := true, plainKeys := false, apart := false }
def DoubleNamesSaid : Prop := doubleNamesRow.holds Tryz.pinned (OpenSpec.ofChange doubleNamesSpec)

/-- ITS FALSE NEIGHBOUR: 'it returns false'. Refute it at one input. -/
def doubleNamesWrong : ChangeSpec := { name := "doubleNames", fn := fun _ => fun
  | [] => { results := [.lit (.bool false)], args := [] }
  | _ => none }
def DoubleNamesWrongFalsely : Prop := doubleNamesRow.holds Tryz.pinned (OpenSpec.ofChange doubleNamesWrong)

/-- 'hailstonelaw08.DoubleNever': WHATEVER THE INPUT: true; the input reads as it did. -/
def doubleNeverSpec : ChangeSpec := { name := "doubleNever", fn := fun _ => fun
  | [d] => { results := [.lit (.bool true)], args := [d] }
  | _ => none }
def doubleNeverRow : OpenClaim := { program := "ytegkdnfeceomdaagreat", sum := "7ccc85a763a454548f3fcd00a86d9ad781f03a258d2abb5a0108f9148f9c6848", func := "hailstone/hailstonelaw08.DoubleNever", spec := "doubleNever", unfollowed := true, recurses := true, plainKeys := false, apart := false }
def DoubleNeverSaid : Prop := doubleNeverRow.holds Tryz.pinned (OpenSpec.ofChange doubleNeverSpec)

/-- ITS FALSE NEIGHBOUR: 'it returns false'. Refute it at one input. -/
def doubleNeverWrong : ChangeSpec := { name := "doubleNever", fn := fun _ => fun
  | [d] => { results := [.lit (.bool false)], args := [d] }
  | _ => none }
def DoubleNeverWrongFalsely : Prop := doubleNeverRow.holds Tryz.pinned (OpenSpec.ofChange doubleNeverWrong)

/- THE SECOND FORM. 'bulk': how many values and letters a reading holds, each counted each time it is reached (what is shared counts as often as it is met; a slice's spare places count too). A statement '..UptoSaid' is the law's where the arguments, and the package variables that the reading takes, are together of bulk at most 1048576: NARROWER than '..Said'. Prove '..Said' where nothing that the law and all that it calls make is longer than what came in: it says more and counts as full. Else prove '..UptoSaid'. A law counts once. -/
mutual
def uptoBulk {H : Type} : DataW H → Nat
  | .lit (.string bytes) => bytes.length + 1
  | .lit _ => 1
  | .nil => 1
  | .ptr d => uptoBulk d + 1
  | .slice elems spare => uptoBulkAll elems + uptoBulkAll spare + 1
  | .agg parts => uptoBulkAll parts + 1
  | .iface _ d => uptoBulk d + 1
  | .map entries => uptoBulkEntries entries + 1
  | .held _ => 1
def uptoBulkAll {H : Type} : List (DataW H) → Nat
  | [] => 0
  | d :: r => uptoBulk d + uptoBulkAll r
def uptoBulkEntries {H : Type} : List (Lit × DataW H) → Nat
  | [] => 0
  | x :: r => uptoBulkEntry x + uptoBulkEntries r
def uptoBulkEntry {H : Type} : Lit × DataW H → Nat
  | (.string bytes, d) => bytes.length + uptoBulk d + 1
  | (_, d) => uptoBulk d + 1
 end
def uptoSmall : (H : Type) → List (DataW H) → Bool := fun _ ds => decide (uptoBulkAll ds ≤ 1048576)
def OpenSpec.upto (s : _root_.Go.ChangeSpec) : _root_.Go.OpenSpec := { _root_.Go.OpenSpec.ofChange s with cond := some uptoSmall }

/-- 'hailstonelaw08.DoubleSettles', WHERE WHAT IT READS IS OF BULK AT MOST 1048576: true; the input reads as it did. -/
def doubleSettlesUptoRow : OpenClaim := { program := "ytegkdnfeceomdaagreat", sum := "7ccc85a763a454548f3fcd00a86d9ad781f03a258d2abb5a0108f9148f9c6848", func := "hailstone/hailstonelaw08.DoubleSettles", spec := "doubleSettles", unfollowed := true, recurses := true, plainKeys := false, apart := false, narrowed := true }
def DoubleSettlesUptoSaid : Prop := doubleSettlesUptoRow.holds Tryz.pinned (OpenSpec.upto doubleSettlesSpec)

/-- 'hailstonelaw08.DoublePlays', WHERE WHAT IT READS IS OF BULK AT MOST 1048576: true; the input reads as it did. -/
def doublePlaysUptoRow : OpenClaim := { program := "ytegkdnfeceomdaagreat", sum := "7ccc85a763a454548f3fcd00a86d9ad781f03a258d2abb5a0108f9148f9c6848", func := "hailstone/hailstonelaw08.DoublePlays", spec := "doublePlays", unfollowed := true, recurses := true, plainKeys := false, apart := false, narrowed := true }
def DoublePlaysUptoSaid : Prop := doublePlaysUptoRow.holds Tryz.pinned (OpenSpec.upto doublePlaysSpec)

/-- 'hailstonelaw08.DoubleBounds', WHERE WHAT IT READS IS OF BULK AT MOST 1048576: true; the input reads as it did. -/
def doubleBoundsUptoRow : OpenClaim := { program := "ytegkdnfeceomdaagreat", sum := "7ccc85a763a454548f3fcd00a86d9ad781f03a258d2abb5a0108f9148f9c6848", func := "hailstone/hailstonelaw08.DoubleBounds", spec := "doubleBounds", unfollowed := true, recurses := true, plainKeys := false, apart := false, narrowed := true }
def DoubleBoundsUptoSaid : Prop := doubleBoundsUptoRow.holds Tryz.pinned (OpenSpec.upto doubleBoundsSpec)

/-- 'hailstonelaw08.DoubleLeaves', WHERE WHAT IT READS IS OF BULK AT MOST 1048576: true; the input reads as it did. -/
def doubleLeavesUptoRow : OpenClaim := { program := "ytegkdnfeceomdaagreat", sum := "7ccc85a763a454548f3fcd00a86d9ad781f03a258d2abb5a0108f9148f9c6848", func := "hailstone/hailstonelaw08.DoubleLeaves", spec := "doubleLeaves", unfollowed := true, recurses := true, plainKeys := false, apart := false, narrowed := true }
def DoubleLeavesUptoSaid : Prop := doubleLeavesUptoRow.holds Tryz.pinned (OpenSpec.upto doubleLeavesSpec)

/-- 'hailstonelaw08.DoubleTruth', WHERE WHAT IT READS IS OF BULK AT MOST 1048576: true; the input reads as it did. -/
def doubleTruthUptoRow : OpenClaim := { program := "ytegkdnfeceomdaagreat", sum := "7ccc85a763a454548f3fcd00a86d9ad781f03a258d2abb5a0108f9148f9c6848", func := "hailstone/hailstonelaw08.DoubleTruth", spec := "doubleTruth", unfollowed := true, recurses := true, plainKeys := false, apart := false, narrowed := true }
def DoubleTruthUptoSaid : Prop := doubleTruthUptoRow.holds Tryz.pinned (OpenSpec.upto doubleTruthSpec)

/-- 'hailstonelaw08.DoubleEnds', WHERE WHAT IT READS IS OF BULK AT MOST 1048576: true; the input reads as it did. -/
def doubleEndsUptoRow : OpenClaim := { program := "ytegkdnfeceomdaagreat", sum := "7ccc85a763a454548f3fcd00a86d9ad781f03a258d2abb5a0108f9148f9c6848", func := "hailstone/hailstonelaw08.DoubleEnds", spec := "doubleEnds", unfollowed := true, recurses := true, plainKeys := false, apart := false, narrowed := true }
def DoubleEndsUptoSaid : Prop := doubleEndsUptoRow.holds Tryz.pinned (OpenSpec.upto doubleEndsSpec)

/-- 'hailstonelaw08.DoubleMore', WHERE WHAT IT READS IS OF BULK AT MOST 1048576: true; the input reads as it did. -/
def doubleMoreUptoRow : OpenClaim := { program := "ytegkdnfeceomdaagreat", sum := "7ccc85a763a454548f3fcd00a86d9ad781f03a258d2abb5a0108f9148f9c6848", func := "hailstone/hailstonelaw08.DoubleMore", spec := "doubleMore", unfollowed := true, recurses := true, plainKeys := false, apart := false, narrowed := true }
def DoubleMoreUptoSaid : Prop := doubleMoreUptoRow.holds Tryz.pinned (OpenSpec.upto doubleMoreSpec)

/-- 'hailstonelaw08.DoubleWider', WHERE WHAT IT READS IS OF BULK AT MOST 1048576: true; the input reads as it did. -/
def doubleWiderUptoRow : OpenClaim := { program := "ytegkdnfeceomdaagreat", sum := "7ccc85a763a454548f3fcd00a86d9ad781f03a258d2abb5a0108f9148f9c6848", func := "hailstone/hailstonelaw08.DoubleWider", spec := "doubleWider", unfollowed := true, recurses := true, plainKeys := false, apart := false, narrowed := true }
def DoubleWiderUptoSaid : Prop := doubleWiderUptoRow.holds Tryz.pinned (OpenSpec.upto doubleWiderSpec)

/-- 'hailstonelaw08.DoubleLoss', WHERE WHAT IT READS IS OF BULK AT MOST 1048576: true; the input reads as it did. -/
def doubleLossUptoRow : OpenClaim := { program := "ytegkdnfeceomdaagreat", sum := "7ccc85a763a454548f3fcd00a86d9ad781f03a258d2abb5a0108f9148f9c6848", func := "hailstone/hailstonelaw08.DoubleLoss", spec := "doubleLoss", unfollowed := true, recurses := true, plainKeys := false, apart := false, narrowed := true }
def DoubleLossUptoSaid : Prop := doubleLossUptoRow.holds Tryz.pinned (OpenSpec.upto doubleLossSpec)

/-- 'hailstonelaw08.DoubleFirst', WHERE WHAT IT READS IS OF BULK AT MOST 1048576: true; the input reads as it did. -/
def doubleFirstUptoRow : OpenClaim := { program := "ytegkdnfeceomdaagreat", sum := "7ccc85a763a454548f3fcd00a86d9ad781f03a258d2abb5a0108f9148f9c6848", func := "hailstone/hailstonelaw08.DoubleFirst", spec := "doubleFirst", unfollowed := true, recurses := true, plainKeys := false, apart := false, narrowed := true }
def DoubleFirstUptoSaid : Prop := doubleFirstUptoRow.holds Tryz.pinned (OpenSpec.upto doubleFirstSpec)

/-- 'hailstonelaw08.DoubleLeft', WHERE WHAT IT READS IS OF BULK AT MOST 1048576: true; the input reads as it did. -/
def doubleLeftUptoRow : OpenClaim := { program := "ytegkdnfeceomdaagreat", sum := "7ccc85a763a454548f3fcd00a86d9ad781f03a258d2abb5a0108f9148f9c6848", func := "hailstone/hailstonelaw08.DoubleLeft", spec := "doubleLeft", unfollowed := true, recurses := true, plainKeys := false, apart := false, narrowed := true }
def DoubleLeftUptoSaid : Prop := doubleLeftUptoRow.holds Tryz.pinned (OpenSpec.upto doubleLeftSpec)

/-- 'hailstonelaw08.DoubleOne', WHERE WHAT IT READS IS OF BULK AT MOST 1048576: true; the input reads as it did. -/
def doubleOneUptoRow : OpenClaim := { program := "ytegkdnfeceomdaagreat", sum := "7ccc85a763a454548f3fcd00a86d9ad781f03a258d2abb5a0108f9148f9c6848", func := "hailstone/hailstonelaw08.DoubleOne", spec := "doubleOne", unfollowed := true, recurses := true, plainKeys := false, apart := false, narrowed := true }
def DoubleOneUptoSaid : Prop := doubleOneUptoRow.holds Tryz.pinned (OpenSpec.upto doubleOneSpec)

/-- 'hailstonelaw08.DoubleShows', WHERE WHAT IT READS IS OF BULK AT MOST 1048576: true; the input reads as it did. -/
def doubleShowsUptoRow : OpenClaim := { program := "ytegkdnfeceomdaagreat", sum := "7ccc85a763a454548f3fcd00a86d9ad781f03a258d2abb5a0108f9148f9c6848", func := "hailstone/hailstonelaw08.DoubleShows", spec := "doubleShows", unfollowed := true, recurses := true, plainKeys := false, apart := false, narrowed := true }
def DoubleShowsUptoSaid : Prop := doubleShowsUptoRow.holds Tryz.pinned (OpenSpec.upto doubleShowsSpec)

/-- 'hailstonelaw08.DoubleNames', WHERE WHAT IT READS IS OF BULK AT MOST 1048576: true; the input reads as it did. -/
def doubleNamesUptoRow : OpenClaim := { program := "ytegkdnfeceomdaagreat", sum := "7ccc85a763a454548f3fcd00a86d9ad781f03a258d2abb5a0108f9148f9c6848", func := "hailstone/hailstonelaw08.DoubleNames", spec := "doubleNames", unfollowed := true, recurses := true, plainKeys := false, apart := false, narrowed := true }
def DoubleNamesUptoSaid : Prop := doubleNamesUptoRow.holds Tryz.pinned (OpenSpec.upto doubleNamesSpec)

/-- 'hailstonelaw08.DoubleNever', WHERE WHAT IT READS IS OF BULK AT MOST 1048576: true; the input reads as it did. -/
def doubleNeverUptoRow : OpenClaim := { program := "ytegkdnfeceomdaagreat", sum := "7ccc85a763a454548f3fcd00a86d9ad781f03a258d2abb5a0108f9148f9c6848", func := "hailstone/hailstonelaw08.DoubleNever", spec := "doubleNever", unfollowed := true, recurses := true, plainKeys := false, apart := false, narrowed := true }
def DoubleNeverUptoSaid : Prop := doubleNeverUptoRow.holds Tryz.pinned (OpenSpec.upto doubleNeverSpec)

end Rows
end Go.Proofs.YtegkdnfeceomdaaGreat
