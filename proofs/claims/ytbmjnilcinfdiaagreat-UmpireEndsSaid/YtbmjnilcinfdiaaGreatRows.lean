/-
  No cell of these rows narrows 'for every input' (looked for: loops, veiled, ifaces, maps, wideKeys, modest, calm, conditions, laid).
  DERIVED. THE GIVEN ROWS OF THIS SEAT. 12 by the template 'for every input the law returns true; each argument reads behind the call as it read before'; 0 by the template 'total and deterministic' (their statements: YtbmjnilcinfdiaaGreatTotals.lean).
  GIVEN WITH THE SEED: the statements are not yours to turn. If you find one false, say at which input.
  Laid BY PROGRAM, IN A SANDBOX (cutbox-rows.mjs): the forced cells as the released guide's own fill.sh prints them over the translation b80726d63aefe0d1… (all of the seat's roots in one cut). By AI agents, Wed Nov 11 2026. No macro, syntax, notation, axiom, sorry.
-/
import Derived.Test.YtbmjnilcinfdiaaGreatChecked
import GoSem.Claim
import GoSem.ClaimJoined
import GoSem.ClaimMapViews
import Derived.JoinedTies
import Derived.KernelRfl
namespace Go.Proofs.YtbmjnilcinfdiaaGreat
/- THE CELL 'sum', in the pinned program and in every row, IS THE sha256 OF THE DUMP (.gsa) THAT YtbmjnilcinfdiaaGreatProg.lean LOADS. Nothing in Lean hashes anything: it is a label: what it is worth is what the hold of that sum in a sandbox is worth. -/
noncomputable def Tryz.pinned : Pinned := { name := "ytbmjnilcinfdiaagreat", sum := "b80726d63aefe0d1d9a29ea42ff9b9fa5307e75cb19ee3cef46a124a3d312f24", checked := Tryz.checked }
namespace Rows
def none {H : Type} : Left H := { results := [], args := [] }

/-- 'hailstonelaw07.UmpireCounts': WHATEVER THE INPUT: true; the input reads as it did. -/
def umpireCountsSpec : ChangeSpec := { name := "umpireCounts", fn := fun _ => fun
  | [d1, d2] => { results := [.lit (.bool true)], args := [d1, d2] }
  | _ => none }
def umpireCountsRow : OpenClaim := { program := "ytbmjnilcinfdiaagreat", sum := "b80726d63aefe0d1d9a29ea42ff9b9fa5307e75cb19ee3cef46a124a3d312f24", func := "hailstone/hailstonelaw07.UmpireCounts", spec := "umpireCounts", unfollowed := true, recurses := true, plainKeys := false, apart := false }
def UmpireCountsSaid : Prop := umpireCountsRow.holds Tryz.pinned (OpenSpec.ofChange umpireCountsSpec)

/-- ITS FALSE NEIGHBOUR: 'it returns false'. Refute it at one input. -/
def umpireCountsWrong : ChangeSpec := { name := "umpireCounts", fn := fun _ => fun
  | [d1, d2] => { results := [.lit (.bool false)], args := [d1, d2] }
  | _ => none }
def UmpireCountsWrongFalsely : Prop := umpireCountsRow.holds Tryz.pinned (OpenSpec.ofChange umpireCountsWrong)

/-- 'hailstonelaw07.UmpireAwards': WHATEVER THE INPUT: true; the input reads as it did. -/
def umpireAwardsSpec : ChangeSpec := { name := "umpireAwards", fn := fun _ => fun
  | [d] => { results := [.lit (.bool true)], args := [d] }
  | _ => none }
def umpireAwardsRow : OpenClaim := { program := "ytbmjnilcinfdiaagreat", sum := "b80726d63aefe0d1d9a29ea42ff9b9fa5307e75cb19ee3cef46a124a3d312f24", func := "hailstone/hailstonelaw07.UmpireAwards", spec := "umpireAwards", unfollowed := true, recurses := true, plainKeys := false, apart := false }
def UmpireAwardsSaid : Prop := umpireAwardsRow.holds Tryz.pinned (OpenSpec.ofChange umpireAwardsSpec)

/-- ITS FALSE NEIGHBOUR: 'it returns false'. Refute it at one input. -/
def umpireAwardsWrong : ChangeSpec := { name := "umpireAwards", fn := fun _ => fun
  | [d] => { results := [.lit (.bool false)], args := [d] }
  | _ => none }
def UmpireAwardsWrongFalsely : Prop := umpireAwardsRow.holds Tryz.pinned (OpenSpec.ofChange umpireAwardsWrong)

/-- 'hailstonelaw07.UmpireEnds': WHATEVER THE INPUT: true; the input reads as it did. -/
def umpireEndsSpec : ChangeSpec := { name := "umpireEnds", fn := fun _ => fun
  | [d] => { results := [.lit (.bool true)], args := [d] }
  | _ => none }
def umpireEndsRow : OpenClaim := { program := "ytbmjnilcinfdiaagreat", sum := "b80726d63aefe0d1d9a29ea42ff9b9fa5307e75cb19ee3cef46a124a3d312f24", func := "hailstone/hailstonelaw07.UmpireEnds", spec := "umpireEnds", unfollowed := true, recurses := true, plainKeys := false, apart := false }
def UmpireEndsSaid : Prop := umpireEndsRow.holds Tryz.pinned (OpenSpec.ofChange umpireEndsSpec)

/-- ITS FALSE NEIGHBOUR: 'it returns false'. Refute it at one input. -/
def umpireEndsWrong : ChangeSpec := { name := "umpireEnds", fn := fun _ => fun
  | [d] => { results := [.lit (.bool false)], args := [d] }
  | _ => none }
def UmpireEndsWrongFalsely : Prop := umpireEndsRow.holds Tryz.pinned (OpenSpec.ofChange umpireEndsWrong)

/-- 'hailstonelaw07.UmpirePays': WHATEVER THE INPUT: true; the input reads as it did. -/
def umpirePaysSpec : ChangeSpec := { name := "umpirePays", fn := fun _ => fun
  | [d1, d2] => { results := [.lit (.bool true)], args := [d1, d2] }
  | _ => none }
def umpirePaysRow : OpenClaim := { program := "ytbmjnilcinfdiaagreat", sum := "b80726d63aefe0d1d9a29ea42ff9b9fa5307e75cb19ee3cef46a124a3d312f24", func := "hailstone/hailstonelaw07.UmpirePays", spec := "umpirePays", unfollowed := true, recurses := true, plainKeys := false, apart := false }
def UmpirePaysSaid : Prop := umpirePaysRow.holds Tryz.pinned (OpenSpec.ofChange umpirePaysSpec)

/-- ITS FALSE NEIGHBOUR: 'it returns false'. Refute it at one input. -/
def umpirePaysWrong : ChangeSpec := { name := "umpirePays", fn := fun _ => fun
  | [d1, d2] => { results := [.lit (.bool false)], args := [d1, d2] }
  | _ => none }
def UmpirePaysWrongFalsely : Prop := umpirePaysRow.holds Tryz.pinned (OpenSpec.ofChange umpirePaysWrong)

/-- 'hailstonelaw07.UmpireNear': WHATEVER THE INPUT: true; the input reads as it did. -/
def umpireNearSpec : ChangeSpec := { name := "umpireNear", fn := fun _ => fun
  | [d1, d2, d3] => { results := [.lit (.bool true)], args := [d1, d2, d3] }
  | _ => none }
def umpireNearRow : OpenClaim := { program := "ytbmjnilcinfdiaagreat", sum := "b80726d63aefe0d1d9a29ea42ff9b9fa5307e75cb19ee3cef46a124a3d312f24", func := "hailstone/hailstonelaw07.UmpireNear", spec := "umpireNear", unfollowed := true, recurses := true, plainKeys := false, apart := false }
def UmpireNearSaid : Prop := umpireNearRow.holds Tryz.pinned (OpenSpec.ofChange umpireNearSpec)

/-- ITS FALSE NEIGHBOUR: 'it returns false'. Refute it at one input. -/
def umpireNearWrong : ChangeSpec := { name := "umpireNear", fn := fun _ => fun
  | [d1, d2, d3] => { results := [.lit (.bool false)], args := [d1, d2, d3] }
  | _ => none }
def UmpireNearWrongFalsely : Prop := umpireNearRow.holds Tryz.pinned (OpenSpec.ofChange umpireNearWrong)

/-- 'hailstonelaw07.UmpireTurned': WHATEVER THE INPUT: true; the input reads as it did. -/
def umpireTurnedSpec : ChangeSpec := { name := "umpireTurned", fn := fun _ => fun
  | [d1, d2] => { results := [.lit (.bool true)], args := [d1, d2] }
  | _ => none }
def umpireTurnedRow : OpenClaim := { program := "ytbmjnilcinfdiaagreat", sum := "b80726d63aefe0d1d9a29ea42ff9b9fa5307e75cb19ee3cef46a124a3d312f24", func := "hailstone/hailstonelaw07.UmpireTurned", spec := "umpireTurned", unfollowed := true, recurses := true, plainKeys := false, apart := false }
def UmpireTurnedSaid : Prop := umpireTurnedRow.holds Tryz.pinned (OpenSpec.ofChange umpireTurnedSpec)

/-- ITS FALSE NEIGHBOUR: 'it returns false'. Refute it at one input. -/
def umpireTurnedWrong : ChangeSpec := { name := "umpireTurned", fn := fun _ => fun
  | [d1, d2] => { results := [.lit (.bool false)], args := [d1, d2] }
  | _ => none }
def UmpireTurnedWrongFalsely : Prop := umpireTurnedRow.holds Tryz.pinned (OpenSpec.ofChange umpireTurnedWrong)

/-- 'hailstonelaw07.UmpireAlone': WHATEVER THE INPUT: true; the input reads as it did. -/
def umpireAloneSpec : ChangeSpec := { name := "umpireAlone", fn := fun _ => fun
  | [d1, d2] => { results := [.lit (.bool true)], args := [d1, d2] }
  | _ => none }
def umpireAloneRow : OpenClaim := { program := "ytbmjnilcinfdiaagreat", sum := "b80726d63aefe0d1d9a29ea42ff9b9fa5307e75cb19ee3cef46a124a3d312f24", func := "hailstone/hailstonelaw07.UmpireAlone", spec := "umpireAlone", unfollowed := true, recurses := true, plainKeys := false, apart := false }
def UmpireAloneSaid : Prop := umpireAloneRow.holds Tryz.pinned (OpenSpec.ofChange umpireAloneSpec)

/-- ITS FALSE NEIGHBOUR: 'it returns false'. Refute it at one input. -/
def umpireAloneWrong : ChangeSpec := { name := "umpireAlone", fn := fun _ => fun
  | [d1, d2] => { results := [.lit (.bool false)], args := [d1, d2] }
  | _ => none }
def UmpireAloneWrongFalsely : Prop := umpireAloneRow.holds Tryz.pinned (OpenSpec.ofChange umpireAloneWrong)

/-- 'hailstonelaw07.UmpireIdle': WHATEVER THE INPUT: true; the input reads as it did. -/
def umpireIdleSpec : ChangeSpec := { name := "umpireIdle", fn := fun _ => fun
  | [d1, d2, d3] => { results := [.lit (.bool true)], args := [d1, d2, d3] }
  | _ => none }
def umpireIdleRow : OpenClaim := { program := "ytbmjnilcinfdiaagreat", sum := "b80726d63aefe0d1d9a29ea42ff9b9fa5307e75cb19ee3cef46a124a3d312f24", func := "hailstone/hailstonelaw07.UmpireIdle", spec := "umpireIdle", unfollowed := true, recurses := true, plainKeys := false, apart := false }
def UmpireIdleSaid : Prop := umpireIdleRow.holds Tryz.pinned (OpenSpec.ofChange umpireIdleSpec)

/-- ITS FALSE NEIGHBOUR: 'it returns false'. Refute it at one input. -/
def umpireIdleWrong : ChangeSpec := { name := "umpireIdle", fn := fun _ => fun
  | [d1, d2, d3] => { results := [.lit (.bool false)], args := [d1, d2, d3] }
  | _ => none }
def UmpireIdleWrongFalsely : Prop := umpireIdleRow.holds Tryz.pinned (OpenSpec.ofChange umpireIdleWrong)

/-- 'hailstonelaw07.UmpireWider': WHATEVER THE INPUT: true; the input reads as it did. -/
def umpireWiderSpec : ChangeSpec := { name := "umpireWider", fn := fun _ => fun
  | [d1, d2, d3] => { results := [.lit (.bool true)], args := [d1, d2, d3] }
  | _ => none }
def umpireWiderRow : OpenClaim := { program := "ytbmjnilcinfdiaagreat", sum := "b80726d63aefe0d1d9a29ea42ff9b9fa5307e75cb19ee3cef46a124a3d312f24", func := "hailstone/hailstonelaw07.UmpireWider", spec := "umpireWider", unfollowed := true, recurses := true, plainKeys := false, apart := false }
def UmpireWiderSaid : Prop := umpireWiderRow.holds Tryz.pinned (OpenSpec.ofChange umpireWiderSpec)

/-- ITS FALSE NEIGHBOUR: 'it returns false'. Refute it at one input. -/
def umpireWiderWrong : ChangeSpec := { name := "umpireWider", fn := fun _ => fun
  | [d1, d2, d3] => { results := [.lit (.bool false)], args := [d1, d2, d3] }
  | _ => none }
def UmpireWiderWrongFalsely : Prop := umpireWiderRow.holds Tryz.pinned (OpenSpec.ofChange umpireWiderWrong)

/-- 'hailstonelaw07.UmpireOffers': WHATEVER THE INPUT: true; the input reads as it did. -/
def umpireOffersSpec : ChangeSpec := { name := "umpireOffers", fn := fun _ => fun
  | [d1, d2] => { results := [.lit (.bool true)], args := [d1, d2] }
  | _ => none }
def umpireOffersRow : OpenClaim := { program := "ytbmjnilcinfdiaagreat", sum := "b80726d63aefe0d1d9a29ea42ff9b9fa5307e75cb19ee3cef46a124a3d312f24", func := "hailstone/hailstonelaw07.UmpireOffers", spec := "umpireOffers", unfollowed := true, recurses := true, plainKeys := false, apart := false }
def UmpireOffersSaid : Prop := umpireOffersRow.holds Tryz.pinned (OpenSpec.ofChange umpireOffersSpec)

/-- ITS FALSE NEIGHBOUR: 'it returns false'. Refute it at one input. -/
def umpireOffersWrong : ChangeSpec := { name := "umpireOffers", fn := fun _ => fun
  | [d1, d2] => { results := [.lit (.bool false)], args := [d1, d2] }
  | _ => none }
def UmpireOffersWrongFalsely : Prop := umpireOffersRow.holds Tryz.pinned (OpenSpec.ofChange umpireOffersWrong)

/-- 'hailstonelaw07.UmpirePlays': WHATEVER THE INPUT: true; the input reads as it did. -/
def umpirePlaysSpec : ChangeSpec := { name := "umpirePlays", fn := fun _ => fun
  | [d1, d2, d3] => { results := [.lit (.bool true)], args := [d1, d2, d3] }
  | _ => none }
def umpirePlaysRow : OpenClaim := { program := "ytbmjnilcinfdiaagreat", sum := "b80726d63aefe0d1d9a29ea42ff9b9fa5307e75cb19ee3cef46a124a3d312f24", func := "hailstone/hailstonelaw07.UmpirePlays", spec := "umpirePlays", unfollowed := true, recurses := true, plainKeys := false, apart := false }
def UmpirePlaysSaid : Prop := umpirePlaysRow.holds Tryz.pinned (OpenSpec.ofChange umpirePlaysSpec)

/-- ITS FALSE NEIGHBOUR: 'it returns false'. Refute it at one input. -/
def umpirePlaysWrong : ChangeSpec := { name := "umpirePlays", fn := fun _ => fun
  | [d1, d2, d3] => { results := [.lit (.bool false)], args := [d1, d2, d3] }
  | _ => none }
def UmpirePlaysWrongFalsely : Prop := umpirePlaysRow.holds Tryz.pinned (OpenSpec.ofChange umpirePlaysWrong)

/-- 'hailstonelaw07.UmpireTruth': WHATEVER THE INPUT: true; the input reads as it did. -/
def umpireTruthSpec : ChangeSpec := { name := "umpireTruth", fn := fun _ => fun
  | [d1, d2] => { results := [.lit (.bool true)], args := [d1, d2] }
  | _ => none }
def umpireTruthRow : OpenClaim := { program := "ytbmjnilcinfdiaagreat", sum := "b80726d63aefe0d1d9a29ea42ff9b9fa5307e75cb19ee3cef46a124a3d312f24", func := "hailstone/hailstonelaw07.UmpireTruth", spec := "umpireTruth", unfollowed := true, recurses := true, plainKeys := false, apart := false }
def UmpireTruthSaid : Prop := umpireTruthRow.holds Tryz.pinned (OpenSpec.ofChange umpireTruthSpec)

/-- ITS FALSE NEIGHBOUR: 'it returns false'. Refute it at one input. -/
def umpireTruthWrong : ChangeSpec := { name := "umpireTruth", fn := fun _ => fun
  | [d1, d2] => { results := [.lit (.bool false)], args := [d1, d2] }
  | _ => none }
def UmpireTruthWrongFalsely : Prop := umpireTruthRow.holds Tryz.pinned (OpenSpec.ofChange umpireTruthWrong)

/- THE SECOND FORM. 'bulk': how many values and letters a reading holds, each counted each time it is reached (what is shared counts as often as it is met; a slice's spare places count too). A statement '..UptoSaid' is the law's where the arguments, and the package variables that the reading takes, are together of bulk at most 1048576: NARROWER than '..Said'. Prove '..Said' where nothing that the law and all that it calls make is longer than what came in: it says more and counts as full. Else prove '..UptoSaid'. A law counts once. -/
mutual
def uptoBulk {H : Type} : DataW H → Nat
  | .lit (.string bytes) => bytes.length + 1
  | .lit _ => 1
  | .nil => 1
  | .ptr d => uptoBulk d + 1
  | .slice elems spare => uptoBulkAll elems + uptoBulkAll spare + 1
  | .agg parts => uptoBulkAll parts + 1
  | .iface _ d => uptoBulk d + 1
  | .map entries => uptoBulkEntries entries + 1
  | .held _ => 1
def uptoBulkAll {H : Type} : List (DataW H) → Nat
  | [] => 0
  | d :: r => uptoBulk d + uptoBulkAll r
def uptoBulkEntries {H : Type} : List (Lit × DataW H) → Nat
  | [] => 0
  | x :: r => uptoBulkEntry x + uptoBulkEntries r
def uptoBulkEntry {H : Type} : Lit × DataW H → Nat
  | (.string bytes, d) => bytes.length + uptoBulk d + 1
  | (_, d) => uptoBulk d + 1
 end
def uptoSmall : (H : Type) → List (DataW H) → Bool := fun _ ds => decide (uptoBulkAll ds ≤ 1048576)
def OpenSpec.upto (s : _root_.Go.ChangeSpec) : _root_.Go.OpenSpec := { _root_.Go.OpenSpec.ofChange s with cond := some uptoSmall }

/-- 'hailstonelaw07.UmpireCounts', WHERE WHAT IT READS IS OF BULK AT MOST 1048576: true; the input reads as it did. -/
def umpireCountsUptoRow : OpenClaim := { program := "ytbmjnilcinfdiaagreat", sum := "b80726d63aefe0d1d9a29ea42ff9b9fa5307e75cb19ee3cef46a124a3d312f24", func := "hailstone/hailstonelaw07.UmpireCounts", spec := "umpireCounts", unfollowed := true, recurses := true, plainKeys := false, apart := false, narrowed := true }
def UmpireCountsUptoSaid : Prop := umpireCountsUptoRow.holds Tryz.pinned (OpenSpec.upto umpireCountsSpec)

/-- 'hailstonelaw07.UmpireAwards', WHERE WHAT IT READS IS OF BULK AT MOST 1048576: true; the input reads as it did. -/
def umpireAwardsUptoRow : OpenClaim := { program := "ytbmjnilcinfdiaagreat", sum := "b80726d63aefe0d1d9a29ea42ff9b9fa5307e75cb19ee3cef46a124a3d312f24", func := "hailstone/hailstonelaw07.UmpireAwards", spec := "umpireAwards", unfollowed := true, recurses := true, plainKeys := false, apart := false, narrowed := true }
def UmpireAwardsUptoSaid : Prop := umpireAwardsUptoRow.holds Tryz.pinned (OpenSpec.upto umpireAwardsSpec)

/-- 'hailstonelaw07.UmpireEnds', WHERE WHAT IT READS IS OF BULK AT MOST 1048576: true; the input reads as it did. -/
def umpireEndsUptoRow : OpenClaim := { program := "ytbmjnilcinfdiaagreat", sum := "b80726d63aefe0d1d9a29ea42ff9b9fa5307e75cb19ee3cef46a124a3d312f24", func := "hailstone/hailstonelaw07.UmpireEnds", spec := "umpireEnds", unfollowed := true, recurses := true, plainKeys := false, apart := false, narrowed := true }
def UmpireEndsUptoSaid : Prop := umpireEndsUptoRow.holds Tryz.pinned (OpenSpec.upto umpireEndsSpec)

/-- 'hailstonelaw07.UmpirePays', WHERE WHAT IT READS IS OF BULK AT MOST 1048576: true; the input reads as it did. -/
def umpirePaysUptoRow : OpenClaim := { program := "ytbmjnilcinfdiaagreat", sum := "b80726d63aefe0d1d9a29ea42ff9b9fa5307e75cb19ee3cef46a124a3d312f24", func := "hailstone/hailstonelaw07.UmpirePays", spec := "umpirePays", unfollowed := true, recurses := true, plainKeys := false, apart := false, narrowed := true }
def UmpirePaysUptoSaid : Prop := umpirePaysUptoRow.holds Tryz.pinned (OpenSpec.upto umpirePaysSpec)

/-- 'hailstonelaw07.UmpireNear', WHERE WHAT IT READS IS OF BULK AT MOST 1048576: true; the input reads as it did. -/
def umpireNearUptoRow : OpenClaim := { program := "ytbmjnilcinfdiaagreat", sum := "b80726d63aefe0d1d9a29ea42ff9b9fa5307e75cb19ee3cef46a124a3d312f24", func := "hailstone/hailstonelaw07.UmpireNear", spec := "umpireNear", unfollowed := true, recurses := true, plainKeys := false, apart := false, narrowed := true }
def UmpireNearUptoSaid : Prop := umpireNearUptoRow.holds Tryz.pinned (OpenSpec.upto umpireNearSpec)

/-- 'hailstonelaw07.UmpireTurned', WHERE WHAT IT READS IS OF BULK AT MOST 1048576: true; the input reads as it did. -/
def umpireTurnedUptoRow : OpenClaim := { program := "ytbmjnilcinfdiaagreat", sum := "b80726d63aefe0d1d9a29ea42ff9b9fa5307e75cb19ee3cef46a124a3d312f24", func := "hailstone/hailstonelaw07.UmpireTurned", spec := "umpireTurned", unfollowed := true, recurses := true, plainKeys := false, apart := false, narrowed := true }
def UmpireTurnedUptoSaid : Prop := umpireTurnedUptoRow.holds Tryz.pinned (OpenSpec.upto umpireTurnedSpec)

/-- 'hailstonelaw07.UmpireAlone', WHERE WHAT IT READS IS OF BULK AT MOST 1048576: true; the input reads as it did. -/
def umpireAloneUptoRow : OpenClaim := { program := "ytbmjnilcinfdiaagreat", sum := "b80726d63aefe0d1d9a29ea42ff9b9fa5307e75cb19ee3cef46a124a3d312f24", func := "hailstone/hailstonelaw07.UmpireAlone", spec := "umpireAlone", unfollowed := true, recurses := true, plainKeys := false, apart := false, narrowed := true }
def UmpireAloneUptoSaid : Prop := umpireAloneUptoRow.holds Tryz.pinned (OpenSpec.upto umpireAloneSpec)

/-- 'hailstonelaw07.UmpireIdle', WHERE WHAT IT READS IS OF BULK AT MOST 1048576: true; the input reads as it did. -/
def umpireIdleUptoRow : OpenClaim := { program := "ytbmjnilcinfdiaagreat", sum := "b80726d63aefe0d1d9a29ea42ff9b9fa5307e75cb19ee3cef46a124a3d312f24", func := "hailstone/hailstonelaw07.UmpireIdle", spec := "umpireIdle", unfollowed := true, recurses := true, plainKeys := false, apart := false, narrowed := true }
def UmpireIdleUptoSaid : Prop := umpireIdleUptoRow.holds Tryz.pinned (OpenSpec.upto umpireIdleSpec)

/-- 'hailstonelaw07.UmpireWider', WHERE WHAT IT READS IS OF BULK AT MOST 1048576: true; the input reads as it did. -/
def umpireWiderUptoRow : OpenClaim := { program := "ytbmjnilcinfdiaagreat", sum := "b80726d63aefe0d1d9a29ea42ff9b9fa5307e75cb19ee3cef46a124a3d312f24", func := "hailstone/hailstonelaw07.UmpireWider", spec := "umpireWider", unfollowed := true, recurses := true, plainKeys := false, apart := false, narrowed := true }
def UmpireWiderUptoSaid : Prop := umpireWiderUptoRow.holds Tryz.pinned (OpenSpec.upto umpireWiderSpec)

/-- 'hailstonelaw07.UmpireOffers', WHERE WHAT IT READS IS OF BULK AT MOST 1048576: true; the input reads as it did. -/
def umpireOffersUptoRow : OpenClaim := { program := "ytbmjnilcinfdiaagreat", sum := "b80726d63aefe0d1d9a29ea42ff9b9fa5307e75cb19ee3cef46a124a3d312f24", func := "hailstone/hailstonelaw07.UmpireOffers", spec := "umpireOffers", unfollowed := true, recurses := true, plainKeys := false, apart := false, narrowed := true }
def UmpireOffersUptoSaid : Prop := umpireOffersUptoRow.holds Tryz.pinned (OpenSpec.upto umpireOffersSpec)

/-- 'hailstonelaw07.UmpirePlays', WHERE WHAT IT READS IS OF BULK AT MOST 1048576: true; the input reads as it did. -/
def umpirePlaysUptoRow : OpenClaim := { program := "ytbmjnilcinfdiaagreat", sum := "b80726d63aefe0d1d9a29ea42ff9b9fa5307e75cb19ee3cef46a124a3d312f24", func := "hailstone/hailstonelaw07.UmpirePlays", spec := "umpirePlays", unfollowed := true, recurses := true, plainKeys := false, apart := false, narrowed := true }
def UmpirePlaysUptoSaid : Prop := umpirePlaysUptoRow.holds Tryz.pinned (OpenSpec.upto umpirePlaysSpec)

/-- 'hailstonelaw07.UmpireTruth', WHERE WHAT IT READS IS OF BULK AT MOST 1048576: true; the input reads as it did. -/
def umpireTruthUptoRow : OpenClaim := { program := "ytbmjnilcinfdiaagreat", sum := "b80726d63aefe0d1d9a29ea42ff9b9fa5307e75cb19ee3cef46a124a3d312f24", func := "hailstone/hailstonelaw07.UmpireTruth", spec := "umpireTruth", unfollowed := true, recurses := true, plainKeys := false, apart := false, narrowed := true }
def UmpireTruthUptoSaid : Prop := umpireTruthUptoRow.holds Tryz.pinned (OpenSpec.upto umpireTruthSpec)

end Rows
end Go.Proofs.YtbmjnilcinfdiaaGreat
