/-
  No cell of these rows narrows 'for every input' (looked for: loops, veiled, ifaces, maps, wideKeys, modest, calm, conditions, laid).
  DERIVED. THE GIVEN ROWS OF THIS SEAT. 8 by the template 'for every input the law returns true; each argument reads behind the call as it read before'; 0 by the template 'total and deterministic' (their statements: YtofjblebffflhaaTotals.lean).
  GIVEN WITH THE SEED: the statements are not yours to turn. If you find one false, say at which input.
  Laid BY PROGRAM, IN A SANDBOX (cutbox-rows.mjs): the forced cells as the released guide's own fill.sh prints them over the translation 14add0f55c12c66f… (all of the seat's roots in one cut). By AI agents, Wed Nov 11 2026. No macro, syntax, notation, axiom, sorry.
-/
import Derived.Test.YtofjblebffflhaaChecked
import GoSem.Claim
import GoSem.ClaimJoined
import GoSem.ClaimMapViews
import Derived.JoinedTies
import Derived.KernelRfl
namespace Go.Proofs.Ytofjblebffflhaa
/- THE CELL 'sum', in the pinned program and in every row, IS THE sha256 OF THE DUMP (.gsa) THAT YtofjblebffflhaaProg.lean LOADS. Nothing in Lean hashes anything: it is a label: what it is worth is what the hold of that sum in a sandbox is worth. -/
noncomputable def Try.pinned : Pinned := { name := "ytofjblebffflhaa", sum := "14add0f55c12c66f20076621f575f8767158e48c3c37a347be8e6593774889f5", checked := Try.checked }
namespace Rows
def none {H : Type} : Left H := { results := [], args := [] }

/-- 'laws.FnExactTopDistance': WHATEVER THE INPUT: true; the input reads as it did. -/
def fnExactTopDistanceSpec : ChangeSpec := { name := "fnExactTopDistance", fn := fun _ => fun
  | [d1, d2, d3, d4] => { results := [.lit (.bool true)], args := [d1, d2, d3, d4] }
  | _ => none }
def fnExactTopDistanceRow : OpenClaim := { program := "ytofjblebffflhaa", sum := "14add0f55c12c66f20076621f575f8767158e48c3c37a347be8e6593774889f5", func := "loop.example/g01166/laws.FnExactTopDistance", spec := "fnExactTopDistance", unfollowed := true, recurses := true, apart := false }
def FnExactTopDistanceSaid : Prop := fnExactTopDistanceRow.holds Try.pinned (OpenSpec.ofChange fnExactTopDistanceSpec)

/-- ITS FALSE NEIGHBOUR: 'it returns false'. Refute it at one input. -/
def fnExactTopDistanceWrong : ChangeSpec := { name := "fnExactTopDistance", fn := fun _ => fun
  | [d1, d2, d3, d4] => { results := [.lit (.bool false)], args := [d1, d2, d3, d4] }
  | _ => none }
def FnExactTopDistanceWrongFalsely : Prop := fnExactTopDistanceRow.holds Try.pinned (OpenSpec.ofChange fnExactTopDistanceWrong)

/-- 'laws.FnExactLeastReach': WHATEVER THE INPUT: true; the input reads as it did. -/
def fnExactLeastReachSpec : ChangeSpec := { name := "fnExactLeastReach", fn := fun _ => fun
  | [d1, d2, d3] => { results := [.lit (.bool true)], args := [d1, d2, d3] }
  | _ => none }
def fnExactLeastReachRow : OpenClaim := { program := "ytofjblebffflhaa", sum := "14add0f55c12c66f20076621f575f8767158e48c3c37a347be8e6593774889f5", func := "loop.example/g01166/laws.FnExactLeastReach", spec := "fnExactLeastReach", unfollowed := true, recurses := true, apart := false }
def FnExactLeastReachSaid : Prop := fnExactLeastReachRow.holds Try.pinned (OpenSpec.ofChange fnExactLeastReachSpec)

/-- ITS FALSE NEIGHBOUR: 'it returns false'. Refute it at one input. -/
def fnExactLeastReachWrong : ChangeSpec := { name := "fnExactLeastReach", fn := fun _ => fun
  | [d1, d2, d3] => { results := [.lit (.bool false)], args := [d1, d2, d3] }
  | _ => none }
def FnExactLeastReachWrongFalsely : Prop := fnExactLeastReachRow.holds Try.pinned (OpenSpec.ofChange fnExactLeastReachWrong)

/-- 'laws.FnExactCountRegions': WHATEVER THE INPUT: true; the input reads as it did. -/
def fnExactCountRegionsSpec : ChangeSpec := { name := "fnExactCountRegions", fn := fun _ => fun
  | [d1, d2] => { results := [.lit (.bool true)], args := [d1, d2] }
  | _ => none }
def fnExactCountRegionsRow : OpenClaim := { program := "ytofjblebffflhaa", sum := "14add0f55c12c66f20076621f575f8767158e48c3c37a347be8e6593774889f5", func := "loop.example/g01166/laws.FnExactCountRegions", spec := "fnExactCountRegions", unfollowed := true, recurses := true, apart := false }
def FnExactCountRegionsSaid : Prop := fnExactCountRegionsRow.holds Try.pinned (OpenSpec.ofChange fnExactCountRegionsSpec)

/-- ITS FALSE NEIGHBOUR: 'it returns false'. Refute it at one input. -/
def fnExactCountRegionsWrong : ChangeSpec := { name := "fnExactCountRegions", fn := fun _ => fun
  | [d1, d2] => { results := [.lit (.bool false)], args := [d1, d2] }
  | _ => none }
def FnExactCountRegionsWrongFalsely : Prop := fnExactCountRegionsRow.holds Try.pinned (OpenSpec.ofChange fnExactCountRegionsWrong)

/-- 'laws.FnExactLeastClimb': WHATEVER THE INPUT: true; the input reads as it did. -/
def fnExactLeastClimbSpec : ChangeSpec := { name := "fnExactLeastClimb", fn := fun _ => fun
  | [d1, d2, d3, d4] => { results := [.lit (.bool true)], args := [d1, d2, d3, d4] }
  | _ => none }
def fnExactLeastClimbRow : OpenClaim := { program := "ytofjblebffflhaa", sum := "14add0f55c12c66f20076621f575f8767158e48c3c37a347be8e6593774889f5", func := "loop.example/g01166/laws.FnExactLeastClimb", spec := "fnExactLeastClimb", unfollowed := true, recurses := true, apart := false }
def FnExactLeastClimbSaid : Prop := fnExactLeastClimbRow.holds Try.pinned (OpenSpec.ofChange fnExactLeastClimbSpec)

/-- ITS FALSE NEIGHBOUR: 'it returns false'. Refute it at one input. -/
def fnExactLeastClimbWrong : ChangeSpec := { name := "fnExactLeastClimb", fn := fun _ => fun
  | [d1, d2, d3, d4] => { results := [.lit (.bool false)], args := [d1, d2, d3, d4] }
  | _ => none }
def FnExactLeastClimbWrongFalsely : Prop := fnExactLeastClimbRow.holds Try.pinned (OpenSpec.ofChange fnExactLeastClimbWrong)

/-- 'laws.FnExactTopRegion': WHATEVER THE INPUT: true; the input reads as it did. -/
def fnExactTopRegionSpec : ChangeSpec := { name := "fnExactTopRegion", fn := fun _ => fun
  | [d1, d2, d3] => { results := [.lit (.bool true)], args := [d1, d2, d3] }
  | _ => none }
def fnExactTopRegionRow : OpenClaim := { program := "ytofjblebffflhaa", sum := "14add0f55c12c66f20076621f575f8767158e48c3c37a347be8e6593774889f5", func := "loop.example/g01166/laws.FnExactTopRegion", spec := "fnExactTopRegion", unfollowed := true, recurses := true, apart := false }
def FnExactTopRegionSaid : Prop := fnExactTopRegionRow.holds Try.pinned (OpenSpec.ofChange fnExactTopRegionSpec)

/-- ITS FALSE NEIGHBOUR: 'it returns false'. Refute it at one input. -/
def fnExactTopRegionWrong : ChangeSpec := { name := "fnExactTopRegion", fn := fun _ => fun
  | [d1, d2, d3] => { results := [.lit (.bool false)], args := [d1, d2, d3] }
  | _ => none }
def FnExactTopRegionWrongFalsely : Prop := fnExactTopRegionRow.holds Try.pinned (OpenSpec.ofChange fnExactTopRegionWrong)

/-- 'laws.FnExactFirstTopWalk': WHATEVER THE INPUT: true; the input reads as it did. -/
def fnExactFirstTopWalkSpec : ChangeSpec := { name := "fnExactFirstTopWalk", fn := fun _ => fun
  | [d1, d2, d3, d4] => { results := [.lit (.bool true)], args := [d1, d2, d3, d4] }
  | _ => none }
def fnExactFirstTopWalkRow : OpenClaim := { program := "ytofjblebffflhaa", sum := "14add0f55c12c66f20076621f575f8767158e48c3c37a347be8e6593774889f5", func := "loop.example/g01166/laws.FnExactFirstTopWalk", spec := "fnExactFirstTopWalk", unfollowed := true, recurses := true, apart := false }
def FnExactFirstTopWalkSaid : Prop := fnExactFirstTopWalkRow.holds Try.pinned (OpenSpec.ofChange fnExactFirstTopWalkSpec)

/-- ITS FALSE NEIGHBOUR: 'it returns false'. Refute it at one input. -/
def fnExactFirstTopWalkWrong : ChangeSpec := { name := "fnExactFirstTopWalk", fn := fun _ => fun
  | [d1, d2, d3, d4] => { results := [.lit (.bool false)], args := [d1, d2, d3, d4] }
  | _ => none }
def FnExactFirstTopWalkWrongFalsely : Prop := fnExactFirstTopWalkRow.holds Try.pinned (OpenSpec.ofChange fnExactFirstTopWalkWrong)

/-- 'laws.FnSights': WHATEVER THE INPUT: true; the input reads as it did. -/
def fnSightsSpec : ChangeSpec := { name := "fnSights", fn := fun _ => fun
  | [d] => { results := [.lit (.bool true)], args := [d] }
  | _ => none }
def fnSightsRow : OpenClaim := { program := "ytofjblebffflhaa", sum := "14add0f55c12c66f20076621f575f8767158e48c3c37a347be8e6593774889f5", func := "loop.example/g01166/laws.FnSights", spec := "fnSights", unfollowed := true, recurses := true, apart := false }
def FnSightsSaid : Prop := fnSightsRow.holds Try.pinned (OpenSpec.ofChange fnSightsSpec)

/-- ITS FALSE NEIGHBOUR: 'it returns false'. Refute it at one input. -/
def fnSightsWrong : ChangeSpec := { name := "fnSights", fn := fun _ => fun
  | [d] => { results := [.lit (.bool false)], args := [d] }
  | _ => none }
def FnSightsWrongFalsely : Prop := fnSightsRow.holds Try.pinned (OpenSpec.ofChange fnSightsWrong)

/-- 'laws.FnTopWalks': WHATEVER THE INPUT: true; the input reads as it did. -/
def fnTopWalksSpec : ChangeSpec := { name := "fnTopWalks", fn := fun _ => fun
  | [d] => { results := [.lit (.bool true)], args := [d] }
  | _ => none }
def fnTopWalksRow : OpenClaim := { program := "ytofjblebffflhaa", sum := "14add0f55c12c66f20076621f575f8767158e48c3c37a347be8e6593774889f5", func := "loop.example/g01166/laws.FnTopWalks", spec := "fnTopWalks", unfollowed := true, recurses := true, apart := false }
def FnTopWalksSaid : Prop := fnTopWalksRow.holds Try.pinned (OpenSpec.ofChange fnTopWalksSpec)

/-- ITS FALSE NEIGHBOUR: 'it returns false'. Refute it at one input. -/
def fnTopWalksWrong : ChangeSpec := { name := "fnTopWalks", fn := fun _ => fun
  | [d] => { results := [.lit (.bool false)], args := [d] }
  | _ => none }
def FnTopWalksWrongFalsely : Prop := fnTopWalksRow.holds Try.pinned (OpenSpec.ofChange fnTopWalksWrong)

/- THE SECOND FORM. 'bulk': how many values and letters a reading holds, each counted each time it is reached (what is shared counts as often as it is met; a slice's spare places count too). A statement '..UptoSaid' is the law's where the arguments, and the package variables that the reading takes, are together of bulk at most 1048576: NARROWER than '..Said'. Prove '..Said' where nothing that the law and all that it calls make is longer than what came in: it says more and counts as full. Else prove '..UptoSaid'. A law counts once. -/
mutual
def uptoBulk {H : Type} : DataW H → Nat
  | .lit (.string bytes) => bytes.length + 1
  | .lit _ => 1
  | .nil => 1
  | .ptr d => uptoBulk d + 1
  | .slice elems spare => uptoBulkAll elems + uptoBulkAll spare + 1
  | .agg parts => uptoBulkAll parts + 1
  | .iface _ d => uptoBulk d + 1
  | .map entries => uptoBulkEntries entries + 1
  | .held _ => 1
def uptoBulkAll {H : Type} : List (DataW H) → Nat
  | [] => 0
  | d :: r => uptoBulk d + uptoBulkAll r
def uptoBulkEntries {H : Type} : List (Lit × DataW H) → Nat
  | [] => 0
  | x :: r => uptoBulkEntry x + uptoBulkEntries r
def uptoBulkEntry {H : Type} : Lit × DataW H → Nat
  | (.string bytes, d) => bytes.length + uptoBulk d + 1
  | (_, d) => uptoBulk d + 1
 end
def uptoSmall : (H : Type) → List (DataW H) → Bool := fun _ ds => decide (uptoBulkAll ds ≤ 1048576)
def OpenSpec.upto (s : _root_.Go.ChangeSpec) : _root_.Go.OpenSpec := { _root_.Go.OpenSpec.ofChange s with cond := some uptoSmall }

/-- 'laws.FnExactTopDistance', WHERE WHAT IT READS IS OF BULK AT MOST 1048576: true; the input reads as it did. -/
def fnExactTopDistanceUptoRow : OpenClaim := { program := "ytofjblebffflhaa", sum := "14add0f55c12c66f20076621f575f8767158e48c3c37a347be8e6593774889f5", func := "loop.example/g01166/laws.FnExactTopDistance", spec := "fnExactTopDistance", unfollowed := true, recurses := true, apart := false, narrowed := true }
def FnExactTopDistanceUptoSaid : Prop := fnExactTopDistanceUptoRow.holds Try.pinned (OpenSpec.upto fnExactTopDistanceSpec)

/-- 'laws.FnExactLeastReach', WHERE WHAT IT READS IS OF BULK AT MOST 1048576: true; the input reads as it did. -/
def fnExactLeastReachUptoRow : OpenClaim := { program := "ytofjblebffflhaa", sum := "14add0f55c12c66f20076621f575f8767158e48c3c37a347be8e6593774889f5", func := "loop.example/g01166/laws.FnExactLeastReach", spec := "fnExactLeastReach", unfollowed := true, recurses := true, apart := false, narrowed := true }
def FnExactLeastReachUptoSaid : Prop := fnExactLeastReachUptoRow.holds Try.pinned (OpenSpec.upto fnExactLeastReachSpec)

/-- 'laws.FnExactCountRegions', WHERE WHAT IT READS IS OF BULK AT MOST 1048576: true; the input reads as it did. -/
def fnExactCountRegionsUptoRow : OpenClaim := { program := "ytofjblebffflhaa", sum := "14add0f55c12c66f20076621f575f8767158e48c3c37a347be8e6593774889f5", func := "loop.example/g01166/laws.FnExactCountRegions", spec := "fnExactCountRegions", unfollowed := true, recurses := true, apart := false, narrowed := true }
def FnExactCountRegionsUptoSaid : Prop := fnExactCountRegionsUptoRow.holds Try.pinned (OpenSpec.upto fnExactCountRegionsSpec)

/-- 'laws.FnExactLeastClimb', WHERE WHAT IT READS IS OF BULK AT MOST 1048576: true; the input reads as it did. -/
def fnExactLeastClimbUptoRow : OpenClaim := { program := "ytofjblebffflhaa", sum := "14add0f55c12c66f20076621f575f8767158e48c3c37a347be8e6593774889f5", func := "loop.example/g01166/laws.FnExactLeastClimb", spec := "fnExactLeastClimb", unfollowed := true, recurses := true, apart := false, narrowed := true }
def FnExactLeastClimbUptoSaid : Prop := fnExactLeastClimbUptoRow.holds Try.pinned (OpenSpec.upto fnExactLeastClimbSpec)

/-- 'laws.FnExactTopRegion', WHERE WHAT IT READS IS OF BULK AT MOST 1048576: true; the input reads as it did. -/
def fnExactTopRegionUptoRow : OpenClaim := { program := "ytofjblebffflhaa", sum := "14add0f55c12c66f20076621f575f8767158e48c3c37a347be8e6593774889f5", func := "loop.example/g01166/laws.FnExactTopRegion", spec := "fnExactTopRegion", unfollowed := true, recurses := true, apart := false, narrowed := true }
def FnExactTopRegionUptoSaid : Prop := fnExactTopRegionUptoRow.holds Try.pinned (OpenSpec.upto fnExactTopRegionSpec)

/-- 'laws.FnExactFirstTopWalk', WHERE WHAT IT READS IS OF BULK AT MOST 1048576: true; the input reads as it did. -/
def fnExactFirstTopWalkUptoRow : OpenClaim := { program := "ytofjblebffflhaa", sum := "14add0f55c12c66f20076621f575f8767158e48c3c37a347be8e6593774889f5", func := "loop.example/g01166/laws.FnExactFirstTopWalk", spec := "fnExactFirstTopWalk", unfollowed := true, recurses := true, apart := false, narrowed := true }
def FnExactFirstTopWalkUptoSaid : Prop := fnExactFirstTopWalkUptoRow.holds Try.pinned (OpenSpec.upto fnExactFirstTopWalkSpec)

/-- 'laws.FnSights', WHERE WHAT IT READS IS OF BULK AT MOST 1048576: true; the input reads as it did. -/
def fnSightsUptoRow : OpenClaim := { program := "ytofjblebffflhaa", sum := "14add0f55c12c66f20076621f575f8767158e48c3c37a347be8e6593774889f5", func := "loop.example/g01166/laws.FnSights", spec := "fnSights", unfollowed := true, recurses := true, apart := false, narrowed := true }
def FnSightsUptoSaid : Prop := fnSightsUptoRow.holds Try.pinned (OpenSpec.upto fnSightsSpec)

/-- 'laws.FnTopWalks', WHERE WHAT IT READS IS OF BULK AT MOST 1048576: true; the input reads as it did. -/
def fnTopWalksUptoRow : OpenClaim := { program := "ytofjblebffflhaa", sum := "14add0f55c12c66f20076621f575f8767158e48c3c37a347be8e6593774889f5", func := "loop.example/g01166/laws.FnTopWalks", spec := "fnTopWalks", unfollowed := true, recurses := true, apart := false, narrowed := true }
def FnTopWalksUptoSaid : Prop := fnTopWalksUptoRow.holds Try.pinned (OpenSpec.upto fnTopWalksSpec)

end Rows
end Go.Proofs.Ytofjblebffflhaa
