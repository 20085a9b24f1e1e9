/-
  No cell of these rows narrows 'for every input' (looked for: loops, veiled, ifaces, maps, wideKeys, modest, calm, conditions, laid).
  DERIVED. THE GIVEN ROWS OF THIS SEAT. 12 by the template 'for every input the law returns true; each argument reads behind the call as it read before'; 0 by the template 'total and deterministic' (their statements: YtjndofbhdogblaaTotals.lean).
  GIVEN WITH THE SEED: the statements are not yours to turn. If you find one false, say at which input.
  Laid BY PROGRAM, IN A SANDBOX (cutbox-rows.mjs): the forced cells as the released guide's own fill.sh prints them over the translation 0154cc63d16d3a32… (all of the seat's roots in one cut). By AI agents, Wed Nov 11 2026. No macro, syntax, notation, axiom, sorry.
-/
import Derived.Test.YtjndofbhdogblaaChecked
import GoSem.Claim
import GoSem.ClaimJoined
import GoSem.ClaimMapViews
import Derived.JoinedTies
import Derived.KernelRfl
namespace Go.Proofs.Ytjndofbhdogblaa
/- THE CELL 'sum', in the pinned program and in every row, IS THE sha256 OF THE DUMP (.gsa) THAT YtjndofbhdogblaaProg.lean LOADS. Nothing in Lean hashes anything: it is a label: what it is worth is what the hold of that sum in a sandbox is worth. -/
noncomputable def Try.pinned : Pinned := { name := "ytjndofbhdogblaa", sum := "0154cc63d16d3a3263aae5fdcca158efa24bc8d3ffe9f7b784fcf95e57c8296b", checked := Try.checked }
namespace Rows
def none {H : Type} : Left H := { results := [], args := [] }

/-- 'laws.FnExactParityBars': WHATEVER THE INPUT: true; the input reads as it did. -/
def fnExactParityBarsSpec : ChangeSpec := { name := "fnExactParityBars", fn := fun _ => fun
  | [d1, d2] => { results := [.lit (.bool true)], args := [d1, d2] }
  | _ => none }
def fnExactParityBarsRow : OpenClaim := { program := "ytjndofbhdogblaa", sum := "0154cc63d16d3a3263aae5fdcca158efa24bc8d3ffe9f7b784fcf95e57c8296b", func := "loop.example/g01166/laws.FnExactParityBars", spec := "fnExactParityBars", unfollowed := true, recurses := true, plainKeys := false, apart := false }
def FnExactParityBarsSaid : Prop := fnExactParityBarsRow.holds Try.pinned (OpenSpec.ofChange fnExactParityBarsSpec)

/-- ITS FALSE NEIGHBOUR: 'it returns false'. Refute it at one input. -/
def fnExactParityBarsWrong : ChangeSpec := { name := "fnExactParityBars", fn := fun _ => fun
  | [d1, d2] => { results := [.lit (.bool false)], args := [d1, d2] }
  | _ => none }
def FnExactParityBarsWrongFalsely : Prop := fnExactParityBarsRow.holds Try.pinned (OpenSpec.ofChange fnExactParityBarsWrong)

/-- 'laws.FnExactIsPacking': WHATEVER THE INPUT: true; the input reads as it did. -/
def fnExactIsPackingSpec : ChangeSpec := { name := "fnExactIsPacking", fn := fun _ => fun
  | [d1, d2, d3] => { results := [.lit (.bool true)], args := [d1, d2, d3] }
  | _ => none }
def fnExactIsPackingRow : OpenClaim := { program := "ytjndofbhdogblaa", sum := "0154cc63d16d3a3263aae5fdcca158efa24bc8d3ffe9f7b784fcf95e57c8296b", func := "loop.example/g01166/laws.FnExactIsPacking", spec := "fnExactIsPacking", unfollowed := true, recurses := true, plainKeys := false, apart := false }
def FnExactIsPackingSaid : Prop := fnExactIsPackingRow.holds Try.pinned (OpenSpec.ofChange fnExactIsPackingSpec)

/-- ITS FALSE NEIGHBOUR: 'it returns false'. Refute it at one input. -/
def fnExactIsPackingWrong : ChangeSpec := { name := "fnExactIsPacking", fn := fun _ => fun
  | [d1, d2, d3] => { results := [.lit (.bool false)], args := [d1, d2, d3] }
  | _ => none }
def FnExactIsPackingWrongFalsely : Prop := fnExactIsPackingRow.holds Try.pinned (OpenSpec.ofChange fnExactIsPackingWrong)

/-- 'laws.FnExactCountPackings': WHATEVER THE INPUT: true; the input reads as it did. -/
def fnExactCountPackingsSpec : ChangeSpec := { name := "fnExactCountPackings", fn := fun _ => fun
  | [d1, d2] => { results := [.lit (.bool true)], args := [d1, d2] }
  | _ => none }
def fnExactCountPackingsRow : OpenClaim := { program := "ytjndofbhdogblaa", sum := "0154cc63d16d3a3263aae5fdcca158efa24bc8d3ffe9f7b784fcf95e57c8296b", func := "loop.example/g01166/laws.FnExactCountPackings", spec := "fnExactCountPackings", unfollowed := true, recurses := true, plainKeys := false, apart := false }
def FnExactCountPackingsSaid : Prop := fnExactCountPackingsRow.holds Try.pinned (OpenSpec.ofChange fnExactCountPackingsSpec)

/-- ITS FALSE NEIGHBOUR: 'it returns false'. Refute it at one input. -/
def fnExactCountPackingsWrong : ChangeSpec := { name := "fnExactCountPackings", fn := fun _ => fun
  | [d1, d2] => { results := [.lit (.bool false)], args := [d1, d2] }
  | _ => none }
def FnExactCountPackingsWrongFalsely : Prop := fnExactCountPackingsRow.holds Try.pinned (OpenSpec.ofChange fnExactCountPackingsWrong)

/-- 'laws.FnExactFaultPlanes': WHATEVER THE INPUT: true; the input reads as it did. -/
def fnExactFaultPlanesSpec : ChangeSpec := { name := "fnExactFaultPlanes", fn := fun _ => fun
  | [d1, d2, d3] => { results := [.lit (.bool true)], args := [d1, d2, d3] }
  | _ => none }
def fnExactFaultPlanesRow : OpenClaim := { program := "ytjndofbhdogblaa", sum := "0154cc63d16d3a3263aae5fdcca158efa24bc8d3ffe9f7b784fcf95e57c8296b", func := "loop.example/g01166/laws.FnExactFaultPlanes", spec := "fnExactFaultPlanes", unfollowed := true, recurses := true, plainKeys := false, apart := false }
def FnExactFaultPlanesSaid : Prop := fnExactFaultPlanesRow.holds Try.pinned (OpenSpec.ofChange fnExactFaultPlanesSpec)

/-- ITS FALSE NEIGHBOUR: 'it returns false'. Refute it at one input. -/
def fnExactFaultPlanesWrong : ChangeSpec := { name := "fnExactFaultPlanes", fn := fun _ => fun
  | [d1, d2, d3] => { results := [.lit (.bool false)], args := [d1, d2, d3] }
  | _ => none }
def FnExactFaultPlanesWrongFalsely : Prop := fnExactFaultPlanesRow.holds Try.pinned (OpenSpec.ofChange fnExactFaultPlanesWrong)

/-- 'laws.FnExactFirstPacking': WHATEVER THE INPUT: true; the input reads as it did. -/
def fnExactFirstPackingSpec : ChangeSpec := { name := "fnExactFirstPacking", fn := fun _ => fun
  | [d1, d2] => { results := [.lit (.bool true)], args := [d1, d2] }
  | _ => none }
def fnExactFirstPackingRow : OpenClaim := { program := "ytjndofbhdogblaa", sum := "0154cc63d16d3a3263aae5fdcca158efa24bc8d3ffe9f7b784fcf95e57c8296b", func := "loop.example/g01166/laws.FnExactFirstPacking", spec := "fnExactFirstPacking", unfollowed := true, recurses := true, plainKeys := false, apart := false }
def FnExactFirstPackingSaid : Prop := fnExactFirstPackingRow.holds Try.pinned (OpenSpec.ofChange fnExactFirstPackingSpec)

/-- ITS FALSE NEIGHBOUR: 'it returns false'. Refute it at one input. -/
def fnExactFirstPackingWrong : ChangeSpec := { name := "fnExactFirstPacking", fn := fun _ => fun
  | [d1, d2] => { results := [.lit (.bool false)], args := [d1, d2] }
  | _ => none }
def FnExactFirstPackingWrongFalsely : Prop := fnExactFirstPackingRow.holds Try.pinned (OpenSpec.ofChange fnExactFirstPackingWrong)

/-- 'laws.FnExactLayingOrder': WHATEVER THE INPUT: true; the input reads as it did. -/
def fnExactLayingOrderSpec : ChangeSpec := { name := "fnExactLayingOrder", fn := fun _ => fun
  | [d] => { results := [.lit (.bool true)], args := [d] }
  | _ => none }
def fnExactLayingOrderRow : OpenClaim := { program := "ytjndofbhdogblaa", sum := "0154cc63d16d3a3263aae5fdcca158efa24bc8d3ffe9f7b784fcf95e57c8296b", func := "loop.example/g01166/laws.FnExactLayingOrder", spec := "fnExactLayingOrder", unfollowed := true, recurses := true, plainKeys := false, apart := false }
def FnExactLayingOrderSaid : Prop := fnExactLayingOrderRow.holds Try.pinned (OpenSpec.ofChange fnExactLayingOrderSpec)

/-- ITS FALSE NEIGHBOUR: 'it returns false'. Refute it at one input. -/
def fnExactLayingOrderWrong : ChangeSpec := { name := "fnExactLayingOrder", fn := fun _ => fun
  | [d] => { results := [.lit (.bool false)], args := [d] }
  | _ => none }
def FnExactLayingOrderWrongFalsely : Prop := fnExactLayingOrderRow.holds Try.pinned (OpenSpec.ofChange fnExactLayingOrderWrong)

/-- 'laws.FnExactSinkHeap': WHATEVER THE INPUT: true; the input reads as it did. -/
def fnExactSinkHeapSpec : ChangeSpec := { name := "fnExactSinkHeap", fn := fun _ => fun
  | [d] => { results := [.lit (.bool true)], args := [d] }
  | _ => none }
def fnExactSinkHeapRow : OpenClaim := { program := "ytjndofbhdogblaa", sum := "0154cc63d16d3a3263aae5fdcca158efa24bc8d3ffe9f7b784fcf95e57c8296b", func := "loop.example/g01166/laws.FnExactSinkHeap", spec := "fnExactSinkHeap", unfollowed := true, recurses := true, plainKeys := false, apart := false }
def FnExactSinkHeapSaid : Prop := fnExactSinkHeapRow.holds Try.pinned (OpenSpec.ofChange fnExactSinkHeapSpec)

/-- ITS FALSE NEIGHBOUR: 'it returns false'. Refute it at one input. -/
def fnExactSinkHeapWrong : ChangeSpec := { name := "fnExactSinkHeap", fn := fun _ => fun
  | [d] => { results := [.lit (.bool false)], args := [d] }
  | _ => none }
def FnExactSinkHeapWrongFalsely : Prop := fnExactSinkHeapRow.holds Try.pinned (OpenSpec.ofChange fnExactSinkHeapWrong)

/-- 'laws.FnExactTakingOrder': WHATEVER THE INPUT: true; the input reads as it did. -/
def fnExactTakingOrderSpec : ChangeSpec := { name := "fnExactTakingOrder", fn := fun _ => fun
  | [d] => { results := [.lit (.bool true)], args := [d] }
  | _ => none }
def fnExactTakingOrderRow : OpenClaim := { program := "ytjndofbhdogblaa", sum := "0154cc63d16d3a3263aae5fdcca158efa24bc8d3ffe9f7b784fcf95e57c8296b", func := "loop.example/g01166/laws.FnExactTakingOrder", spec := "fnExactTakingOrder", unfollowed := true, recurses := true, plainKeys := false, apart := false }
def FnExactTakingOrderSaid : Prop := fnExactTakingOrderRow.holds Try.pinned (OpenSpec.ofChange fnExactTakingOrderSpec)

/-- ITS FALSE NEIGHBOUR: 'it returns false'. Refute it at one input. -/
def fnExactTakingOrderWrong : ChangeSpec := { name := "fnExactTakingOrder", fn := fun _ => fun
  | [d] => { results := [.lit (.bool false)], args := [d] }
  | _ => none }
def FnExactTakingOrderWrongFalsely : Prop := fnExactTakingOrderRow.holds Try.pinned (OpenSpec.ofChange fnExactTakingOrderWrong)

/-- 'laws.FnExactFillCavities': WHATEVER THE INPUT: true; the input reads as it did. -/
def fnExactFillCavitiesSpec : ChangeSpec := { name := "fnExactFillCavities", fn := fun _ => fun
  | [d] => { results := [.lit (.bool true)], args := [d] }
  | _ => none }
def fnExactFillCavitiesRow : OpenClaim := { program := "ytjndofbhdogblaa", sum := "0154cc63d16d3a3263aae5fdcca158efa24bc8d3ffe9f7b784fcf95e57c8296b", func := "loop.example/g01166/laws.FnExactFillCavities", spec := "fnExactFillCavities", unfollowed := true, recurses := true, plainKeys := false, apart := false }
def FnExactFillCavitiesSaid : Prop := fnExactFillCavitiesRow.holds Try.pinned (OpenSpec.ofChange fnExactFillCavitiesSpec)

/-- ITS FALSE NEIGHBOUR: 'it returns false'. Refute it at one input. -/
def fnExactFillCavitiesWrong : ChangeSpec := { name := "fnExactFillCavities", fn := fun _ => fun
  | [d] => { results := [.lit (.bool false)], args := [d] }
  | _ => none }
def FnExactFillCavitiesWrongFalsely : Prop := fnExactFillCavitiesRow.holds Try.pinned (OpenSpec.ofChange fnExactFillCavitiesWrong)

/-- 'laws.FnExactCavitiesOf': WHATEVER THE INPUT: true; the input reads as it did. -/
def fnExactCavitiesOfSpec : ChangeSpec := { name := "fnExactCavitiesOf", fn := fun _ => fun
  | [d] => { results := [.lit (.bool true)], args := [d] }
  | _ => none }
def fnExactCavitiesOfRow : OpenClaim := { program := "ytjndofbhdogblaa", sum := "0154cc63d16d3a3263aae5fdcca158efa24bc8d3ffe9f7b784fcf95e57c8296b", func := "loop.example/g01166/laws.FnExactCavitiesOf", spec := "fnExactCavitiesOf", unfollowed := true, recurses := true, plainKeys := false, apart := false }
def FnExactCavitiesOfSaid : Prop := fnExactCavitiesOfRow.holds Try.pinned (OpenSpec.ofChange fnExactCavitiesOfSpec)

/-- ITS FALSE NEIGHBOUR: 'it returns false'. Refute it at one input. -/
def fnExactCavitiesOfWrong : ChangeSpec := { name := "fnExactCavitiesOf", fn := fun _ => fun
  | [d] => { results := [.lit (.bool false)], args := [d] }
  | _ => none }
def FnExactCavitiesOfWrongFalsely : Prop := fnExactCavitiesOfRow.holds Try.pinned (OpenSpec.ofChange fnExactCavitiesOfWrong)

/-- 'laws.FnExactTunnelsOf': WHATEVER THE INPUT: true; the input reads as it did. -/
def fnExactTunnelsOfSpec : ChangeSpec := { name := "fnExactTunnelsOf", fn := fun _ => fun
  | [d] => { results := [.lit (.bool true)], args := [d] }
  | _ => none }
def fnExactTunnelsOfRow : OpenClaim := { program := "ytjndofbhdogblaa", sum := "0154cc63d16d3a3263aae5fdcca158efa24bc8d3ffe9f7b784fcf95e57c8296b", func := "loop.example/g01166/laws.FnExactTunnelsOf", spec := "fnExactTunnelsOf", unfollowed := true, recurses := true, plainKeys := false, apart := false }
def FnExactTunnelsOfSaid : Prop := fnExactTunnelsOfRow.holds Try.pinned (OpenSpec.ofChange fnExactTunnelsOfSpec)

/-- ITS FALSE NEIGHBOUR: 'it returns false'. Refute it at one input. -/
def fnExactTunnelsOfWrong : ChangeSpec := { name := "fnExactTunnelsOf", fn := fun _ => fun
  | [d] => { results := [.lit (.bool false)], args := [d] }
  | _ => none }
def FnExactTunnelsOfWrongFalsely : Prop := fnExactTunnelsOfRow.holds Try.pinned (OpenSpec.ofChange fnExactTunnelsOfWrong)

/-- 'laws.FnDominoes': WHATEVER THE INPUT: true; the input reads as it did. -/
def fnDominoesSpec : ChangeSpec := { name := "fnDominoes", fn := fun _ => fun
  | [d] => { results := [.lit (.bool true)], args := [d] }
  | _ => none }
def fnDominoesRow : OpenClaim := { program := "ytjndofbhdogblaa", sum := "0154cc63d16d3a3263aae5fdcca158efa24bc8d3ffe9f7b784fcf95e57c8296b", func := "loop.example/g01166/laws.FnDominoes", spec := "fnDominoes", unfollowed := true, recurses := true, plainKeys := false, apart := false }
def FnDominoesSaid : Prop := fnDominoesRow.holds Try.pinned (OpenSpec.ofChange fnDominoesSpec)

/-- ITS FALSE NEIGHBOUR: 'it returns false'. Refute it at one input. -/
def fnDominoesWrong : ChangeSpec := { name := "fnDominoes", fn := fun _ => fun
  | [d] => { results := [.lit (.bool false)], args := [d] }
  | _ => none }
def FnDominoesWrongFalsely : Prop := fnDominoesRow.holds Try.pinned (OpenSpec.ofChange fnDominoesWrong)

/- THE SECOND FORM. 'bulk': how many values and letters a reading holds, each counted each time it is reached (what is shared counts as often as it is met; a slice's spare places count too). A statement '..UptoSaid' is the law's where the arguments, and the package variables that the reading takes, are together of bulk at most 1048576: NARROWER than '..Said'. Prove '..Said' where nothing that the law and all that it calls make is longer than what came in: it says more and counts as full. Else prove '..UptoSaid'. A law counts once. -/
mutual
def uptoBulk {H : Type} : DataW H → Nat
  | .lit (.string bytes) => bytes.length + 1
  | .lit _ => 1
  | .nil => 1
  | .ptr d => uptoBulk d + 1
  | .slice elems spare => uptoBulkAll elems + uptoBulkAll spare + 1
  | .agg parts => uptoBulkAll parts + 1
  | .iface _ d => uptoBulk d + 1
  | .map entries => uptoBulkEntries entries + 1
  | .held _ => 1
def uptoBulkAll {H : Type} : List (DataW H) → Nat
  | [] => 0
  | d :: r => uptoBulk d + uptoBulkAll r
def uptoBulkEntries {H : Type} : List (Lit × DataW H) → Nat
  | [] => 0
  | x :: r => uptoBulkEntry x + uptoBulkEntries r
def uptoBulkEntry {H : Type} : Lit × DataW H → Nat
  | (.string bytes, d) => bytes.length + uptoBulk d + 1
  | (_, d) => uptoBulk d + 1
 end
def uptoSmall : (H : Type) → List (DataW H) → Bool := fun _ ds => decide (uptoBulkAll ds ≤ 1048576)
def OpenSpec.upto (s : _root_.Go.ChangeSpec) : _root_.Go.OpenSpec := { _root_.Go.OpenSpec.ofChange s with cond := some uptoSmall }

/-- 'laws.FnExactParityBars', WHERE WHAT IT READS IS OF BULK AT MOST 1048576: true; the input reads as it did. -/
def fnExactParityBarsUptoRow : OpenClaim := { program := "ytjndofbhdogblaa", sum := "0154cc63d16d3a3263aae5fdcca158efa24bc8d3ffe9f7b784fcf95e57c8296b", func := "loop.example/g01166/laws.FnExactParityBars", spec := "fnExactParityBars", unfollowed := true, recurses := true, plainKeys := false, apart := false, narrowed := true }
def FnExactParityBarsUptoSaid : Prop := fnExactParityBarsUptoRow.holds Try.pinned (OpenSpec.upto fnExactParityBarsSpec)

/-- 'laws.FnExactIsPacking', WHERE WHAT IT READS IS OF BULK AT MOST 1048576: true; the input reads as it did. -/
def fnExactIsPackingUptoRow : OpenClaim := { program := "ytjndofbhdogblaa", sum := "0154cc63d16d3a3263aae5fdcca158efa24bc8d3ffe9f7b784fcf95e57c8296b", func := "loop.example/g01166/laws.FnExactIsPacking", spec := "fnExactIsPacking", unfollowed := true, recurses := true, plainKeys := false, apart := false, narrowed := true }
def FnExactIsPackingUptoSaid : Prop := fnExactIsPackingUptoRow.holds Try.pinned (OpenSpec.upto fnExactIsPackingSpec)

/-- 'laws.FnExactCountPackings', WHERE WHAT IT READS IS OF BULK AT MOST 1048576: true; the input reads as it did. -/
def fnExactCountPackingsUptoRow : OpenClaim := { program := "ytjndofbhdogblaa", sum := "0154cc63d16d3a3263aae5fdcca158efa24bc8d3ffe9f7b784fcf95e57c8296b", func := "loop.example/g01166/laws.FnExactCountPackings", spec := "fnExactCountPackings", unfollowed := true, recurses := true, plainKeys := false, apart := false, narrowed := true }
def FnExactCountPackingsUptoSaid : Prop := fnExactCountPackingsUptoRow.holds Try.pinned (OpenSpec.upto fnExactCountPackingsSpec)

/-- 'laws.FnExactFaultPlanes', WHERE WHAT IT READS IS OF BULK AT MOST 1048576: true; the input reads as it did. -/
def fnExactFaultPlanesUptoRow : OpenClaim := { program := "ytjndofbhdogblaa", sum := "0154cc63d16d3a3263aae5fdcca158efa24bc8d3ffe9f7b784fcf95e57c8296b", func := "loop.example/g01166/laws.FnExactFaultPlanes", spec := "fnExactFaultPlanes", unfollowed := true, recurses := true, plainKeys := false, apart := false, narrowed := true }
def FnExactFaultPlanesUptoSaid : Prop := fnExactFaultPlanesUptoRow.holds Try.pinned (OpenSpec.upto fnExactFaultPlanesSpec)

/-- 'laws.FnExactFirstPacking', WHERE WHAT IT READS IS OF BULK AT MOST 1048576: true; the input reads as it did. -/
def fnExactFirstPackingUptoRow : OpenClaim := { program := "ytjndofbhdogblaa", sum := "0154cc63d16d3a3263aae5fdcca158efa24bc8d3ffe9f7b784fcf95e57c8296b", func := "loop.example/g01166/laws.FnExactFirstPacking", spec := "fnExactFirstPacking", unfollowed := true, recurses := true, plainKeys := false, apart := false, narrowed := true }
def FnExactFirstPackingUptoSaid : Prop := fnExactFirstPackingUptoRow.holds Try.pinned (OpenSpec.upto fnExactFirstPackingSpec)

/-- 'laws.FnExactLayingOrder', WHERE WHAT IT READS IS OF BULK AT MOST 1048576: true; the input reads as it did. -/
def fnExactLayingOrderUptoRow : OpenClaim := { program := "ytjndofbhdogblaa", sum := "0154cc63d16d3a3263aae5fdcca158efa24bc8d3ffe9f7b784fcf95e57c8296b", func := "loop.example/g01166/laws.FnExactLayingOrder", spec := "fnExactLayingOrder", unfollowed := true, recurses := true, plainKeys := false, apart := false, narrowed := true }
def FnExactLayingOrderUptoSaid : Prop := fnExactLayingOrderUptoRow.holds Try.pinned (OpenSpec.upto fnExactLayingOrderSpec)

/-- 'laws.FnExactSinkHeap', WHERE WHAT IT READS IS OF BULK AT MOST 1048576: true; the input reads as it did. -/
def fnExactSinkHeapUptoRow : OpenClaim := { program := "ytjndofbhdogblaa", sum := "0154cc63d16d3a3263aae5fdcca158efa24bc8d3ffe9f7b784fcf95e57c8296b", func := "loop.example/g01166/laws.FnExactSinkHeap", spec := "fnExactSinkHeap", unfollowed := true, recurses := true, plainKeys := false, apart := false, narrowed := true }
def FnExactSinkHeapUptoSaid : Prop := fnExactSinkHeapUptoRow.holds Try.pinned (OpenSpec.upto fnExactSinkHeapSpec)

/-- 'laws.FnExactTakingOrder', WHERE WHAT IT READS IS OF BULK AT MOST 1048576: true; the input reads as it did. -/
def fnExactTakingOrderUptoRow : OpenClaim := { program := "ytjndofbhdogblaa", sum := "0154cc63d16d3a3263aae5fdcca158efa24bc8d3ffe9f7b784fcf95e57c8296b", func := "loop.example/g01166/laws.FnExactTakingOrder", spec := "fnExactTakingOrder", unfollowed := true, recurses := true, plainKeys := false, apart := false, narrowed := true }
def FnExactTakingOrderUptoSaid : Prop := fnExactTakingOrderUptoRow.holds Try.pinned (OpenSpec.upto fnExactTakingOrderSpec)

/-- 'laws.FnExactFillCavities', WHERE WHAT IT READS IS OF BULK AT MOST 1048576: true; the input reads as it did. -/
def fnExactFillCavitiesUptoRow : OpenClaim := { program := "ytjndofbhdogblaa", sum := "0154cc63d16d3a3263aae5fdcca158efa24bc8d3ffe9f7b784fcf95e57c8296b", func := "loop.example/g01166/laws.FnExactFillCavities", spec := "fnExactFillCavities", unfollowed := true, recurses := true, plainKeys := false, apart := false, narrowed := true }
def FnExactFillCavitiesUptoSaid : Prop := fnExactFillCavitiesUptoRow.holds Try.pinned (OpenSpec.upto fnExactFillCavitiesSpec)

/-- 'laws.FnExactCavitiesOf', WHERE WHAT IT READS IS OF BULK AT MOST 1048576: true; the input reads as it did. -/
def fnExactCavitiesOfUptoRow : OpenClaim := { program := "ytjndofbhdogblaa", sum := "0154cc63d16d3a3263aae5fdcca158efa24bc8d3ffe9f7b784fcf95e57c8296b", func := "loop.example/g01166/laws.FnExactCavitiesOf", spec := "fnExactCavitiesOf", unfollowed := true, recurses := true, plainKeys := false, apart := false, narrowed := true }
def FnExactCavitiesOfUptoSaid : Prop := fnExactCavitiesOfUptoRow.holds Try.pinned (OpenSpec.upto fnExactCavitiesOfSpec)

/-- 'laws.FnExactTunnelsOf', WHERE WHAT IT READS IS OF BULK AT MOST 1048576: true; the input reads as it did. -/
def fnExactTunnelsOfUptoRow : OpenClaim := { program := "ytjndofbhdogblaa", sum := "0154cc63d16d3a3263aae5fdcca158efa24bc8d3ffe9f7b784fcf95e57c8296b", func := "loop.example/g01166/laws.FnExactTunnelsOf", spec := "fnExactTunnelsOf", unfollowed := true, recurses := true, plainKeys := false, apart := false, narrowed := true }
def FnExactTunnelsOfUptoSaid : Prop := fnExactTunnelsOfUptoRow.holds Try.pinned (OpenSpec.upto fnExactTunnelsOfSpec)

/-- 'laws.FnDominoes', WHERE WHAT IT READS IS OF BULK AT MOST 1048576: true; the input reads as it did. -/
def fnDominoesUptoRow : OpenClaim := { program := "ytjndofbhdogblaa", sum := "0154cc63d16d3a3263aae5fdcca158efa24bc8d3ffe9f7b784fcf95e57c8296b", func := "loop.example/g01166/laws.FnDominoes", spec := "fnDominoes", unfollowed := true, recurses := true, plainKeys := false, apart := false, narrowed := true }
def FnDominoesUptoSaid : Prop := fnDominoesUptoRow.holds Try.pinned (OpenSpec.upto fnDominoesSpec)

end Rows
end Go.Proofs.Ytjndofbhdogblaa
