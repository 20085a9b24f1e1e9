/-
  No cell of these rows narrows 'for every input' (looked for: loops, veiled, ifaces, maps, wideKeys, modest, calm, conditions, laid).
  DERIVED. THE GIVEN ROWS OF THIS SEAT. 6 by the template 'for every input the law returns true; each argument reads behind the call as it read before'; 0 by the template 'total and deterministic' (their statements: YthgljdbfkojpeaaTotals.lean).
  GIVEN WITH THE SEED: the statements are not yours to turn. If you find one false, say at which input.
  Laid BY PROGRAM, IN A SANDBOX (cutbox-rows.mjs): the forced cells as the released guide's own fill.sh prints them over the translation 575aa6cd9f34db6c… (all of the seat's roots in one cut). By AI agents, Wed Nov 11 2026. No macro, syntax, notation, axiom, sorry.
-/
import Derived.Test.YthgljdbfkojpeaaChecked
import GoSem.Claim
import GoSem.ClaimJoined
import GoSem.ClaimMapViews
import Derived.JoinedTies
import Derived.KernelRfl
namespace Go.Proofs.Ythgljdbfkojpeaa
/- THE CELL 'sum', in the pinned program and in every row, IS THE sha256 OF THE DUMP (.gsa) THAT YthgljdbfkojpeaaProg.lean LOADS. Nothing in Lean hashes anything: it is a label: what it is worth is what the hold of that sum in a sandbox is worth. -/
noncomputable def Try.pinned : Pinned := { name := "ythgljdbfkojpeaa", sum := "575aa6cd9f34db6c884d3317c0a5313fac7f42e5f94c66c9701a27ea04f28631", checked := Try.checked }
namespace Rows
def none {H : Type} : Left H := { results := [], args := [] }

/-- 'laws.FnTopWalks': WHATEVER THE INPUT: true; the input reads as it did. -/
def fnTopWalksSpec : ChangeSpec := { name := "fnTopWalks", fn := fun _ => fun
  | [d] => { results := [.lit (.bool true)], args := [d] }
  | _ => none }
def fnTopWalksRow : OpenClaim := { program := "ythgljdbfkojpeaa", sum := "575aa6cd9f34db6c884d3317c0a5313fac7f42e5f94c66c9701a27ea04f28631", func := "loop.example/g01166/laws.FnTopWalks", spec := "fnTopWalks", unfollowed := true, recurses := true, apart := false }
def FnTopWalksSaid : Prop := fnTopWalksRow.holds Try.pinned (OpenSpec.ofChange fnTopWalksSpec)

/-- ITS FALSE NEIGHBOUR: 'it returns false'. Refute it at one input. -/
def fnTopWalksWrong : ChangeSpec := { name := "fnTopWalks", fn := fun _ => fun
  | [d] => { results := [.lit (.bool false)], args := [d] }
  | _ => none }
def FnTopWalksWrongFalsely : Prop := fnTopWalksRow.holds Try.pinned (OpenSpec.ofChange fnTopWalksWrong)

/-- 'laws.FnTurns': WHATEVER THE INPUT: true; the input reads as it did. -/
def fnTurnsSpec : ChangeSpec := { name := "fnTurns", fn := fun _ => fun
  | [d] => { results := [.lit (.bool true)], args := [d] }
  | _ => none }
def fnTurnsRow : OpenClaim := { program := "ythgljdbfkojpeaa", sum := "575aa6cd9f34db6c884d3317c0a5313fac7f42e5f94c66c9701a27ea04f28631", func := "loop.example/g01166/laws.FnTurns", spec := "fnTurns", unfollowed := true, recurses := true, apart := false }
def FnTurnsSaid : Prop := fnTurnsRow.holds Try.pinned (OpenSpec.ofChange fnTurnsSpec)

/-- ITS FALSE NEIGHBOUR: 'it returns false'. Refute it at one input. -/
def fnTurnsWrong : ChangeSpec := { name := "fnTurns", fn := fun _ => fun
  | [d] => { results := [.lit (.bool false)], args := [d] }
  | _ => none }
def FnTurnsWrongFalsely : Prop := fnTurnsRow.holds Try.pinned (OpenSpec.ofChange fnTurnsWrong)

/-- 'laws.FnPieces': WHATEVER THE INPUT: true; the input reads as it did. -/
def fnPiecesSpec : ChangeSpec := { name := "fnPieces", fn := fun _ => fun
  | [d] => { results := [.lit (.bool true)], args := [d] }
  | _ => none }
def fnPiecesRow : OpenClaim := { program := "ythgljdbfkojpeaa", sum := "575aa6cd9f34db6c884d3317c0a5313fac7f42e5f94c66c9701a27ea04f28631", func := "loop.example/g01166/laws.FnPieces", spec := "fnPieces", unfollowed := true, recurses := true, apart := false }
def FnPiecesSaid : Prop := fnPiecesRow.holds Try.pinned (OpenSpec.ofChange fnPiecesSpec)

/-- ITS FALSE NEIGHBOUR: 'it returns false'. Refute it at one input. -/
def fnPiecesWrong : ChangeSpec := { name := "fnPieces", fn := fun _ => fun
  | [d] => { results := [.lit (.bool false)], args := [d] }
  | _ => none }
def FnPiecesWrongFalsely : Prop := fnPiecesRow.holds Try.pinned (OpenSpec.ofChange fnPiecesWrong)

/-- 'laws.FnSights': WHATEVER THE INPUT: true; the input reads as it did. -/
def fnSightsSpec : ChangeSpec := { name := "fnSights", fn := fun _ => fun
  | [d] => { results := [.lit (.bool true)], args := [d] }
  | _ => none }
def fnSightsRow : OpenClaim := { program := "ythgljdbfkojpeaa", sum := "575aa6cd9f34db6c884d3317c0a5313fac7f42e5f94c66c9701a27ea04f28631", func := "loop.example/g01166/laws.FnSights", spec := "fnSights", unfollowed := true, recurses := true, apart := false }
def FnSightsSaid : Prop := fnSightsRow.holds Try.pinned (OpenSpec.ofChange fnSightsSpec)

/-- ITS FALSE NEIGHBOUR: 'it returns false'. Refute it at one input. -/
def fnSightsWrong : ChangeSpec := { name := "fnSights", fn := fun _ => fun
  | [d] => { results := [.lit (.bool false)], args := [d] }
  | _ => none }
def FnSightsWrongFalsely : Prop := fnSightsRow.holds Try.pinned (OpenSpec.ofChange fnSightsWrong)

/-- 'laws.FnFalling': WHATEVER THE INPUT: true; the input reads as it did. -/
def fnFallingSpec : ChangeSpec := { name := "fnFalling", fn := fun _ => fun
  | [d] => { results := [.lit (.bool true)], args := [d] }
  | _ => none }
def fnFallingRow : OpenClaim := { program := "ythgljdbfkojpeaa", sum := "575aa6cd9f34db6c884d3317c0a5313fac7f42e5f94c66c9701a27ea04f28631", func := "loop.example/g01166/laws.FnFalling", spec := "fnFalling", unfollowed := true, recurses := true, apart := false }
def FnFallingSaid : Prop := fnFallingRow.holds Try.pinned (OpenSpec.ofChange fnFallingSpec)

/-- ITS FALSE NEIGHBOUR: 'it returns false'. Refute it at one input. -/
def fnFallingWrong : ChangeSpec := { name := "fnFalling", fn := fun _ => fun
  | [d] => { results := [.lit (.bool false)], args := [d] }
  | _ => none }
def FnFallingWrongFalsely : Prop := fnFallingRow.holds Try.pinned (OpenSpec.ofChange fnFallingWrong)

/-- 'laws.FnHeapForms': WHATEVER THE INPUT: true; the input reads as it did. -/
def fnHeapFormsSpec : ChangeSpec := { name := "fnHeapForms", fn := fun _ => fun
  | [d] => { results := [.lit (.bool true)], args := [d] }
  | _ => none }
def fnHeapFormsRow : OpenClaim := { program := "ythgljdbfkojpeaa", sum := "575aa6cd9f34db6c884d3317c0a5313fac7f42e5f94c66c9701a27ea04f28631", func := "loop.example/g01166/laws.FnHeapForms", spec := "fnHeapForms", unfollowed := true, recurses := true, apart := false }
def FnHeapFormsSaid : Prop := fnHeapFormsRow.holds Try.pinned (OpenSpec.ofChange fnHeapFormsSpec)

/-- ITS FALSE NEIGHBOUR: 'it returns false'. Refute it at one input. -/
def fnHeapFormsWrong : ChangeSpec := { name := "fnHeapForms", fn := fun _ => fun
  | [d] => { results := [.lit (.bool false)], args := [d] }
  | _ => none }
def FnHeapFormsWrongFalsely : Prop := fnHeapFormsRow.holds Try.pinned (OpenSpec.ofChange fnHeapFormsWrong)

/- THE SECOND FORM. 'bulk': how many values and letters a reading holds, each counted each time it is reached (what is shared counts as often as it is met; a slice's spare places count too). A statement '..UptoSaid' is the law's where the arguments, and the package variables that the reading takes, are together of bulk at most 1048576: NARROWER than '..Said'. Prove '..Said' where nothing that the law and all that it calls make is longer than what came in: it says more and counts as full. Else prove '..UptoSaid'. A law counts once. -/
mutual
def uptoBulk {H : Type} : DataW H → Nat
  | .lit (.string bytes) => bytes.length + 1
  | .lit _ => 1
  | .nil => 1
  | .ptr d => uptoBulk d + 1
  | .slice elems spare => uptoBulkAll elems + uptoBulkAll spare + 1
  | .agg parts => uptoBulkAll parts + 1
  | .iface _ d => uptoBulk d + 1
  | .map entries => uptoBulkEntries entries + 1
  | .held _ => 1
def uptoBulkAll {H : Type} : List (DataW H) → Nat
  | [] => 0
  | d :: r => uptoBulk d + uptoBulkAll r
def uptoBulkEntries {H : Type} : List (Lit × DataW H) → Nat
  | [] => 0
  | x :: r => uptoBulkEntry x + uptoBulkEntries r
def uptoBulkEntry {H : Type} : Lit × DataW H → Nat
  | (.string bytes, d) => bytes.length + uptoBulk d + 1
  | (_, d) => uptoBulk d + 1
 end
def uptoSmall : (H : Type) → List (DataW H) → Bool := fun _ ds => decide (uptoBulkAll ds ≤ 1048576)
def OpenSpec.upto (s : _root_.Go.ChangeSpec) : _root_.Go.OpenSpec := { _root_.Go.OpenSpec.ofChange s with cond := some uptoSmall }

/-- 'laws.FnTopWalks', WHERE WHAT IT READS IS OF BULK AT MOST 1048576: true; the input reads as it did. -/
def fnTopWalksUptoRow : OpenClaim := { program := "ythgljdbfkojpeaa", sum := "575aa6cd9f34db6c884d3317c0a5313fac7f42e5f94c66c9701a27ea04f28631", func := "loop.example/g01166/laws.FnTopWalks", spec := "fnTopWalks", unfollowed := true, recurses := true, apart := false, narrowed := true }
def FnTopWalksUptoSaid : Prop := fnTopWalksUptoRow.holds Try.pinned (OpenSpec.upto fnTopWalksSpec)

/-- 'laws.FnTurns', WHERE WHAT IT READS IS OF BULK AT MOST 1048576: true; the input reads as it did. -/
def fnTurnsUptoRow : OpenClaim := { program := "ythgljdbfkojpeaa", sum := "575aa6cd9f34db6c884d3317c0a5313fac7f42e5f94c66c9701a27ea04f28631", func := "loop.example/g01166/laws.FnTurns", spec := "fnTurns", unfollowed := true, recurses := true, apart := false, narrowed := true }
def FnTurnsUptoSaid : Prop := fnTurnsUptoRow.holds Try.pinned (OpenSpec.upto fnTurnsSpec)

/-- 'laws.FnPieces', WHERE WHAT IT READS IS OF BULK AT MOST 1048576: true; the input reads as it did. -/
def fnPiecesUptoRow : OpenClaim := { program := "ythgljdbfkojpeaa", sum := "575aa6cd9f34db6c884d3317c0a5313fac7f42e5f94c66c9701a27ea04f28631", func := "loop.example/g01166/laws.FnPieces", spec := "fnPieces", unfollowed := true, recurses := true, apart := false, narrowed := true }
def FnPiecesUptoSaid : Prop := fnPiecesUptoRow.holds Try.pinned (OpenSpec.upto fnPiecesSpec)

/-- 'laws.FnSights', WHERE WHAT IT READS IS OF BULK AT MOST 1048576: true; the input reads as it did. -/
def fnSightsUptoRow : OpenClaim := { program := "ythgljdbfkojpeaa", sum := "575aa6cd9f34db6c884d3317c0a5313fac7f42e5f94c66c9701a27ea04f28631", func := "loop.example/g01166/laws.FnSights", spec := "fnSights", unfollowed := true, recurses := true, apart := false, narrowed := true }
def FnSightsUptoSaid : Prop := fnSightsUptoRow.holds Try.pinned (OpenSpec.upto fnSightsSpec)

/-- 'laws.FnFalling', WHERE WHAT IT READS IS OF BULK AT MOST 1048576: true; the input reads as it did. -/
def fnFallingUptoRow : OpenClaim := { program := "ythgljdbfkojpeaa", sum := "575aa6cd9f34db6c884d3317c0a5313fac7f42e5f94c66c9701a27ea04f28631", func := "loop.example/g01166/laws.FnFalling", spec := "fnFalling", unfollowed := true, recurses := true, apart := false, narrowed := true }
def FnFallingUptoSaid : Prop := fnFallingUptoRow.holds Try.pinned (OpenSpec.upto fnFallingSpec)

/-- 'laws.FnHeapForms', WHERE WHAT IT READS IS OF BULK AT MOST 1048576: true; the input reads as it did. -/
def fnHeapFormsUptoRow : OpenClaim := { program := "ythgljdbfkojpeaa", sum := "575aa6cd9f34db6c884d3317c0a5313fac7f42e5f94c66c9701a27ea04f28631", func := "loop.example/g01166/laws.FnHeapForms", spec := "fnHeapForms", unfollowed := true, recurses := true, apart := false, narrowed := true }
def FnHeapFormsUptoSaid : Prop := fnHeapFormsUptoRow.holds Try.pinned (OpenSpec.upto fnHeapFormsSpec)

end Rows
end Go.Proofs.Ythgljdbfkojpeaa
