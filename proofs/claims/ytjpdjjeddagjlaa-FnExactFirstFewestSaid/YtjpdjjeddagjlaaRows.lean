/-
  No cell of these rows narrows 'for every input' (looked for: loops, veiled, ifaces, maps, wideKeys, modest, calm, conditions, laid).
  DERIVED. THE GIVEN ROWS OF THIS SEAT. 11 by the template 'for every input the law returns true; each argument reads behind the call as it read before'; 0 by the template 'total and deterministic' (their statements: YtjpdjjeddagjlaaTotals.lean).
  GIVEN WITH THE SEED: the statements are not yours to turn. If you find one false, say at which input.
  Laid BY PROGRAM, IN A SANDBOX (cutbox-rows.mjs): the forced cells as the released guide's own fill.sh prints them over the translation 0280e11ac4f9dad6… (all of the seat's roots in one cut). By AI agents, Wed Nov 11 2026. No macro, syntax, notation, axiom, sorry.
-/
import Derived.Test.YtjpdjjeddagjlaaChecked
import GoSem.Claim
import GoSem.ClaimJoined
import GoSem.ClaimMapViews
import Derived.JoinedTies
import Derived.KernelRfl
namespace Go.Proofs.Ytjpdjjeddagjlaa
/- THE CELL 'sum', in the pinned program and in every row, IS THE sha256 OF THE DUMP (.gsa) THAT YtjpdjjeddagjlaaProg.lean LOADS. Nothing in Lean hashes anything: it is a label: what it is worth is what the hold of that sum in a sandbox is worth. -/
noncomputable def Try.pinned : Pinned := { name := "ytjpdjjeddagjlaa", sum := "0280e11ac4f9dad61ce52a0b1de6c3ff7c133310789cc6a620f3e8d32dfd1e5e", checked := Try.checked }
namespace Rows
def none {H : Type} : Left H := { results := [], args := [] }

/-- 'laws.FnExactIsShadowOf': WHATEVER THE INPUT: true; the input reads as it did. -/
def fnExactIsShadowOfSpec : ChangeSpec := { name := "fnExactIsShadowOf", fn := fun _ => fun
  | [d1, d2] => { results := [.lit (.bool true)], args := [d1, d2] }
  | _ => none }
def fnExactIsShadowOfRow : OpenClaim := { program := "ytjpdjjeddagjlaa", sum := "0280e11ac4f9dad61ce52a0b1de6c3ff7c133310789cc6a620f3e8d32dfd1e5e", func := "loop.example/g01166/laws.FnExactIsShadowOf", spec := "fnExactIsShadowOf", apart := false }
def FnExactIsShadowOfSaid : Prop := fnExactIsShadowOfRow.holds Try.pinned (OpenSpec.ofChange fnExactIsShadowOfSpec)

/-- ITS FALSE NEIGHBOUR: 'it returns false'. Refute it at one input. -/
def fnExactIsShadowOfWrong : ChangeSpec := { name := "fnExactIsShadowOf", fn := fun _ => fun
  | [d1, d2] => { results := [.lit (.bool false)], args := [d1, d2] }
  | _ => none }
def FnExactIsShadowOfWrongFalsely : Prop := fnExactIsShadowOfRow.holds Try.pinned (OpenSpec.ofChange fnExactIsShadowOfWrong)

/-- 'laws.FnExactMustCells': WHATEVER THE INPUT: true; the input reads as it did. -/
def fnExactMustCellsSpec : ChangeSpec := { name := "fnExactMustCells", fn := fun _ => fun
  | [d] => { results := [.lit (.bool true)], args := [d] }
  | _ => none }
def fnExactMustCellsRow : OpenClaim := { program := "ytjpdjjeddagjlaa", sum := "0280e11ac4f9dad61ce52a0b1de6c3ff7c133310789cc6a620f3e8d32dfd1e5e", func := "loop.example/g01166/laws.FnExactMustCells", spec := "fnExactMustCells", unfollowed := true, recurses := true, apart := false }
def FnExactMustCellsSaid : Prop := fnExactMustCellsRow.holds Try.pinned (OpenSpec.ofChange fnExactMustCellsSpec)

/-- ITS FALSE NEIGHBOUR: 'it returns false'. Refute it at one input. -/
def fnExactMustCellsWrong : ChangeSpec := { name := "fnExactMustCells", fn := fun _ => fun
  | [d] => { results := [.lit (.bool false)], args := [d] }
  | _ => none }
def FnExactMustCellsWrongFalsely : Prop := fnExactMustCellsRow.holds Try.pinned (OpenSpec.ofChange fnExactMustCellsWrong)

/-- 'laws.FnExactSpareCells': WHATEVER THE INPUT: true; the input reads as it did. -/
def fnExactSpareCellsSpec : ChangeSpec := { name := "fnExactSpareCells", fn := fun _ => fun
  | [d] => { results := [.lit (.bool true)], args := [d] }
  | _ => none }
def fnExactSpareCellsRow : OpenClaim := { program := "ytjpdjjeddagjlaa", sum := "0280e11ac4f9dad61ce52a0b1de6c3ff7c133310789cc6a620f3e8d32dfd1e5e", func := "loop.example/g01166/laws.FnExactSpareCells", spec := "fnExactSpareCells", unfollowed := true, recurses := true, apart := false }
def FnExactSpareCellsSaid : Prop := fnExactSpareCellsRow.holds Try.pinned (OpenSpec.ofChange fnExactSpareCellsSpec)

/-- ITS FALSE NEIGHBOUR: 'it returns false'. Refute it at one input. -/
def fnExactSpareCellsWrong : ChangeSpec := { name := "fnExactSpareCells", fn := fun _ => fun
  | [d] => { results := [.lit (.bool false)], args := [d] }
  | _ => none }
def FnExactSpareCellsWrongFalsely : Prop := fnExactSpareCellsRow.holds Try.pinned (OpenSpec.ofChange fnExactSpareCellsWrong)

/-- 'laws.FnExactCountHeaps': WHATEVER THE INPUT: true; the input reads as it did. -/
def fnExactCountHeapsSpec : ChangeSpec := { name := "fnExactCountHeaps", fn := fun _ => fun
  | [d] => { results := [.lit (.bool true)], args := [d] }
  | _ => none }
def fnExactCountHeapsRow : OpenClaim := { program := "ytjpdjjeddagjlaa", sum := "0280e11ac4f9dad61ce52a0b1de6c3ff7c133310789cc6a620f3e8d32dfd1e5e", func := "loop.example/g01166/laws.FnExactCountHeaps", spec := "fnExactCountHeaps", unfollowed := true, recurses := true, apart := false }
def FnExactCountHeapsSaid : Prop := fnExactCountHeapsRow.holds Try.pinned (OpenSpec.ofChange fnExactCountHeapsSpec)

/-- ITS FALSE NEIGHBOUR: 'it returns false'. Refute it at one input. -/
def fnExactCountHeapsWrong : ChangeSpec := { name := "fnExactCountHeaps", fn := fun _ => fun
  | [d] => { results := [.lit (.bool false)], args := [d] }
  | _ => none }
def FnExactCountHeapsWrongFalsely : Prop := fnExactCountHeapsRow.holds Try.pinned (OpenSpec.ofChange fnExactCountHeapsWrong)

/-- 'laws.FnExactFewestCubes': WHATEVER THE INPUT: true; the input reads as it did. -/
def fnExactFewestCubesSpec : ChangeSpec := { name := "fnExactFewestCubes", fn := fun _ => fun
  | [d] => { results := [.lit (.bool true)], args := [d] }
  | _ => none }
def fnExactFewestCubesRow : OpenClaim := { program := "ytjpdjjeddagjlaa", sum := "0280e11ac4f9dad61ce52a0b1de6c3ff7c133310789cc6a620f3e8d32dfd1e5e", func := "loop.example/g01166/laws.FnExactFewestCubes", spec := "fnExactFewestCubes", unfollowed := true, recurses := true, apart := false }
def FnExactFewestCubesSaid : Prop := fnExactFewestCubesRow.holds Try.pinned (OpenSpec.ofChange fnExactFewestCubesSpec)

/-- ITS FALSE NEIGHBOUR: 'it returns false'. Refute it at one input. -/
def fnExactFewestCubesWrong : ChangeSpec := { name := "fnExactFewestCubes", fn := fun _ => fun
  | [d] => { results := [.lit (.bool false)], args := [d] }
  | _ => none }
def FnExactFewestCubesWrongFalsely : Prop := fnExactFewestCubesRow.holds Try.pinned (OpenSpec.ofChange fnExactFewestCubesWrong)

/-- 'laws.FnExactFirstFewest': WHATEVER THE INPUT: true; the input reads as it did. -/
def fnExactFirstFewestSpec : ChangeSpec := { name := "fnExactFirstFewest", fn := fun _ => fun
  | [d] => { results := [.lit (.bool true)], args := [d] }
  | _ => none }
def fnExactFirstFewestRow : OpenClaim := { program := "ytjpdjjeddagjlaa", sum := "0280e11ac4f9dad61ce52a0b1de6c3ff7c133310789cc6a620f3e8d32dfd1e5e", func := "loop.example/g01166/laws.FnExactFirstFewest", spec := "fnExactFirstFewest", unfollowed := true, recurses := true, apart := false }
def FnExactFirstFewestSaid : Prop := fnExactFirstFewestRow.holds Try.pinned (OpenSpec.ofChange fnExactFirstFewestSpec)

/-- ITS FALSE NEIGHBOUR: 'it returns false'. Refute it at one input. -/
def fnExactFirstFewestWrong : ChangeSpec := { name := "fnExactFirstFewest", fn := fun _ => fun
  | [d] => { results := [.lit (.bool false)], args := [d] }
  | _ => none }
def FnExactFirstFewestWrongFalsely : Prop := fnExactFirstFewestRow.holds Try.pinned (OpenSpec.ofChange fnExactFirstFewestWrong)

/-- 'laws.FnExactPositionsOf': WHATEVER THE INPUT: true; the input reads as it did. -/
def fnExactPositionsOfSpec : ChangeSpec := { name := "fnExactPositionsOf", fn := fun _ => fun
  | [d] => { results := [.lit (.bool true)], args := [d] }
  | _ => none }
def fnExactPositionsOfRow : OpenClaim := { program := "ytjpdjjeddagjlaa", sum := "0280e11ac4f9dad61ce52a0b1de6c3ff7c133310789cc6a620f3e8d32dfd1e5e", func := "loop.example/g01166/laws.FnExactPositionsOf", spec := "fnExactPositionsOf", unfollowed := true, recurses := true, apart := false }
def FnExactPositionsOfSaid : Prop := fnExactPositionsOfRow.holds Try.pinned (OpenSpec.ofChange fnExactPositionsOfSpec)

/-- ITS FALSE NEIGHBOUR: 'it returns false'. Refute it at one input. -/
def fnExactPositionsOfWrong : ChangeSpec := { name := "fnExactPositionsOf", fn := fun _ => fun
  | [d] => { results := [.lit (.bool false)], args := [d] }
  | _ => none }
def FnExactPositionsOfWrongFalsely : Prop := fnExactPositionsOfRow.holds Try.pinned (OpenSpec.ofChange fnExactPositionsOfWrong)

/-- 'laws.FnExactAreSameForm': WHATEVER THE INPUT: true; the input reads as it did. -/
def fnExactAreSameFormSpec : ChangeSpec := { name := "fnExactAreSameForm", fn := fun _ => fun
  | [d1, d2] => { results := [.lit (.bool true)], args := [d1, d2] }
  | _ => none }
def fnExactAreSameFormRow : OpenClaim := { program := "ytjpdjjeddagjlaa", sum := "0280e11ac4f9dad61ce52a0b1de6c3ff7c133310789cc6a620f3e8d32dfd1e5e", func := "loop.example/g01166/laws.FnExactAreSameForm", spec := "fnExactAreSameForm", unfollowed := true, recurses := true, apart := false }
def FnExactAreSameFormSaid : Prop := fnExactAreSameFormRow.holds Try.pinned (OpenSpec.ofChange fnExactAreSameFormSpec)

/-- ITS FALSE NEIGHBOUR: 'it returns false'. Refute it at one input. -/
def fnExactAreSameFormWrong : ChangeSpec := { name := "fnExactAreSameForm", fn := fun _ => fun
  | [d1, d2] => { results := [.lit (.bool false)], args := [d1, d2] }
  | _ => none }
def FnExactAreSameFormWrongFalsely : Prop := fnExactAreSameFormRow.holds Try.pinned (OpenSpec.ofChange fnExactAreSameFormWrong)

/-- 'laws.FnExactSymmetriesOf': WHATEVER THE INPUT: true; the input reads as it did. -/
def fnExactSymmetriesOfSpec : ChangeSpec := { name := "fnExactSymmetriesOf", fn := fun _ => fun
  | [d] => { results := [.lit (.bool true)], args := [d] }
  | _ => none }
def fnExactSymmetriesOfRow : OpenClaim := { program := "ytjpdjjeddagjlaa", sum := "0280e11ac4f9dad61ce52a0b1de6c3ff7c133310789cc6a620f3e8d32dfd1e5e", func := "loop.example/g01166/laws.FnExactSymmetriesOf", spec := "fnExactSymmetriesOf", unfollowed := true, recurses := true, apart := false }
def FnExactSymmetriesOfSaid : Prop := fnExactSymmetriesOfRow.holds Try.pinned (OpenSpec.ofChange fnExactSymmetriesOfSpec)

/-- ITS FALSE NEIGHBOUR: 'it returns false'. Refute it at one input. -/
def fnExactSymmetriesOfWrong : ChangeSpec := { name := "fnExactSymmetriesOf", fn := fun _ => fun
  | [d] => { results := [.lit (.bool false)], args := [d] }
  | _ => none }
def FnExactSymmetriesOfWrongFalsely : Prop := fnExactSymmetriesOfRow.holds Try.pinned (OpenSpec.ofChange fnExactSymmetriesOfWrong)

/-- 'laws.FnExactFirstForm': WHATEVER THE INPUT: true; the input reads as it did. -/
def fnExactFirstFormSpec : ChangeSpec := { name := "fnExactFirstForm", fn := fun _ => fun
  | [d] => { results := [.lit (.bool true)], args := [d] }
  | _ => none }
def fnExactFirstFormRow : OpenClaim := { program := "ytjpdjjeddagjlaa", sum := "0280e11ac4f9dad61ce52a0b1de6c3ff7c133310789cc6a620f3e8d32dfd1e5e", func := "loop.example/g01166/laws.FnExactFirstForm", spec := "fnExactFirstForm", unfollowed := true, recurses := true, apart := false }
def FnExactFirstFormSaid : Prop := fnExactFirstFormRow.holds Try.pinned (OpenSpec.ofChange fnExactFirstFormSpec)

/-- ITS FALSE NEIGHBOUR: 'it returns false'. Refute it at one input. -/
def fnExactFirstFormWrong : ChangeSpec := { name := "fnExactFirstForm", fn := fun _ => fun
  | [d] => { results := [.lit (.bool false)], args := [d] }
  | _ => none }
def FnExactFirstFormWrongFalsely : Prop := fnExactFirstFormRow.holds Try.pinned (OpenSpec.ofChange fnExactFirstFormWrong)

/-- 'laws.FnExactIsHanded': WHATEVER THE INPUT: true; the input reads as it did. -/
def fnExactIsHandedSpec : ChangeSpec := { name := "fnExactIsHanded", fn := fun _ => fun
  | [d] => { results := [.lit (.bool true)], args := [d] }
  | _ => none }
def fnExactIsHandedRow : OpenClaim := { program := "ytjpdjjeddagjlaa", sum := "0280e11ac4f9dad61ce52a0b1de6c3ff7c133310789cc6a620f3e8d32dfd1e5e", func := "loop.example/g01166/laws.FnExactIsHanded", spec := "fnExactIsHanded", unfollowed := true, recurses := true, apart := false }
def FnExactIsHandedSaid : Prop := fnExactIsHandedRow.holds Try.pinned (OpenSpec.ofChange fnExactIsHandedSpec)

/-- ITS FALSE NEIGHBOUR: 'it returns false'. Refute it at one input. -/
def fnExactIsHandedWrong : ChangeSpec := { name := "fnExactIsHanded", fn := fun _ => fun
  | [d] => { results := [.lit (.bool false)], args := [d] }
  | _ => none }
def FnExactIsHandedWrongFalsely : Prop := fnExactIsHandedRow.holds Try.pinned (OpenSpec.ofChange fnExactIsHandedWrong)

/- THE SECOND FORM. 'bulk': how many values and letters a reading holds, each counted each time it is reached (what is shared counts as often as it is met; a slice's spare places count too). A statement '..UptoSaid' is the law's where the arguments, and the package variables that the reading takes, are together of bulk at most 1048576: NARROWER than '..Said'. Prove '..Said' where nothing that the law and all that it calls make is longer than what came in: it says more and counts as full. Else prove '..UptoSaid'. A law counts once. -/
mutual
def uptoBulk {H : Type} : DataW H → Nat
  | .lit (.string bytes) => bytes.length + 1
  | .lit _ => 1
  | .nil => 1
  | .ptr d => uptoBulk d + 1
  | .slice elems spare => uptoBulkAll elems + uptoBulkAll spare + 1
  | .agg parts => uptoBulkAll parts + 1
  | .iface _ d => uptoBulk d + 1
  | .map entries => uptoBulkEntries entries + 1
  | .held _ => 1
def uptoBulkAll {H : Type} : List (DataW H) → Nat
  | [] => 0
  | d :: r => uptoBulk d + uptoBulkAll r
def uptoBulkEntries {H : Type} : List (Lit × DataW H) → Nat
  | [] => 0
  | x :: r => uptoBulkEntry x + uptoBulkEntries r
def uptoBulkEntry {H : Type} : Lit × DataW H → Nat
  | (.string bytes, d) => bytes.length + uptoBulk d + 1
  | (_, d) => uptoBulk d + 1
 end
def uptoSmall : (H : Type) → List (DataW H) → Bool := fun _ ds => decide (uptoBulkAll ds ≤ 1048576)
def OpenSpec.upto (s : _root_.Go.ChangeSpec) : _root_.Go.OpenSpec := { _root_.Go.OpenSpec.ofChange s with cond := some uptoSmall }

/-- 'laws.FnExactIsShadowOf', WHERE WHAT IT READS IS OF BULK AT MOST 1048576: true; the input reads as it did. -/
def fnExactIsShadowOfUptoRow : OpenClaim := { program := "ytjpdjjeddagjlaa", sum := "0280e11ac4f9dad61ce52a0b1de6c3ff7c133310789cc6a620f3e8d32dfd1e5e", func := "loop.example/g01166/laws.FnExactIsShadowOf", spec := "fnExactIsShadowOf", apart := false, narrowed := true }
def FnExactIsShadowOfUptoSaid : Prop := fnExactIsShadowOfUptoRow.holds Try.pinned (OpenSpec.upto fnExactIsShadowOfSpec)

/-- 'laws.FnExactMustCells', WHERE WHAT IT READS IS OF BULK AT MOST 1048576: true; the input reads as it did. -/
def fnExactMustCellsUptoRow : OpenClaim := { program := "ytjpdjjeddagjlaa", sum := "0280e11ac4f9dad61ce52a0b1de6c3ff7c133310789cc6a620f3e8d32dfd1e5e", func := "loop.example/g01166/laws.FnExactMustCells", spec := "fnExactMustCells", unfollowed := true, recurses := true, apart := false, narrowed := true }
def FnExactMustCellsUptoSaid : Prop := fnExactMustCellsUptoRow.holds Try.pinned (OpenSpec.upto fnExactMustCellsSpec)

/-- 'laws.FnExactSpareCells', WHERE WHAT IT READS IS OF BULK AT MOST 1048576: true; the input reads as it did. -/
def fnExactSpareCellsUptoRow : OpenClaim := { program := "ytjpdjjeddagjlaa", sum := "0280e11ac4f9dad61ce52a0b1de6c3ff7c133310789cc6a620f3e8d32dfd1e5e", func := "loop.example/g01166/laws.FnExactSpareCells", spec := "fnExactSpareCells", unfollowed := true, recurses := true, apart := false, narrowed := true }
def FnExactSpareCellsUptoSaid : Prop := fnExactSpareCellsUptoRow.holds Try.pinned (OpenSpec.upto fnExactSpareCellsSpec)

/-- 'laws.FnExactCountHeaps', WHERE WHAT IT READS IS OF BULK AT MOST 1048576: true; the input reads as it did. -/
def fnExactCountHeapsUptoRow : OpenClaim := { program := "ytjpdjjeddagjlaa", sum := "0280e11ac4f9dad61ce52a0b1de6c3ff7c133310789cc6a620f3e8d32dfd1e5e", func := "loop.example/g01166/laws.FnExactCountHeaps", spec := "fnExactCountHeaps", unfollowed := true, recurses := true, apart := false, narrowed := true }
def FnExactCountHeapsUptoSaid : Prop := fnExactCountHeapsUptoRow.holds Try.pinned (OpenSpec.upto fnExactCountHeapsSpec)

/-- 'laws.FnExactFewestCubes', WHERE WHAT IT READS IS OF BULK AT MOST 1048576: true; the input reads as it did. -/
def fnExactFewestCubesUptoRow : OpenClaim := { program := "ytjpdjjeddagjlaa", sum := "0280e11ac4f9dad61ce52a0b1de6c3ff7c133310789cc6a620f3e8d32dfd1e5e", func := "loop.example/g01166/laws.FnExactFewestCubes", spec := "fnExactFewestCubes", unfollowed := true, recurses := true, apart := false, narrowed := true }
def FnExactFewestCubesUptoSaid : Prop := fnExactFewestCubesUptoRow.holds Try.pinned (OpenSpec.upto fnExactFewestCubesSpec)

/-- 'laws.FnExactFirstFewest', WHERE WHAT IT READS IS OF BULK AT MOST 1048576: true; the input reads as it did. -/
def fnExactFirstFewestUptoRow : OpenClaim := { program := "ytjpdjjeddagjlaa", sum := "0280e11ac4f9dad61ce52a0b1de6c3ff7c133310789cc6a620f3e8d32dfd1e5e", func := "loop.example/g01166/laws.FnExactFirstFewest", spec := "fnExactFirstFewest", unfollowed := true, recurses := true, apart := false, narrowed := true }
def FnExactFirstFewestUptoSaid : Prop := fnExactFirstFewestUptoRow.holds Try.pinned (OpenSpec.upto fnExactFirstFewestSpec)

/-- 'laws.FnExactPositionsOf', WHERE WHAT IT READS IS OF BULK AT MOST 1048576: true; the input reads as it did. -/
def fnExactPositionsOfUptoRow : OpenClaim := { program := "ytjpdjjeddagjlaa", sum := "0280e11ac4f9dad61ce52a0b1de6c3ff7c133310789cc6a620f3e8d32dfd1e5e", func := "loop.example/g01166/laws.FnExactPositionsOf", spec := "fnExactPositionsOf", unfollowed := true, recurses := true, apart := false, narrowed := true }
def FnExactPositionsOfUptoSaid : Prop := fnExactPositionsOfUptoRow.holds Try.pinned (OpenSpec.upto fnExactPositionsOfSpec)

/-- 'laws.FnExactAreSameForm', WHERE WHAT IT READS IS OF BULK AT MOST 1048576: true; the input reads as it did. -/
def fnExactAreSameFormUptoRow : OpenClaim := { program := "ytjpdjjeddagjlaa", sum := "0280e11ac4f9dad61ce52a0b1de6c3ff7c133310789cc6a620f3e8d32dfd1e5e", func := "loop.example/g01166/laws.FnExactAreSameForm", spec := "fnExactAreSameForm", unfollowed := true, recurses := true, apart := false, narrowed := true }
def FnExactAreSameFormUptoSaid : Prop := fnExactAreSameFormUptoRow.holds Try.pinned (OpenSpec.upto fnExactAreSameFormSpec)

/-- 'laws.FnExactSymmetriesOf', WHERE WHAT IT READS IS OF BULK AT MOST 1048576: true; the input reads as it did. -/
def fnExactSymmetriesOfUptoRow : OpenClaim := { program := "ytjpdjjeddagjlaa", sum := "0280e11ac4f9dad61ce52a0b1de6c3ff7c133310789cc6a620f3e8d32dfd1e5e", func := "loop.example/g01166/laws.FnExactSymmetriesOf", spec := "fnExactSymmetriesOf", unfollowed := true, recurses := true, apart := false, narrowed := true }
def FnExactSymmetriesOfUptoSaid : Prop := fnExactSymmetriesOfUptoRow.holds Try.pinned (OpenSpec.upto fnExactSymmetriesOfSpec)

/-- 'laws.FnExactFirstForm', WHERE WHAT IT READS IS OF BULK AT MOST 1048576: true; the input reads as it did. -/
def fnExactFirstFormUptoRow : OpenClaim := { program := "ytjpdjjeddagjlaa", sum := "0280e11ac4f9dad61ce52a0b1de6c3ff7c133310789cc6a620f3e8d32dfd1e5e", func := "loop.example/g01166/laws.FnExactFirstForm", spec := "fnExactFirstForm", unfollowed := true, recurses := true, apart := false, narrowed := true }
def FnExactFirstFormUptoSaid : Prop := fnExactFirstFormUptoRow.holds Try.pinned (OpenSpec.upto fnExactFirstFormSpec)

/-- 'laws.FnExactIsHanded', WHERE WHAT IT READS IS OF BULK AT MOST 1048576: true; the input reads as it did. -/
def fnExactIsHandedUptoRow : OpenClaim := { program := "ytjpdjjeddagjlaa", sum := "0280e11ac4f9dad61ce52a0b1de6c3ff7c133310789cc6a620f3e8d32dfd1e5e", func := "loop.example/g01166/laws.FnExactIsHanded", spec := "fnExactIsHanded", unfollowed := true, recurses := true, apart := false, narrowed := true }
def FnExactIsHandedUptoSaid : Prop := fnExactIsHandedUptoRow.holds Try.pinned (OpenSpec.upto fnExactIsHandedSpec)

end Rows
end Go.Proofs.Ytjpdjjeddagjlaa
