/-
  No cell of these rows narrows 'for every input' (looked for: loops, veiled, ifaces, maps, wideKeys, modest, calm, conditions, laid).
  DERIVED. THE GIVEN ROWS OF THIS SEAT. 8 by the template 'for every input the law returns true; each argument reads behind the call as it read before'; 0 by the template 'total and deterministic' (their statements: YtggnfklcgopflaaTotals.lean).
  GIVEN WITH THE SEED: the statements are not yours to turn. If you find one false, say at which input.
  Laid BY PROGRAM, IN A SANDBOX (cutbox-rows.mjs): the forced cells as the released guide's own fill.sh prints them over the translation 5ab830091b4ee530… (all of the seat's roots in one cut). By AI agents, Wed Nov 11 2026. No macro, syntax, notation, axiom, sorry.
-/
import Derived.Test.YtggnfklcgopflaaChecked
import GoSem.Claim
import GoSem.ClaimJoined
import GoSem.ClaimMapViews
import Derived.JoinedTies
import Derived.KernelRfl
namespace Go.Proofs.Ytggnfklcgopflaa
/- THE CELL 'sum', in the pinned program and in every row, IS THE sha256 OF THE DUMP (.gsa) THAT YtggnfklcgopflaaProg.lean LOADS. Nothing in Lean hashes anything: it is a label: what it is worth is what the hold of that sum in a sandbox is worth. -/
noncomputable def Try.pinned : Pinned := { name := "ytggnfklcgopflaa", sum := "5ab830091b4ee5305a53f4c7c707ffecf343a4810a462080fa28bcdd54b915c7", checked := Try.checked }
namespace Rows
def none {H : Type} : Left H := { results := [], args := [] }

/-- 'laws.FnStairOrders': WHATEVER THE INPUT: true; the input reads as it did. -/
def fnStairOrdersSpec : ChangeSpec := { name := "fnStairOrders", fn := fun _ => fun
  | [d] => { results := [.lit (.bool true)], args := [d] }
  | _ => none }
def fnStairOrdersRow : OpenClaim := { program := "ytggnfklcgopflaa", sum := "5ab830091b4ee5305a53f4c7c707ffecf343a4810a462080fa28bcdd54b915c7", func := "loop.example/g01166/laws.FnStairOrders", spec := "fnStairOrders", unfollowed := true, recurses := true, plainKeys := false, apart := false }
def FnStairOrdersSaid : Prop := fnStairOrdersRow.holds Try.pinned (OpenSpec.ofChange fnStairOrdersSpec)

/-- ITS FALSE NEIGHBOUR: 'it returns false'. Refute it at one input. -/
def fnStairOrdersWrong : ChangeSpec := { name := "fnStairOrders", fn := fun _ => fun
  | [d] => { results := [.lit (.bool false)], args := [d] }
  | _ => none }
def FnStairOrdersWrongFalsely : Prop := fnStairOrdersRow.holds Try.pinned (OpenSpec.ofChange fnStairOrdersWrong)

/-- 'laws.FnHoles': WHATEVER THE INPUT: true; the input reads as it did. -/
def fnHolesSpec : ChangeSpec := { name := "fnHoles", fn := fun _ => fun
  | [d] => { results := [.lit (.bool true)], args := [d] }
  | _ => none }
def fnHolesRow : OpenClaim := { program := "ytggnfklcgopflaa", sum := "5ab830091b4ee5305a53f4c7c707ffecf343a4810a462080fa28bcdd54b915c7", func := "loop.example/g01166/laws.FnHoles", spec := "fnHoles", unfollowed := true, recurses := true, plainKeys := false, apart := false }
def FnHolesSaid : Prop := fnHolesRow.holds Try.pinned (OpenSpec.ofChange fnHolesSpec)

/-- ITS FALSE NEIGHBOUR: 'it returns false'. Refute it at one input. -/
def fnHolesWrong : ChangeSpec := { name := "fnHoles", fn := fun _ => fun
  | [d] => { results := [.lit (.bool false)], args := [d] }
  | _ => none }
def FnHolesWrongFalsely : Prop := fnHolesRow.holds Try.pinned (OpenSpec.ofChange fnHolesWrong)

/-- 'laws.FnDominoes': WHATEVER THE INPUT: true; the input reads as it did. -/
def fnDominoesSpec : ChangeSpec := { name := "fnDominoes", fn := fun _ => fun
  | [d] => { results := [.lit (.bool true)], args := [d] }
  | _ => none }
def fnDominoesRow : OpenClaim := { program := "ytggnfklcgopflaa", sum := "5ab830091b4ee5305a53f4c7c707ffecf343a4810a462080fa28bcdd54b915c7", func := "loop.example/g01166/laws.FnDominoes", spec := "fnDominoes", unfollowed := true, recurses := true, plainKeys := false, apart := false }
def FnDominoesSaid : Prop := fnDominoesRow.holds Try.pinned (OpenSpec.ofChange fnDominoesSpec)

/-- ITS FALSE NEIGHBOUR: 'it returns false'. Refute it at one input. -/
def fnDominoesWrong : ChangeSpec := { name := "fnDominoes", fn := fun _ => fun
  | [d] => { results := [.lit (.bool false)], args := [d] }
  | _ => none }
def FnDominoesWrongFalsely : Prop := fnDominoesRow.holds Try.pinned (OpenSpec.ofChange fnDominoesWrong)

/-- 'laws.FnTables': WHATEVER THE INPUT: true; the input reads as it did. -/
def fnTablesSpec : ChangeSpec := { name := "fnTables", fn := fun _ => fun
  | [d] => { results := [.lit (.bool true)], args := [d] }
  | _ => none }
def fnTablesRow : OpenClaim := { program := "ytggnfklcgopflaa", sum := "5ab830091b4ee5305a53f4c7c707ffecf343a4810a462080fa28bcdd54b915c7", func := "loop.example/g01166/laws.FnTables", spec := "fnTables", unfollowed := true, recurses := true, plainKeys := false, apart := false }
def FnTablesSaid : Prop := fnTablesRow.holds Try.pinned (OpenSpec.ofChange fnTablesSpec)

/-- ITS FALSE NEIGHBOUR: 'it returns false'. Refute it at one input. -/
def fnTablesWrong : ChangeSpec := { name := "fnTables", fn := fun _ => fun
  | [d] => { results := [.lit (.bool false)], args := [d] }
  | _ => none }
def FnTablesWrongFalsely : Prop := fnTablesRow.holds Try.pinned (OpenSpec.ofChange fnTablesWrong)

/-- 'laws.FnStairCounts': WHATEVER THE INPUT: true; the input reads as it did. -/
def fnStairCountsSpec : ChangeSpec := { name := "fnStairCounts", fn := fun _ => fun
  | [d] => { results := [.lit (.bool true)], args := [d] }
  | _ => none }
def fnStairCountsRow : OpenClaim := { program := "ytggnfklcgopflaa", sum := "5ab830091b4ee5305a53f4c7c707ffecf343a4810a462080fa28bcdd54b915c7", func := "loop.example/g01166/laws.FnStairCounts", spec := "fnStairCounts", unfollowed := true, recurses := true, plainKeys := false, apart := false }
def FnStairCountsSaid : Prop := fnStairCountsRow.holds Try.pinned (OpenSpec.ofChange fnStairCountsSpec)

/-- ITS FALSE NEIGHBOUR: 'it returns false'. Refute it at one input. -/
def fnStairCountsWrong : ChangeSpec := { name := "fnStairCounts", fn := fun _ => fun
  | [d] => { results := [.lit (.bool false)], args := [d] }
  | _ => none }
def FnStairCountsWrongFalsely : Prop := fnStairCountsRow.holds Try.pinned (OpenSpec.ofChange fnStairCountsWrong)

/-- 'laws.FnExactRankStair': WHATEVER THE INPUT: true; the input reads as it did. -/
def fnExactRankStairSpec : ChangeSpec := { name := "fnExactRankStair", fn := fun _ => fun
  | [d] => { results := [.lit (.bool true)], args := [d] }
  | _ => none }
def fnExactRankStairRow : OpenClaim := { program := "ytggnfklcgopflaa", sum := "5ab830091b4ee5305a53f4c7c707ffecf343a4810a462080fa28bcdd54b915c7", func := "loop.example/g01166/laws.FnExactRankStair", spec := "fnExactRankStair", unfollowed := true, recurses := true, plainKeys := false, apart := false }
def FnExactRankStairSaid : Prop := fnExactRankStairRow.holds Try.pinned (OpenSpec.ofChange fnExactRankStairSpec)

/-- ITS FALSE NEIGHBOUR: 'it returns false'. Refute it at one input. -/
def fnExactRankStairWrong : ChangeSpec := { name := "fnExactRankStair", fn := fun _ => fun
  | [d] => { results := [.lit (.bool false)], args := [d] }
  | _ => none }
def FnExactRankStairWrongFalsely : Prop := fnExactRankStairRow.holds Try.pinned (OpenSpec.ofChange fnExactRankStairWrong)

/-- 'laws.FnExactFirstAlike': WHATEVER THE INPUT: true; the input reads as it did. -/
def fnExactFirstAlikeSpec : ChangeSpec := { name := "fnExactFirstAlike", fn := fun _ => fun
  | [d1, d2, d3] => { results := [.lit (.bool true)], args := [d1, d2, d3] }
  | _ => none }
def fnExactFirstAlikeRow : OpenClaim := { program := "ytggnfklcgopflaa", sum := "5ab830091b4ee5305a53f4c7c707ffecf343a4810a462080fa28bcdd54b915c7", func := "loop.example/g01166/laws.FnExactFirstAlike", spec := "fnExactFirstAlike", unfollowed := true, recurses := true, plainKeys := false, apart := false }
def FnExactFirstAlikeSaid : Prop := fnExactFirstAlikeRow.holds Try.pinned (OpenSpec.ofChange fnExactFirstAlikeSpec)

/-- ITS FALSE NEIGHBOUR: 'it returns false'. Refute it at one input. -/
def fnExactFirstAlikeWrong : ChangeSpec := { name := "fnExactFirstAlike", fn := fun _ => fun
  | [d1, d2, d3] => { results := [.lit (.bool false)], args := [d1, d2, d3] }
  | _ => none }
def FnExactFirstAlikeWrongFalsely : Prop := fnExactFirstAlikeRow.holds Try.pinned (OpenSpec.ofChange fnExactFirstAlikeWrong)

/-- 'laws.FnExactFewestSwitches': WHATEVER THE INPUT: true; the input reads as it did. -/
def fnExactFewestSwitchesSpec : ChangeSpec := { name := "fnExactFewestSwitches", fn := fun _ => fun
  | [d1, d2, d3, d4] => { results := [.lit (.bool true)], args := [d1, d2, d3, d4] }
  | _ => none }
def fnExactFewestSwitchesRow : OpenClaim := { program := "ytggnfklcgopflaa", sum := "5ab830091b4ee5305a53f4c7c707ffecf343a4810a462080fa28bcdd54b915c7", func := "loop.example/g01166/laws.FnExactFewestSwitches", spec := "fnExactFewestSwitches", unfollowed := true, recurses := true, plainKeys := false, apart := false }
def FnExactFewestSwitchesSaid : Prop := fnExactFewestSwitchesRow.holds Try.pinned (OpenSpec.ofChange fnExactFewestSwitchesSpec)

/-- ITS FALSE NEIGHBOUR: 'it returns false'. Refute it at one input. -/
def fnExactFewestSwitchesWrong : ChangeSpec := { name := "fnExactFewestSwitches", fn := fun _ => fun
  | [d1, d2, d3, d4] => { results := [.lit (.bool false)], args := [d1, d2, d3, d4] }
  | _ => none }
def FnExactFewestSwitchesWrongFalsely : Prop := fnExactFewestSwitchesRow.holds Try.pinned (OpenSpec.ofChange fnExactFewestSwitchesWrong)

/- THE SECOND FORM. 'bulk': how many values and letters a reading holds, each counted each time it is reached (what is shared counts as often as it is met; a slice's spare places count too). A statement '..UptoSaid' is the law's where the arguments, and the package variables that the reading takes, are together of bulk at most 1048576: NARROWER than '..Said'. Prove '..Said' where nothing that the law and all that it calls make is longer than what came in: it says more and counts as full. Else prove '..UptoSaid'. A law counts once. -/
mutual
def uptoBulk {H : Type} : DataW H → Nat
  | .lit (.string bytes) => bytes.length + 1
  | .lit _ => 1
  | .nil => 1
  | .ptr d => uptoBulk d + 1
  | .slice elems spare => uptoBulkAll elems + uptoBulkAll spare + 1
  | .agg parts => uptoBulkAll parts + 1
  | .iface _ d => uptoBulk d + 1
  | .map entries => uptoBulkEntries entries + 1
  | .held _ => 1
def uptoBulkAll {H : Type} : List (DataW H) → Nat
  | [] => 0
  | d :: r => uptoBulk d + uptoBulkAll r
def uptoBulkEntries {H : Type} : List (Lit × DataW H) → Nat
  | [] => 0
  | x :: r => uptoBulkEntry x + uptoBulkEntries r
def uptoBulkEntry {H : Type} : Lit × DataW H → Nat
  | (.string bytes, d) => bytes.length + uptoBulk d + 1
  | (_, d) => uptoBulk d + 1
 end
def uptoSmall : (H : Type) → List (DataW H) → Bool := fun _ ds => decide (uptoBulkAll ds ≤ 1048576)
def OpenSpec.upto (s : _root_.Go.ChangeSpec) : _root_.Go.OpenSpec := { _root_.Go.OpenSpec.ofChange s with cond := some uptoSmall }

/-- 'laws.FnStairOrders', WHERE WHAT IT READS IS OF BULK AT MOST 1048576: true; the input reads as it did. -/
def fnStairOrdersUptoRow : OpenClaim := { program := "ytggnfklcgopflaa", sum := "5ab830091b4ee5305a53f4c7c707ffecf343a4810a462080fa28bcdd54b915c7", func := "loop.example/g01166/laws.FnStairOrders", spec := "fnStairOrders", unfollowed := true, recurses := true, plainKeys := false, apart := false, narrowed := true }
def FnStairOrdersUptoSaid : Prop := fnStairOrdersUptoRow.holds Try.pinned (OpenSpec.upto fnStairOrdersSpec)

/-- 'laws.FnHoles', WHERE WHAT IT READS IS OF BULK AT MOST 1048576: true; the input reads as it did. -/
def fnHolesUptoRow : OpenClaim := { program := "ytggnfklcgopflaa", sum := "5ab830091b4ee5305a53f4c7c707ffecf343a4810a462080fa28bcdd54b915c7", func := "loop.example/g01166/laws.FnHoles", spec := "fnHoles", unfollowed := true, recurses := true, plainKeys := false, apart := false, narrowed := true }
def FnHolesUptoSaid : Prop := fnHolesUptoRow.holds Try.pinned (OpenSpec.upto fnHolesSpec)

/-- 'laws.FnDominoes', WHERE WHAT IT READS IS OF BULK AT MOST 1048576: true; the input reads as it did. -/
def fnDominoesUptoRow : OpenClaim := { program := "ytggnfklcgopflaa", sum := "5ab830091b4ee5305a53f4c7c707ffecf343a4810a462080fa28bcdd54b915c7", func := "loop.example/g01166/laws.FnDominoes", spec := "fnDominoes", unfollowed := true, recurses := true, plainKeys := false, apart := false, narrowed := true }
def FnDominoesUptoSaid : Prop := fnDominoesUptoRow.holds Try.pinned (OpenSpec.upto fnDominoesSpec)

/-- 'laws.FnTables', WHERE WHAT IT READS IS OF BULK AT MOST 1048576: true; the input reads as it did. -/
def fnTablesUptoRow : OpenClaim := { program := "ytggnfklcgopflaa", sum := "5ab830091b4ee5305a53f4c7c707ffecf343a4810a462080fa28bcdd54b915c7", func := "loop.example/g01166/laws.FnTables", spec := "fnTables", unfollowed := true, recurses := true, plainKeys := false, apart := false, narrowed := true }
def FnTablesUptoSaid : Prop := fnTablesUptoRow.holds Try.pinned (OpenSpec.upto fnTablesSpec)

/-- 'laws.FnStairCounts', WHERE WHAT IT READS IS OF BULK AT MOST 1048576: true; the input reads as it did. -/
def fnStairCountsUptoRow : OpenClaim := { program := "ytggnfklcgopflaa", sum := "5ab830091b4ee5305a53f4c7c707ffecf343a4810a462080fa28bcdd54b915c7", func := "loop.example/g01166/laws.FnStairCounts", spec := "fnStairCounts", unfollowed := true, recurses := true, plainKeys := false, apart := false, narrowed := true }
def FnStairCountsUptoSaid : Prop := fnStairCountsUptoRow.holds Try.pinned (OpenSpec.upto fnStairCountsSpec)

/-- 'laws.FnExactRankStair', WHERE WHAT IT READS IS OF BULK AT MOST 1048576: true; the input reads as it did. -/
def fnExactRankStairUptoRow : OpenClaim := { program := "ytggnfklcgopflaa", sum := "5ab830091b4ee5305a53f4c7c707ffecf343a4810a462080fa28bcdd54b915c7", func := "loop.example/g01166/laws.FnExactRankStair", spec := "fnExactRankStair", unfollowed := true, recurses := true, plainKeys := false, apart := false, narrowed := true }
def FnExactRankStairUptoSaid : Prop := fnExactRankStairUptoRow.holds Try.pinned (OpenSpec.upto fnExactRankStairSpec)

/-- 'laws.FnExactFirstAlike', WHERE WHAT IT READS IS OF BULK AT MOST 1048576: true; the input reads as it did. -/
def fnExactFirstAlikeUptoRow : OpenClaim := { program := "ytggnfklcgopflaa", sum := "5ab830091b4ee5305a53f4c7c707ffecf343a4810a462080fa28bcdd54b915c7", func := "loop.example/g01166/laws.FnExactFirstAlike", spec := "fnExactFirstAlike", unfollowed := true, recurses := true, plainKeys := false, apart := false, narrowed := true }
def FnExactFirstAlikeUptoSaid : Prop := fnExactFirstAlikeUptoRow.holds Try.pinned (OpenSpec.upto fnExactFirstAlikeSpec)

/-- 'laws.FnExactFewestSwitches', WHERE WHAT IT READS IS OF BULK AT MOST 1048576: true; the input reads as it did. -/
def fnExactFewestSwitchesUptoRow : OpenClaim := { program := "ytggnfklcgopflaa", sum := "5ab830091b4ee5305a53f4c7c707ffecf343a4810a462080fa28bcdd54b915c7", func := "loop.example/g01166/laws.FnExactFewestSwitches", spec := "fnExactFewestSwitches", unfollowed := true, recurses := true, plainKeys := false, apart := false, narrowed := true }
def FnExactFewestSwitchesUptoSaid : Prop := fnExactFewestSwitchesUptoRow.holds Try.pinned (OpenSpec.upto fnExactFewestSwitchesSpec)

end Rows
end Go.Proofs.Ytggnfklcgopflaa
