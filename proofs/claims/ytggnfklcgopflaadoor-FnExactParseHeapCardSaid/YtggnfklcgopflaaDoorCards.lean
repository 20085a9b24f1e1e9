/-
  DERIVED. GIVEN WITH THE SEED: THE CARDS: each row of YtggnfklcgopflaaDoorRows.lean that lists a variable, with what it lists TIED to the program's text (the seventh form; the later family's looks); each row that meets fmt, with fmt's text TOLD by the authors' own Lean function (tested against real Go, not proved from fmt's source: count such statements apart). THE CARD IS WHAT COUNTS. Prove the row's statement (the work); the ties are given (YtggnfklcgopflaaDoorTie.lean); close each card by the builder's one call (the guide's Derived/Test/ToyasCard.lean, 'card_holds'). Laid BY PROGRAM, IN A SANDBOX (cutbox-door.mjs). By AI agents, Wed Nov 11 2026. No macro, syntax, notation, axiom, sorry.
-/
import Derived.Test.YtggnfklcgopflaaDoorRows
import GoSem.ClaimSeven
namespace Go.Proofs.YtggnfklcgopflaaDoor
namespace Rows

/-- THE TIED CARD OF 'laws.FnExactHeapText'. -/
def fnExactHeapTextCard : Claim7 := { stood := { row := fnExactHeapTextRow, standIns := [], harness := (true, "57d4c422bb3050a03478c7257890687235b1dc3e1242363979465d60aa6e67ee"), looks := false }, kinds := [], alts := [], laidByText := true, laidKinds := [.data, .data, .data], laidTests := true, laidLooks := .later }
def FnExactHeapTextCardSaid : Prop := Claim7.holds Tryd.pinned (.plain (OpenSpec.ofChange fnExactHeapTextSpec)) fnExactHeapTextCard

/-- THE TIED CARD OF 'laws.FnExactParseHeap'. -/
def fnExactParseHeapCard : Claim7 := { stood := { row := fnExactParseHeapRow, standIns := [], harness := (true, "57d4c422bb3050a03478c7257890687235b1dc3e1242363979465d60aa6e67ee"), looks := false }, kinds := [], alts := [], laidByText := true, laidKinds := [.data, .data, .data, .data, .pinned], laidTests := true, laidLooks := .later }
def FnExactParseHeapCardSaid : Prop := Claim7.holds Tryd.pinned (.plain (OpenSpec.ofChange fnExactParseHeapSpec)) fnExactParseHeapCard

/-- THE SECOND FORM's CARD OF 'laws.FnExactHeapText'. -/
def fnExactHeapTextUptoCard : Claim7 := { stood := { row := fnExactHeapTextUptoRow, standIns := [], harness := (true, "57d4c422bb3050a03478c7257890687235b1dc3e1242363979465d60aa6e67ee"), looks := false }, kinds := [], alts := [], laidByText := true, laidKinds := [.data, .data, .data], laidTests := true, laidLooks := .later }
def FnExactHeapTextUptoCardSaid : Prop := Claim7.holds Tryd.pinned (.plain (OpenSpec.upto fnExactHeapTextSpec)) fnExactHeapTextUptoCard

/-- THE SECOND FORM's CARD OF 'laws.FnExactParseHeap'. -/
def fnExactParseHeapUptoCard : Claim7 := { stood := { row := fnExactParseHeapUptoRow, standIns := [], harness := (true, "57d4c422bb3050a03478c7257890687235b1dc3e1242363979465d60aa6e67ee"), looks := false }, kinds := [], alts := [], laidByText := true, laidKinds := [.data, .data, .data, .data, .pinned], laidTests := true, laidLooks := .later }
def FnExactParseHeapUptoCardSaid : Prop := Claim7.holds Tryd.pinned (.plain (OpenSpec.upto fnExactParseHeapSpec)) fnExactParseHeapUptoCard
end Rows
end Go.Proofs.YtggnfklcgopflaaDoor
