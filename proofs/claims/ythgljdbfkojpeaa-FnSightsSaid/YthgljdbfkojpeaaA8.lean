/- Parts of the proof of FnSightsSaid: Yg Yh Zb C_Yi K_Yi Yi Zc Zd Ja Jb Jc Jf C_Jh K_Jh C_Jg K_Jg Jg Jh C_Hk K_Hk C_Tr K_Tr C_Tp K_Tp C_Tn K_Tn C_Tm K_Tm Tm Tn Tp Tr C_Tq K_Tq Tq C_Tz K_Tz Tz Hk Ji C_Bl K_Bl C_Bk K_Bk C_Bh K_Bh C_Ej K_Ej C_Ed2 K_Ed2 C_Ec2 K_Ec2 C_Eg K_Eg C_Ef K_Ef C_Ee K_Ee C_Ed K_Ed C_Ec K_Ec C_Eb3 K_Eb3 C_Eb2 K_Eb2 Eb2 Eb3 Mb Mc Md Ec Ed Ee Ef C_Dh K_Dh C_Dg K_Dg C_Df K_Df Df Dg Dh Eg Me Mf Ec2 Ed2 Mh Ej Mg Mi Bg C_Bb K_Bb Bb. -/
import Derived.Test.YthgljdbfkojpeaaA7
import Derived.Test.YthgljdbfkojpeaaA4
import Derived.Test.YthgljdbfkojpeaaA6
import Derived.Test.YthgljdbfkojpeaaA3
import Derived.Test.YthgljdbfkojpeaaProg
import Derived.KernelRfl
import Derived.Test.YthgljdbfkojpeaaA5
import Derived.Laws.Bits64
set_option linter.all false
/- Plain: packings, as both sides see them. -/
namespace Go.Ab
open Go
set_option linter.unusedSimpArgs false
set_option linter.unusedVariables false

def atL (y z : Int) (xs : List Int) (c : Cell) : Int := xs.getD (idx y z c).toNat 0
/-- The cells with a number. -/
def fib (x y z : Int) (xs : List Int) (k : Nat) : List Cell := pick x y z fun c => decide (atL y z xs c = k)
/-- The free cells without those of the first pieces. -/
def leftP (y z : Int) (cs : List Cell) (xs : List Int) (i : Nat) (c : Cell) : Bool := freeP cs c && !decide (0 ≤ atL y z xs c ∧ atL y z xs c < i)
def negC (c : Cell) : Cell := ⟨-c.a, -c.b, -c.c⟩
/-- Where the program tries a piece. -/
def tryAt (x y z : Int) (L : List (List Cell)) (xs : List Int) (i : Nat) : Cell := shift (negC ((L.getD i []).getD 0 default)) ((fib x y z xs i).getD 0 default)
def StepOK (x y z : Int) (cs : List Cell) (L : List (List Cell)) (xs : List Int) (i : Nat) : Prop :=
  fib x y z xs i ≠ [] ∧ PlacedOK x y z (leftP y z cs xs i) (L.getD i []) (tryAt x y z L xs i) ∧ ∀ d, d.inBox x y z → (d ∈ (L.getD i []).map (shift (tryAt x y z L xs i)) ↔ d ∈ fib x y z xs i)
def ImplPk (x y z : Int) (cs : List Cell) (L : List (List Cell)) (xs : List Int) : Prop :=
  xs.length = vol x y z ∧ (∀ v ∈ xs, -1 ≤ v ∧ v ≤ (L.length : Int) - 1) ∧ (∀ i, i < L.length → StepOK x y z cs L xs i) ∧ ∀ c, c.inBox x y z → leftP y z cs xs L.length c = false
def DiffOK (x y z : Int) (L : List (List Cell)) (xs : List Int) (k : Nat) : Prop :=
  (fib x y z xs k).length = (L.getD k []).length ∧ ∀ i, 1 ≤ i → i < (fib x y z xs k).length → ∀ d : Nat, d < 3 → Cell.at ((fib x y z xs k).getD i default) (d : Int) - Cell.at ((fib x y z xs k).getD 0 default) (d : Int) = Cell.at ((L.getD k []).getD i default) (d : Int) - Cell.at ((L.getD k []).getD 0 default) (d : Int)
def SpecPk (x y z : Int) (cs : List Cell) (L : List (List Cell)) (xs : List Int) : Prop :=
  xs.length = vol x y z ∧ tot L + cs.length = vol x y z ∧ (∀ i, i < vol x y z → (-1 ≤ xs.getD i 0 ∧ xs.getD i 0 ≤ (L.length : Int) - 1) ∧ (xs.getD i 0 < 0 ↔ cellAt y z i ∈ cs)) ∧ ∀ k, k < L.length → DiffOK x y z L xs k

section
variable {x y z : Int} {cs : List Cell} {L : List (List Cell)} {xs : List Int} (hA : AskOK x y z cs L)
include hA
end
end Go.Ab

/- Contracts: packings, the reference's side. -/
namespace Go.Ab
open Go
set_option linter.unusedSimpArgs false
set_option linter.unusedVariables false
set_option maxRecDepth 20000

noncomputable instance {x y z : Int} {cs : List Cell} {L : List (List Cell)} {xs : List Int} : Decidable (SpecPk x y z cs L xs) := Classical.propDecidable _
noncomputable def pkP (x y z : Int) (cs : List Cell) (L : List (List Cell)) (xs : List Int) : Bool × Bool := if AskOK x y z cs L then (decide (SpecPk x y z cs L xs), true) else (false, false)
end Go.Ab

/- Contracts: FaultPlanes, the reference's side. -/
namespace Go.Ab
open Go
set_option linter.unusedSimpArgs false
set_option linter.unusedVariables false
set_option maxRecDepth 20000

/-- Cell i lies before plane k, cell j not, and both are of one piece. -/
def CrossAt (y z : Int) (xs : List Int) (d k i j : Nat) : Prop := 0 ≤ xs.getD i 0 ∧ xs.getD j 0 = xs.getD i 0 ∧ (cellAt y z i).at (d : Int) < k ∧ (k : Int) ≤ (cellAt y z j).at (d : Int)
def Crossed (x y z : Int) (xs : List Int) (d k : Nat) : Prop := ∃ i, i < vol x y z ∧ ∃ j, j < vol x y z ∧ CrossAt y z xs d k i j
noncomputable instance {x y z : Int} {xs : List Int} {d k : Nat} : Decidable (Crossed x y z xs d k) := Classical.propDecidable _
noncomputable def plK (x y z : Int) (xs : List Int) (d : Nat) : Nat → List Int
  | 0 => []
  | k + 1 => plK x y z xs d k ++ (if 1 ≤ k ∧ ¬ Crossed x y z xs d k then [(d : Int), (k : Int)] else [])
noncomputable def plD (x y z : Int) (xs : List Int) : Nat → List Int
  | 0 => []
  | d + 1 => plD x y z xs d ++ plK x y z xs d (sideOf x y z (d : Int)).toNat
noncomputable def planesN (x y z : Int) (cs : List Cell) (L : List (List Cell)) (xs : List Int) : Option (List Int) := if AskOK x y z cs L ∧ SpecPk x y z cs L xs then some (plD x y z xs 3) else none
/-- A list of pairs of numbers, or none, and whether there is one. -/
def PairsRes (M : Mem) (r : Option (List Int)) (v : LV) (N : Mem) : Prop := ∃ w n, v = .tup [w, .B r.isSome] ∧ SlF N w n (r.getD []) ∧ n ≤ 100 ∧ Newer M w ∧ Pre M N

end Go.Ab

/- The abstract code of some functions (written by a program of mine from the translation, by way of prepF). -/
namespace Go.Ab.C
open Go.Ab
end Go.Ab.C

/- That the program has this code. -/
namespace Go.Ab.K
open Go Go.Ab
end Go.Ab.K

/- Contracts: packings, the program's side. -/
namespace Go.Ab
open Go
set_option linter.unusedSimpArgs false
set_option linter.unusedVariables false
set_option maxRecDepth 20000

end Go.Ab

/- Contracts: FaultPlanes, the program's side. -/
namespace Go.Ab
open Go
set_option linter.unusedSimpArgs false
set_option linter.unusedVariables false
set_option maxRecDepth 20000

end Go.Ab

/- Contracts: pieces put into a list of numbers, the reference's side. -/
namespace Go.Ab
open Go
set_option linter.unusedSimpArgs false
set_option linter.unusedVariables false
set_option maxRecDepth 20000

def At3 (p : Cell) : Prop := (0 ≤ p.a ∧ p.a ≤ 3) ∧ (0 ≤ p.b ∧ p.b ≤ 3) ∧ (0 ≤ p.c ∧ p.c ≤ 3)
def FitsP (x y z : Int) (cs l : List Cell) (p : Cell) : Prop := At3 p ∧ ∀ c ∈ l, (shift p c).inBox x y z ∧ shift p c ∉ cs
def startL (x y z : Int) (cs : List Cell) : List Int := (cellsOf x y z).map fun c => if c ∈ cs then -1 else -2
def setsL (y z : Int) (n : Int) (xs : List Int) (ds : List Cell) : List Int := ds.foldl (fun v d => v.set (idx y z d).toNat n) xs
def PutOK (x y z : Int) (cs l : List Cell) (p : Cell) (xs : List Int) : Prop := FitsP x y z cs l p ∧ ∀ c ∈ l, atL y z xs (shift p c) = -2
noncomputable instance {x y z : Int} {cs l : List Cell} {p : Cell} : Decidable (FitsP x y z cs l p) := Classical.propDecidable _
noncomputable instance {x y z : Int} {cs l : List Cell} {p : Cell} {xs : List Int} : Decidable (PutOK x y z cs l p xs) := Classical.propDecidable _
noncomputable def putR (x y z : Int) (cs l : List Cell) (p : Cell) (xs : List Int) (n : Int) : List Int := if PutOK x y z cs l p xs then setsL y z n xs (l.map (shift p)) else []

section
variable {l : List Cell} {t o : Nat} {M : Mem} {p : Cell} (h : Tri M t o l) (hn : l.length ≤ 64) (hin : ∀ c ∈ l, c.inBox 4 4 4) (hp : At3 p)
include h hn hin hp
end
section
variable {x y z : Int} {t o u q : Nat} {cs l : List Cell} {p : Cell} {M : Mem} (h : Tri M t o cs) (hH : HeapOK x y z cs) (hl : Tri M u q l) (hn : l.length ≤ 64) (hin : ∀ c ∈ l, c.inBox 4 4 4)
include h hH hl hn hin
end
end Go.Ab

/- Contracts: pieces that fit, places, boxes, parities: the reference's side. -/
namespace Go.Ab
open Go
set_option linter.unusedSimpArgs false
set_option linter.unusedVariables false
set_option maxRecDepth 20000

theorem PieceOK.le {l : List Cell} (h : PieceOK l) : l.length ≤ 5 := h.1.2
def FitQ (x y z : Int) (cs l : List Cell) : Prop := HeapOK x y z cs ∧ PieceOK l
noncomputable def fitOf (x y z : Int) (cs l : List Cell) (p : Cell) : Option Bool := by
  classical
  exact if FitQ x y z cs l then some (decide (FitsP x y z cs l p)) else none
noncomputable def placesOf (x y z : Int) (cs l : List Cell) : Option (List Cell) := by
  classical
  exact if FitQ x y z cs l then some (pick x y z fun c => decide (FitsP x y z cs l c)) else none
noncomputable def boxOf (x y z : Int) : Option (List Cell) := by
  classical
  exact if Sides x y z ∧ vol x y z ≤ 5 then some (cellsOf x y z) else none
noncomputable def ppOf (l : List Cell) : Option Int := by
  classical
  exact if PieceOK l then some (max (parL l) (0 - parL l)) else none
noncomputable def fpOf (x y z : Int) (cs : List Cell) : Option Int := by
  classical
  exact if HeapOK x y z cs then some (parL (pick x y z (freeP cs))) else none
section
variable {x y z : Int} {t o u q : Nat} {cs l : List Cell} {M : Mem} (h : Tri M t o cs) (hn : cs.length ≤ 1000000000) (hl : Tri M u q l) (hln : l.length ≤ 1000000000)
include hl hln
include h hn
end
end Go.Ab

/- Contracts: pieces that fit, places, boxes, parities, other cells: the program's side. -/
namespace Go.Ab
open Go
set_option linter.unusedSimpArgs false
set_option linter.unusedVariables false
set_option maxRecDepth 20000

noncomputable instance {x y z : Int} {cs l : List Cell} : Decidable (FitQ x y z cs l) := Classical.propDecidable _
section
variable {x y z : Int} {t o u q : Nat} {cs l : List Cell} {M : Mem} (h : Tri M t o cs) (hn : cs.length ≤ 1000000000) (hl : Tri M u q l) (hln : l.length ≤ 1000000000)
include hl hln
include h hn
end
end Go.Ab

/- Plain: boxes as pieces; parities of all cells; places. -/
namespace Go.Ab
open Go
set_option linter.unusedSimpArgs false
set_option linter.unusedVariables false
set_option maxRecDepth 20000

end Go.Ab

/- Heaps that a law keeps: mirrored, swapped, joined, common, shifted, cropped and widened ones, plainly. -/
namespace Go.Ab
open Go
set_option linter.unusedSimpArgs false
set_option linter.unusedVariables false
set_option maxRecDepth 20000

/-- A heap, or the empty one and false; its cells lie in a block of their own. -/
def HeapX (M : Mem) (r : Option Hp) (v : LV) (N : Mem) : Prop := ∃ u : Nat, v = .tup [.agg [.I (r.getD Hp.none).x, .I (r.getD Hp.none).y, .I (r.getD Hp.none).z, .ref u 0 (r.getD Hp.none).cs.length], .B r.isSome] ∧ Live N u (.row (triL (r.getD Hp.none).cs) true 3) ∧ Pre M N
theorem heapX_some {M N : Mem} {g : Hp} {v : LV} (h : HeapT M g v N) (hp : Pre M N) : HeapX M (some g) v N := by
  obtain ⟨u, rfl, hu, _⟩ := h
  exact ⟨u, rfl, hu, hp⟩
theorem heapX_of {f : FuncId} {args : List LV} {M : Mem} {r : Option Hp} (h : CallsR PG f args M fun v N => (∃ g, r = some g ∧ HeapT M g v N ∧ Pre M N) ∨ (r = none ∧ v = .tup [.agg [.I 0, .I 0, .I 0, .nil], .B false] ∧ Pre M N)) : CallsR PG f args M (HeapX M r) := by
  refine h.den (e := 3) ?_
  rintro v N (⟨g, rfl, hg, hp⟩ | ⟨rfl, rfl, hp⟩)
  · exact .inl (heapX_some hg hp)
  · exact .inr ⟨.tup [.agg [.I 0, .I 0, .I 0, .ref N.length 0 0], .B false], .inr ⟨_, _, rfl, rfl, .inr ⟨_, _, rfl, rfl, .rfl, .rfl, .rfl, .nil, trivial⟩, .rfl, trivial⟩, N.length, rfl, Live.new, hp.trans (Pre.app _ _)⟩
theorem heapX_no {M : Mem} {r : Option Hp} {v : LV} {N : Mem} (hr : r = none) (hv : v = .tup [.agg [.I 0, .I 0, .I 0, .nil], .B false]) (hp : Pre M N) : (∃ g, r = some g ∧ HeapT M g v N ∧ Pre M N) ∨ (r = none ∧ v = .tup [.agg [.I 0, .I 0, .I 0, .nil], .B false] ∧ Pre M N) := .inr ⟨hr, hv, hp⟩
section
variable (x y z : Int) (cs : List Cell)
noncomputable def mirOf (d : Int) : Option Hp := by
  classical
  exact if HeapOK x y z cs ∧ Dir d then some ⟨x, y, z, mirD x y z d cs⟩ else none
noncomputable def othOf : Option Hp := by
  classical
  exact if HeapOK x y z cs then some ⟨x, y, z, pick x y z (freeP cs)⟩ else none
end
/-- Two coordinates exchanged. -/
def swI (a b i : Int) : Int := if i = a then b else if i = b then a else i
def swC (a b : Int) (c : Cell) : Cell := ⟨c.at (swI a b 0), c.at (swI a b 1), c.at (swI a b 2)⟩
def swX (a b : Int) (x y z : Int) (cs : List Cell) : Hp := ⟨(swC a b ⟨x, y, z⟩).a, (swC a b ⟨x, y, z⟩).b, (swC a b ⟨x, y, z⟩).c, pick (swC a b ⟨x, y, z⟩).a (swC a b ⟨x, y, z⟩).b (swC a b ⟨x, y, z⟩).c fun d => decide (d ∈ cs.map (swC a b))⟩
section
variable {x y z : Int} {cs : List Cell}
end
section
variable (x y z : Int) (cs : List Cell)
noncomputable def swpOf (a b : Int) : Option Hp := by
  classical
  exact if HeapOK x y z cs ∧ Dir a ∧ Dir b then some (swX a b x y z cs) else none
/-- Both are heaps, in the same box. -/
def Alike (x' y' z' : Int) (ds : List Cell) : Prop := HeapOK x y z cs ∧ HeapOK x' y' z' ds ∧ x = x' ∧ y = y' ∧ z = z'
noncomputable instance {x y z : Int} {cs : List Cell} {x' y' z' : Int} {ds : List Cell} : Decidable (Alike x y z cs x' y' z' ds) := Classical.propDecidable _
noncomputable def jnOf (x' y' z' : Int) (ds : List Cell) : Option Hp := if Alike x y z cs x' y' z' ds then some ⟨x, y, z, pick x y z fun c => decide (c ∈ cs) || decide (c ∈ ds)⟩ else none
noncomputable def cmOf (x' y' z' : Int) (ds : List Cell) : Option Hp := if Alike x y z cs x' y' z' ds then some ⟨x, y, z, pick x y z fun c => decide (c ∈ cs) && decide (c ∈ ds)⟩ else none
/-- A shift that is not too far. -/
def Near4 (p : Cell) : Prop := (-4 ≤ p.a ∧ p.a ≤ 4) ∧ (-4 ≤ p.b ∧ p.b ≤ 4) ∧ (-4 ≤ p.c ∧ p.c ≤ 4)
noncomputable def shOf (p : Cell) : Option Hp := by
  classical
  exact if HeapOK x y z cs ∧ Near4 p ∧ HeapOK x y z (cs.map (shift p)) then some ⟨x, y, z, cs.map (shift p)⟩ else none
noncomputable def crOf : Option Hp := by
  classical
  exact if HeapOK x y z cs ∧ 0 < cs.length then some (cropHp cs) else none
noncomputable def wdOf (X Y Z : Int) : Option Hp := by
  classical
  exact if HeapOK x y z cs ∧ HeapOK X Y Z cs then some ⟨X, Y, Z, cs⟩ else none
end
end Go.Ab

/- The abstract code of some functions (written by a program of mine from the translation, by way of prepF). -/
namespace Go.Ab.C
open Go.Ab
end Go.Ab.C

/- That the program has this code. -/
namespace Go.Ab.K
open Go Go.Ab
end Go.Ab.K

/- The abstract code of some functions (written by a program of mine from the translation, by way of prepF). -/
namespace Go.Ab.C
open Go.Ab
end Go.Ab.C

/- That the program has this code. -/
namespace Go.Ab.K
open Go Go.Ab
end Go.Ab.K

/- Contracts: the reference's mirrored, other, cropped, widened and shifted heaps. -/
namespace Go.Ab
open Go
set_option linter.unusedSimpArgs false
set_option linter.unusedVariables false
set_option maxRecDepth 20000

theorem dir_in {d : Int} : Dir d ↔ (0 ≤ d ∧ d ≤ 2) := by unfold Dir; omega
section
variable {x y z : Int} {t : Nat} {w : Bool} {cs : List Cell} {M : Mem} (h : Live M t (.row (triL cs) w 3)) (hn : cs.length ≤ 1000000000)
include h hn
end
end Go.Ab

/- Contracts: the reference's joined, common and swapped heaps. -/
namespace Go.Ab
open Go
set_option linter.unusedSimpArgs false
set_option linter.unusedVariables false
set_option maxRecDepth 20000

section
variable {x y z x' y' z' : Int} {t t' : Nat} {w w' : Bool} {cs ds : List Cell} {M : Mem} (h : Live M t (.row (triL cs) w 3)) (hn : cs.length ≤ 1000000000) (h' : Live M t' (.row (triL ds) w' 3)) (hn' : ds.length ≤ 1000000000)
include h hn h' hn'
end
section
variable {x y z a b : Int} {t : Nat} {w : Bool} {cs : List Cell} {M : Mem} (h : Live M t (.row (triL cs) w 3))
include h
end
end Go.Ab

/- The abstract code of some functions (written by a program of mine from the translation, by way of prepF). -/
namespace Go.Ab.C
open Go.Ab
end Go.Ab.C

/- That the program has this code. -/
namespace Go.Ab.K
open Go Go.Ab
end Go.Ab.K

/- The abstract code of some functions (written by a program of mine from the translation, by way of prepF). -/
namespace Go.Ab.C
open Go.Ab
def impl_MirrorHeap : AFn :=
 ⟨2, 20, [.cellN 4 4, .tmp 5],
 .seq (.ops [(none, .box 2 (.t 0)),
 (none, .box 3 (.t 1)),
 (none, .alloc 4 [(.I 0), (.I 0), (.I 0), .nil]),
 (none, .mv 5 (.c (.B false)))])
 (.seq (.seq (.ops [(none, .loadN 6 4 (.t 2)),
 (none, .call (some 7) F.impl_IsHeap [(.t 6)]),
 (none, .un 8 .not (.t 7)),
 (none, .mv 9 (.t 8)),
 (some (9, false), .load1 10 (.t 3)),
 (some (9, false), .call (some 11) F.impl_isDirection [(.t 10)]),
 (some (9, false), .un 12 .not (.t 11)),
 (none, .pick 13 (.t 9) (.c (.B true)) (.t 12))])
 (.cond (.t 13) (.seq (.ops [(none, .build 14 [(.I 0), (.I 0), (.I 0), .nil] []),
 (none, .store 4 (.t 4) (.t 14)),
 (none, .mv 5 (.c (.B false)))])
 (.ret))
 (.skip)))
 (.seq (.draw [⟨(none, .loadN 15 4 (.t 2)), [], []⟩,
 ⟨(none, .loadN 16 4 (.t 2)), [], []⟩,
 ⟨(none, .mkf 18 F.impl_MirrorHeap_1 [(.t 2), (.t 3)]), [], []⟩,
 ⟨(none, .call (some 17) F.impl_Heap_box [(.t 16)]), [], [0, 2]⟩,
 ⟨(none, .call (some 19) F.impl_Heap_moved [(.t 15), (.t 17), (.t 18)]), [], []⟩,
 ⟨(none, .store 4 (.t 4) (.t 19)), [], []⟩,
 ⟨(none, .mv 5 (.c (.B true))), [], []⟩])
 (.ret)))⟩
def impl_MirrorHeap_1 : AFn :=
 ⟨3, 10, [.cellN 4 3],
 .seq (.ops [(none, .box 3 (.t 0)),
 (none, .alloc 4 [(.I 0), (.I 0), (.I 0)])])
 (.seq (.draw [⟨(none, .loadN 5 4 (.t 1)), [], []⟩,
 ⟨(none, .loadN 7 3 (.t 3)), [], []⟩,
 ⟨(none, .load1 8 (.t 2)), [], []⟩,
 ⟨(none, .call (some 6) F.impl_Heap_box [(.t 5)]), [], [1, 2]⟩,
 ⟨(none, .call (some 9) F.impl_box_mirror [(.t 6), (.t 7), (.t 8)]), [], []⟩,
 ⟨(none, .store 3 (.t 4) (.t 9)), [], []⟩])
 (.ret))⟩
def impl_box_mirror : AFn :=
 ⟨3, 18, [.cellN 6 3],
 .seq (.ops [(none, .box 3 (.t 0)),
 (none, .box 4 (.t 1)),
 (none, .alloc 6 [(.I 0), (.I 0), (.I 0)])])
 (.seq (.draw [⟨(none, .mv 7 (.t 2)), [], []⟩,
 ⟨(none, .mv 8 (.t 2)), [], []⟩,
 ⟨(none, .idxA 9 3 1 (.t 3) (.t 8)), [], []⟩,
 ⟨(none, .load1 10 (.t 9)), [], []⟩,
 ⟨(none, .bin 11 .sub (.t 10) (.c (.I 1))), [], []⟩,
 ⟨(none, .mv 12 (.t 2)), [], []⟩,
 ⟨(none, .idxA 13 3 1 (.t 4) (.t 12)), [], []⟩,
 ⟨(none, .load1 14 (.t 13)), [], []⟩,
 ⟨(none, .bin 15 .sub (.t 11) (.t 14)), [], []⟩,
 ⟨(none, .idxA 16 3 1 (.t 4) (.t 7)), [], []⟩,
 ⟨(none, .store 1 (.t 16) (.t 15)), [], []⟩])
 (.seq (.ops [(none, .loadN 17 3 (.t 4)),
 (none, .store 3 (.t 6) (.t 17))])
 (.ret)))⟩
def impl_isDirection : AFn :=
 ⟨1, 5, [.tmp 2],
 .seq (.ops [(none, .mv 2 (.c (.B false)))])
 (.seq (.ops [(none, .mv 3 (.t 0)),
 (none, .call (some 4) F.impl_within [(.t 3), (.c (.I 0)), (.c (.I 2))]),
 (none, .mv 2 (.t 4))])
 (.ret))⟩
end Go.Ab.C

/- That the program has this code. -/
namespace Go.Ab.K
open Go Go.Ab
theorem impl_MirrorHeap : prepF Go.Proofs.Try.prog F.impl_MirrorHeap = some C.impl_MirrorHeap := by kernel_rfl
theorem impl_MirrorHeap_1 : prepF Go.Proofs.Try.prog F.impl_MirrorHeap_1 = some C.impl_MirrorHeap_1 := by kernel_rfl
theorem impl_box_mirror : prepF Go.Proofs.Try.prog F.impl_box_mirror = some C.impl_box_mirror := by kernel_rfl
theorem impl_isDirection : prepF Go.Proofs.Try.prog F.impl_isDirection = some C.impl_isDirection := by kernel_rfl
end Go.Ab.K

/- The abstract code of some functions (written by a program of mine from the translation, by way of prepF). -/
namespace Go.Ab.C
open Go.Ab
end Go.Ab.C

/- That the program has this code. -/
namespace Go.Ab.K
open Go Go.Ab
end Go.Ab.K

/- The abstract code of some functions (written by a program of mine from the translation, by way of prepF). -/
namespace Go.Ab.C
open Go.Ab
end Go.Ab.C

/- That the program has this code. -/
namespace Go.Ab.K
open Go Go.Ab
end Go.Ab.K

/- The abstract code of some functions (written by a program of mine from the translation, by way of prepF). -/
namespace Go.Ab.C
open Go.Ab
end Go.Ab.C

/- That the program has this code. -/
namespace Go.Ab.K
open Go Go.Ab
end Go.Ab.K

/- Contracts: the program's order of heaps. -/
namespace Go.Ab
open Go
set_option linter.unusedSimpArgs false
set_option linter.unusedVariables false

def cmp3 (a b : Cell) : Int := cmpL [a.a, a.b, a.c] [b.a, b.b, b.c]
def cmpC : List Cell → List Cell → Int
  | [], [] => 0
  | [], _ :: _ => -1
  | _ :: _, [] => 1
  | a :: l, b :: m => if cmp3 a b ≠ 0 then cmp3 a b else cmpC l m
def cmpH (g h : Hp) : Int := if cmp3 g.dims h.dims ≠ 0 then cmp3 g.dims h.dims else cmpC g.cs h.cs
end Go.Ab

/- Contracts: the program's positions and forms. -/
namespace Go.Ab
open Go
set_option linter.unusedSimpArgs false
set_option linter.unusedVariables false

/-- Heaps, as the elements of a slice; each with the block of its cells. -/
def hrow (p : Nat × Hp) : List LV := [.I p.2.x, .I p.2.y, .I p.2.z, .ref p.1 0 p.2.cs.length]
def hpL (l : List (Nat × Hp)) : List LV := l.flatMap hrow
theorem hpL_len (l : List (Nat × Hp)) : (hpL l).length = l.length * 4 := by
  induction l with
  | nil => rfl
  | cons t l ih => rw [show hpL (t :: l) = hrow t ++ hpL l from rfl, List.length_append, ih, List.length_cons]; simp [hrow]; omega
theorem hpL_at {l : List (Nat × Hp)} : ∀ {k : Nat}, (hk : k < l.length) → ((hpL l).drop (k * 4)).take 4 = hrow l[k] := by
  induction l with
  | nil => intro k hk; simp at hk
  | cons t l ih =>
    intro k hk
    have e : hpL (t :: l) = hrow t ++ hpL l := rfl
    have hr : (hrow t).length = 4 := rfl
    cases k with
    | zero => rw [e, Nat.zero_mul, List.drop_zero, List.take_append_of_le_length (by omega), List.take_of_length_le (by omega)]; rfl
    | succ k =>
      rw [e, List.drop_append, List.drop_eq_nil_of_le (by omega), List.nil_append, hr, show (k + 1) * 4 - 4 = k * 4 by omega, ih (by simpa using hk)]
      rfl
theorem Live.hp {N : Mem} {t k e : Nat} {w : Bool} {l : List (Nat × Hp)} (h : Live N t (.row (hpL l) w e)) (hk : k < l.length) : getCells N t (k * 4) 4 = some (hrow l[k]) := by
  rw [h.cells, if_pos (by rw [hpL_len]; omega), hpL_at hk]
/-- All these heaps' cells are there, behind M. -/
def HpsOK (M N : Mem) (l : List (Nat × Hp)) : Prop := ∀ p ∈ l, Live N p.1 (.row (triL p.2.cs) true 3) ∧ M.length ≤ p.1 ∧ p.2.cs.length ≤ 64
theorem HpsOK.pre {M N N' : Mem} {l : List (Nat × Hp)} (h : HpsOK M N l) (hp : Pre N N') : HpsOK M N' l := fun p hpl => ⟨(h p hpl).1.pre hp, (h p hpl).2⟩

def bestP (b : Nat × Hp) (l : List (Nat × Hp)) : Nat × Hp := l.foldl (fun b n => if lessHp n.2 b.2 then n else b) b
/-- A form as a value: its cells are in a block behind M. -/
def FormRes (M : Mem) (f : Hp) (v : LV) (N : Mem) : Prop := ∃ u : Nat, v = .agg [.I f.x, .I f.y, .I f.z, .ref u 0 f.cs.length] ∧ M.length ≤ u ∧ Live N u (.row (triL f.cs) true 3) ∧ Pre M N
end Go.Ab

/- Contracts: the program's statements on forms. -/
namespace Go.Ab
open Go
set_option linter.unusedSimpArgs false
set_option linter.unusedVariables false

end Go.Ab

/- Contracts: the program's mirrored heaps; IsHanded. -/
namespace Go.Ab
open Go
set_option linter.unusedSimpArgs false
set_option linter.unusedVariables false

end Go.Ab

/- The abstract code of some functions (written by a program of mine from the translation, by way of prepF). -/
namespace Go.Ab.C
open Go.Ab
end Go.Ab.C

/- That the program has this code. -/
namespace Go.Ab.K
open Go Go.Ab
end Go.Ab.K

/- Contracts: the program's PositionsOf, AreSameForm, IsHanded. -/
namespace Go.Ab
open Go
set_option linter.unusedSimpArgs false
set_option linter.unusedVariables false

theorem SlI.lenV {N : Mem} {v : LV} {l : List Int} (h : SlI N v l) : lenV v = some (l.length : Int) := by
  rcases h with ⟨rfl, rfl⟩ | ⟨t, ex, rfl, _⟩ <;> rfl
end Go.Ab

/- The abstract code of some functions (written by a program of mine from the translation, by way of prepF). -/
namespace Go.Ab.C
open Go.Ab
end Go.Ab.C

/- That the program has this code. -/
namespace Go.Ab.K
open Go Go.Ab
end Go.Ab.K

/- Contracts: whether a number is one of a turn. -/
namespace Go.Ab
open Go
set_option linter.unusedSimpArgs false

def In24 (k : Int) : Prop := 0 ≤ k ∧ k ≤ 23
instance (k : Int) : Decidable (In24 k) := by unfold In24; exact inferInstance
end Go.Ab

/- Contracts: the laws' helpers that compare cells and heaps; the program's turned, mirrored, cropped heaps and forms, exactly. -/
namespace Go.Ab
open Go
set_option linter.unusedSimpArgs false
set_option linter.unusedVariables false
set_option maxRecDepth 20000

theorem CellsV.lenV {N : Mem} {v : LV} {l : List Cell} (h : CellsV N v l) : lenV v = some (l.length : Int) := by
  rcases h with ⟨rfl, rfl⟩ | ⟨t, o, rfl, _⟩ <;> rfl
theorem CellsV.at {N : Mem} {v : LV} {l : List Cell} {k : Nat} (h : CellsV N v l) (hk : k < l.length) : ∃ t o, v = .ref t o l.length ∧ getCells N t (o + k * 3) 3 = some (l.getD k default).row := by
  rcases h with ⟨rfl, rfl⟩ | ⟨t, o, rfl, h⟩
  · simp at hk
  · exact ⟨t, o, rfl, Tri.get h hk⟩
section
variable {x y z : Int} {t : Nat} {w : Bool} {cs : List Cell} {M : Mem} (h : Live M t (.row (triL cs) w 3)) (hH : HeapOK x y z cs)
include h hH
end
end Go.Ab

/- Contracts: the program's mirrored, other, joined, common, swapped, shifted, cropped and widened heaps. -/
namespace Go.Ab
open Go
set_option linter.unusedSimpArgs false
set_option linter.unusedVariables false
set_option maxRecDepth 20000

theorem g_isDirectionB {d : Int} {M : Mem} : CallsTo PG F.impl_isDirection [.I d] M (.B (decide (0 ≤ d ∧ d ≤ 2))) M := by
  refine calls_run K.impl_isDirection rfl ?_
  simp (disch := omega) only [C.impl_isDirection, ↓SXd, SXu, slBounds, ↓sop, ↓aop, ↓reduceIte, LV.cells, AOp.dst, LV.I, LV.B, LV.U, LV.S, LV.nil, Nat.reduceEqDiff, Nat.reduceAdd, Nat.reduceMul, Nat.reduceSub, Nat.reduceLeDiff, Nat.reduceBEq, Nat.reduceDiv, Nat.reduceMod, Int.reduceToNat, Int.reduceLT, Int.reduceLE, Int.reduceAdd, Int.reduceSub, Int.reduceMul, Int.reduceEq, Int.reduceNeg, reduceCtorEq, resV, resAll, ARes.ev, LV.flat, ite_true, ite_false, exists_eq_left', exists_eq_left, keyOf, implies_true, fillC, capOf]
  refine callK_of (g_within) ?_
  simp (disch := omega) only [↓SXd, SXu, slBounds, ↓sop, ↓aop, ↓reduceIte, LV.cells, AOp.dst, LV.I, LV.B, LV.U, LV.S, LV.nil, Nat.reduceEqDiff, Nat.reduceAdd, Nat.reduceMul, Nat.reduceSub, Nat.reduceLeDiff, Nat.reduceBEq, Nat.reduceDiv, Nat.reduceMod, Int.reduceToNat, Int.reduceLT, Int.reduceLE, Int.reduceAdd, Int.reduceSub, Int.reduceMul, Int.reduceEq, Int.reduceNeg, reduceCtorEq, resV, resAll, ARes.ev, LV.flat, ite_true, ite_false, exists_eq_left', exists_eq_left, keyOf, implies_true, fillC, capOf]
  exact cmp_drop0 rfl
theorem g_mirrorD {x y z d : Int} {c : Cell} {M : Mem} (hS : Sides x y z) (hc : c.inBox x y z) (hd : Dir d) :
    CallsTo PG F.impl_box_mirror [.agg [.I x, .I y, .I z], .agg [.I c.a, .I c.b, .I c.c], .I d] M (.agg [.I (mirDC x y z d c).a, .I (mirDC x y z d c).b, .I (mirDC x y z d c).c]) M := by
  obtain ⟨⟨_, _⟩, ⟨_, _⟩, ⟨_, _⟩⟩ := hS
  obtain ⟨⟨_, _⟩, ⟨_, _⟩, ⟨_, _⟩⟩ := hc
  refine calls_run K.impl_box_mirror rfl ?_
  rcases hd with rfl | rfl | rfl
  all_goals
    simp (disch := omega) only [C.impl_box_mirror, splice, ↓SXd, SXu, slBounds, ↓sop, ↓aop, ↓reduceIte, LV.cells, AOp.dst, LV.I, LV.B, LV.U, LV.S, LV.nil, Nat.reduceEqDiff, Nat.reduceAdd, Nat.reduceMul, Nat.reduceSub, Nat.reduceLeDiff, Nat.reduceBEq, Nat.reduceDiv, Nat.reduceMod, Int.reduceToNat, Int.reduceLT, Int.reduceLE, Int.reduceAdd, Int.reduceSub, Int.reduceMul, Int.reduceEq, Int.reduceNeg, reduceCtorEq, resV, resAll, ARes.ev, LV.flat, ite_true, ite_false, exists_eq_left', exists_eq_left, keyOf, implies_true, fillC, capOf]
    exact cmp_drop rfl
theorem g_mirrorD_1 {x y z d : Int} {c : Cell} {v : LV} {t t' : Nat} {M : Mem} (hS : Sides x y z) (hc : c.inBox x y z) (hd : Dir d) (h : Live M t (.row [.I x, .I y, .I z, v] true 0)) (h' : Live M t' (.row [.I d] true 0)) :
    CallsTo PG F.impl_MirrorHeap_1 ([.agg [.I c.a, .I c.b, .I c.c]] ++ [(t, 0), (t', 0)].map fun p => .ptr p.1 p.2) M (.agg [.I (mirDC x y z d c).a, .I (mirDC x y z d c).b, .I (mirDC x y z d c).c]) M := by
  have ht := h.lt
  have ht' := h'.lt
  refine calls_run K.impl_MirrorHeap_1 rfl ?_
  simp (disch := omega) only [C.impl_MirrorHeap_1, List.map_cons, List.map_nil, h.app.cells, h'.app.cell, ↓SXd, SXu, slBounds, ↓sop, ↓aop, ↓reduceIte, LV.cells, AOp.dst, LV.I, LV.B, LV.U, LV.S, LV.nil, Nat.reduceEqDiff, Nat.reduceAdd, Nat.reduceMul, Nat.reduceSub, Nat.reduceLeDiff, Nat.reduceBEq, Nat.reduceDiv, Nat.reduceMod, Int.reduceToNat, Int.reduceLT, Int.reduceLE, Int.reduceAdd, Int.reduceSub, Int.reduceMul, Int.reduceEq, Int.reduceNeg, reduceCtorEq, resV, resAll, ARes.ev, LV.flat, ite_true, ite_false, exists_eq_left', exists_eq_left, keyOf, implies_true, fillC, capOf]
  refine callK_of (g_box) ?_
  simp (disch := omega) only [↓SXd, SXu, slBounds, ↓sop, ↓aop, ↓reduceIte, LV.cells, AOp.dst, LV.I, LV.B, LV.U, LV.S, LV.nil, Nat.reduceEqDiff, Nat.reduceAdd, Nat.reduceMul, Nat.reduceSub, Nat.reduceLeDiff, Nat.reduceBEq, Nat.reduceDiv, Nat.reduceMod, Int.reduceToNat, Int.reduceLT, Int.reduceLE, Int.reduceAdd, Int.reduceSub, Int.reduceMul, Int.reduceEq, Int.reduceNeg, reduceCtorEq, resV, resAll, ARes.ev, LV.flat, ite_true, ite_false, exists_eq_left', exists_eq_left, keyOf, implies_true, fillC, capOf]
  refine callK_of (g_mirrorD hS hc hd) ?_
  simp (disch := omega) only [splice, ↓SXd, SXu, slBounds, ↓sop, ↓aop, ↓reduceIte, LV.cells, AOp.dst, LV.I, LV.B, LV.U, LV.S, LV.nil, Nat.reduceEqDiff, Nat.reduceAdd, Nat.reduceMul, Nat.reduceSub, Nat.reduceLeDiff, Nat.reduceBEq, Nat.reduceDiv, Nat.reduceMod, Int.reduceToNat, Int.reduceLT, Int.reduceLE, Int.reduceAdd, Int.reduceSub, Int.reduceMul, Int.reduceEq, Int.reduceNeg, reduceCtorEq, resV, resAll, ARes.ev, LV.flat, ite_true, ite_false, exists_eq_left', exists_eq_left, keyOf, implies_true, fillC, capOf]
  exact cmp_drop rfl
section
variable {x y z : Int} {t : Nat} {w : Bool} {cs : List Cell} {M : Mem} (h : Live M t (.row (triL cs) w 3)) (hn : cs.length ≤ 1000000000)
include h hn
theorem g_MirrorHeapX {d : Int} : CallsR PG F.impl_MirrorHeap [.agg [.I x, .I y, .I z, .ref t 0 cs.length], .I d] M (HeapX M (mirOf x y z cs d)) := by
  refine heapX_of ?_
  refine callsR_run K.impl_MirrorHeap rfl ?_
  simp (disch := omega) only [C.impl_MirrorHeap, ↓SXd, SXu, slBounds, ↓sop, ↓aop, ↓reduceIte, LV.cells, AOp.dst, LV.I, LV.B, LV.U, LV.S, LV.nil, Nat.reduceEqDiff, Nat.reduceAdd, Nat.reduceMul, Nat.reduceSub, Nat.reduceLeDiff, Nat.reduceBEq, Nat.reduceDiv, Nat.reduceMod, Int.reduceToNat, Int.reduceLT, Int.reduceLE, Int.reduceAdd, Int.reduceSub, Int.reduceMul, Int.reduceEq, Int.reduceNeg, reduceCtorEq, resV, resAll, ARes.ev, LV.flat, ite_true, ite_false, exists_eq_left', exists_eq_left, keyOf, implies_true, fillC, capOf]
  refine callK_of (g_IsHeap (Has.app h.has) hn) ?_
  simp (disch := omega) only [↓SXd, SXu, slBounds, ↓sop, ↓aop, ↓reduceIte, LV.cells, AOp.dst, LV.I, LV.B, LV.U, LV.S, LV.nil, Nat.reduceEqDiff, Nat.reduceAdd, Nat.reduceMul, Nat.reduceSub, Nat.reduceLeDiff, Nat.reduceBEq, Nat.reduceDiv, Nat.reduceMod, Int.reduceToNat, Int.reduceLT, Int.reduceLE, Int.reduceAdd, Int.reduceSub, Int.reduceMul, Int.reduceEq, Int.reduceNeg, reduceCtorEq, resV, resAll, ARes.ev, LV.flat, ite_true, ite_false, exists_eq_left', exists_eq_left, keyOf, implies_true, fillC, capOf]
  by_cases hH : HeapOK x y z cs
  rotate_left
  · simp (disch := omega) only [hH, splice, ↓SXd, SXu, slBounds, ↓sop, ↓aop, ↓reduceIte, LV.cells, AOp.dst, LV.I, LV.B, LV.U, LV.S, LV.nil, Nat.reduceEqDiff, Nat.reduceAdd, Nat.reduceMul, Nat.reduceSub, Nat.reduceLeDiff, Nat.reduceBEq, Nat.reduceDiv, Nat.reduceMod, Int.reduceToNat, Int.reduceLT, Int.reduceLE, Int.reduceAdd, Int.reduceSub, Int.reduceMul, Int.reduceEq, Int.reduceNeg, reduceCtorEq, resV, resAll, ARes.ev, LV.flat, ite_true, ite_false, exists_eq_left', exists_eq_left, keyOf, implies_true, fillC, capOf]
    exact heapX_no (if_neg fun e => hH e.1) rfl (Pre.app _ _)
  have hlen := hH.len
  simp (disch := omega) only [hH, ↓SXd, SXu, slBounds, ↓sop, ↓aop, ↓reduceIte, LV.cells, AOp.dst, LV.I, LV.B, LV.U, LV.S, LV.nil, Nat.reduceEqDiff, Nat.reduceAdd, Nat.reduceMul, Nat.reduceSub, Nat.reduceLeDiff, Nat.reduceBEq, Nat.reduceDiv, Nat.reduceMod, Int.reduceToNat, Int.reduceLT, Int.reduceLE, Int.reduceAdd, Int.reduceSub, Int.reduceMul, Int.reduceEq, Int.reduceNeg, reduceCtorEq, resV, resAll, ARes.ev, LV.flat, ite_true, ite_false, exists_eq_left', exists_eq_left, keyOf, implies_true, fillC, capOf]
  refine callK_of (g_isDirectionB) ?_
  simp (disch := omega) only [↓SXd, SXu, slBounds, ↓sop, ↓aop, ↓reduceIte, LV.cells, AOp.dst, LV.I, LV.B, LV.U, LV.S, LV.nil, Nat.reduceEqDiff, Nat.reduceAdd, Nat.reduceMul, Nat.reduceSub, Nat.reduceLeDiff, Nat.reduceBEq, Nat.reduceDiv, Nat.reduceMod, Int.reduceToNat, Int.reduceLT, Int.reduceLE, Int.reduceAdd, Int.reduceSub, Int.reduceMul, Int.reduceEq, Int.reduceNeg, reduceCtorEq, resV, resAll, ARes.ev, LV.flat, ite_true, ite_false, exists_eq_left', exists_eq_left, keyOf, implies_true, fillC, capOf]
  by_cases hd : 0 ≤ d ∧ d ≤ 2
  rotate_left
  · simp (disch := omega) only [hd, splice, ↓SXd, SXu, slBounds, ↓sop, ↓aop, ↓reduceIte, LV.cells, AOp.dst, LV.I, LV.B, LV.U, LV.S, LV.nil, Nat.reduceEqDiff, Nat.reduceAdd, Nat.reduceMul, Nat.reduceSub, Nat.reduceLeDiff, Nat.reduceBEq, Nat.reduceDiv, Nat.reduceMod, Int.reduceToNat, Int.reduceLT, Int.reduceLE, Int.reduceAdd, Int.reduceSub, Int.reduceMul, Int.reduceEq, Int.reduceNeg, reduceCtorEq, resV, resAll, ARes.ev, LV.flat, ite_true, ite_false, exists_eq_left', exists_eq_left, keyOf, implies_true, fillC, capOf]
    exact heapX_no (if_neg fun e => hd (dir_in.1 e.2)) rfl (Pre.app _ _)
  have hD := dir_in.2 hd
  have hif : mirOf x y z cs d = some ⟨x, y, z, mirD x y z d cs⟩ := if_pos ⟨hH, hD⟩
  rw [hif]
  simp (disch := omega) only [hd, ↓SXd, SXu, slBounds, ↓sop, ↓aop, ↓reduceIte, LV.cells, AOp.dst, LV.I, LV.B, LV.U, LV.S, LV.nil, Nat.reduceEqDiff, Nat.reduceAdd, Nat.reduceMul, Nat.reduceSub, Nat.reduceLeDiff, Nat.reduceBEq, Nat.reduceDiv, Nat.reduceMod, Int.reduceToNat, Int.reduceLT, Int.reduceLE, Int.reduceAdd, Int.reduceSub, Int.reduceMul, Int.reduceEq, Int.reduceNeg, reduceCtorEq, resV, resAll, ARes.ev, LV.flat, ite_true, ite_false, exists_eq_left', exists_eq_left, keyOf, implies_true, fillC, capOf]
  refine callK_of (g_box) ?_
  simp (disch := omega) only [↓SXd, SXu, slBounds, ↓sop, ↓aop, ↓reduceIte, LV.cells, AOp.dst, LV.I, LV.B, LV.U, LV.S, LV.nil, Nat.reduceEqDiff, Nat.reduceAdd, Nat.reduceMul, Nat.reduceSub, Nat.reduceLeDiff, Nat.reduceBEq, Nat.reduceDiv, Nat.reduceMod, Int.reduceToNat, Int.reduceLT, Int.reduceLE, Int.reduceAdd, Int.reduceSub, Int.reduceMul, Int.reduceEq, Int.reduceNeg, reduceCtorEq, resV, resAll, ARes.ev, LV.flat, ite_true, ite_false, exists_eq_left', exists_eq_left, keyOf, implies_true, fillC, capOf]
  refine callK_of (g_moved (g := mirDC x y z d) (Has.app h.has) (by omega) hH.1 (fun c hc => mirDC_in (hH.mem hc)) fun N hp c hcc => ?_) ?_
  · exact g_mirrorD_1 hH.1 (hH.mem hcc) hD ((Live.newj (j := 0) rfl).pre hp) ((Live.newj (j := 1) rfl).pre hp)
  simp (disch := omega) only [splice, ↓SXd, SXu, slBounds, ↓sop, ↓aop, ↓reduceIte, LV.cells, AOp.dst, LV.I, LV.B, LV.U, LV.S, LV.nil, Nat.reduceEqDiff, Nat.reduceAdd, Nat.reduceMul, Nat.reduceSub, Nat.reduceLeDiff, Nat.reduceBEq, Nat.reduceDiv, Nat.reduceMod, Int.reduceToNat, Int.reduceLT, Int.reduceLE, Int.reduceAdd, Int.reduceSub, Int.reduceMul, Int.reduceEq, Int.reduceNeg, reduceCtorEq, resV, resAll, ARes.ev, LV.flat, ite_true, ite_false, exists_eq_left', exists_eq_left, keyOf, implies_true, fillC, capOf]
  exact .inl ⟨⟨M.length + 3, rfl, Live.newj (j := 3) rfl, by omega⟩, Pre.app _ _⟩
end
section
variable {x y z x' y' z' : Int} {t t' : Nat} {w w' : Bool} {cs ds : List Cell} {M : Mem} (h : Live M t (.row (triL cs) w 3)) (hn : cs.length ≤ 1000000000) (h' : Live M t' (.row (triL ds) w' 3)) (hn' : ds.length ≤ 1000000000)
include h hn h' hn'
end
end Go.Ab

/- The abstract code of some functions (written by a program of mine from the translation, by way of prepF). -/
namespace Go.Ab.C
open Go.Ab
def impl_SightsOf : AFn :=
 ⟨3, 50, [.tmp 6, .tmp 7],
 .seq (.ops [(none, .box 3 (.t 0)),
 (none, .mv 6 (.c .nil)),
 (none, .mv 7 (.c (.B false)))])
 (.seq (.seq (.ops [(none, .loadN 15 4 (.t 3)),
 (none, .mv 16 (.t 1)),
 (none, .call (some 17) F.impl_isFlat [(.t 15), (.t 16)]),
 (none, .un 18 .not (.t 17))])
 (.cond (.t 18) (.seq (.ops [(none, .mv 6 (.c .nil)),
 (none, .mv 7 (.c (.B false)))])
 (.ret))
 (.skip)))
 (.seq (.ops [(none, .buildSl 19 0 1 [] []),
 (none, .mv 8 (.t 19))])
 (.seq (.seq (.ops [(none, .loadN 20 4 (.t 3)),
 (none, .mv 21 (.t 1)),
 (none, .call (some 22) F.impl_Heap_rows [(.t 20), (.t 21)]),
 (none, .len 23 (.t 22)),
 (none, .mv 24 (.c (.I 0)))])
 (.block 0 (.loop (.seq (.ops [(none, .bin 25 .lss (.t 24) (.t 23))])
 (.seq (.cond (.t 25) (.skip)
 (.exit 0))
 (.seq (.block 1 (.seq (.ops [(none, .idxS 26 1 (.t 22) (.t 24)),
 (none, .load1 27 (.t 26)),
 (none, .mv 10 (.t 27))])
 (.seq (.seq (.ops [(none, .mv 28 (.t 2))])
 (.cond (.t 28) (.ops [(none, .mv 29 (.t 10)),
 (none, .call (some 30) F.slices_Reverse_Sint_int [(.t 29)])])
 (.skip)))
 (.seq (.ops [(none, .mv 11 (.c (.I 0))),
 (none, .mv 12 (.c (.I 0)))])
 (.seq (.seq (.ops [(none, .mv 31 (.t 10)),
 (none, .len 32 (.t 31)),
 (none, .mv 33 (.c (.I 0)))])
 (.block 2 (.loop (.seq (.ops [(none, .bin 34 .lss (.t 33) (.t 32))])
 (.seq (.cond (.t 34) (.skip)
 (.exit 2))
 (.seq (.block 3 (.seq (.ops [(none, .idxS 35 1 (.t 31) (.t 33)),
 (none, .load1 36 (.t 35)),
 (none, .mv 14 (.t 36))])
 (.seq (.ops [(none, .mv 37 (.t 14)),
 (none, .mv 38 (.t 12)),
 (none, .bin 39 .gtr (.t 37) (.t 38))])
 (.cond (.t 39) (.ops [(none, .mv 40 (.t 11)),
 (none, .bin 41 .add (.t 40) (.c (.I 1))),
 (none, .mv 42 (.t 14)),
 (none, .mv 11 (.t 41)),
 (none, .mv 12 (.t 42))])
 (.skip)))))
 (.ops [(none, .bin 43 .add (.t 33) (.c (.I 1))),
 (none, .mv 33 (.t 43))])))))))
 (.ops [(none, .mv 44 (.t 8)),
 (none, .mv 45 (.t 11)),
 (none, .buildSl 46 1 1 [(.I 0)] [(0, 1, (.t 45))]),
 (none, .append 47 1 8 (.t 44) (.t 46)),
 (none, .mv 8 (.t 47))]))))))
 (.ops [(none, .bin 48 .add (.t 24) (.c (.I 1))),
 (none, .mv 24 (.t 48))])))))))
 (.seq (.ops [(none, .mv 49 (.t 8)),
 (none, .mv 6 (.t 49)),
 (none, .mv 7 (.c (.B true)))])
 (.ret)))))⟩
def impl_SkyLine : AFn :=
 ⟨2, 29, [.tmp 4, .tmp 5],
 .seq (.ops [(none, .box 2 (.t 0)),
 (none, .mv 4 (.c .nil)),
 (none, .mv 5 (.c (.B false)))])
 (.seq (.seq (.ops [(none, .loadN 9 4 (.t 2)),
 (none, .mv 10 (.t 1)),
 (none, .call (some 11) F.impl_isFlat [(.t 9), (.t 10)]),
 (none, .un 12 .not (.t 11))])
 (.cond (.t 12) (.seq (.ops [(none, .mv 4 (.c .nil)),
 (none, .mv 5 (.c (.B false)))])
 (.ret))
 (.skip)))
 (.seq (.ops [(none, .buildSl 13 0 1 [] []),
 (none, .mv 6 (.t 13))])
 (.seq (.seq (.ops [(none, .loadN 14 4 (.t 2)),
 (none, .mv 15 (.t 1)),
 (none, .call (some 16) F.impl_Heap_rows [(.t 14), (.t 15)]),
 (none, .len 17 (.t 16)),
 (none, .mv 18 (.c (.I 0)))])
 (.block 0 (.loop (.seq (.ops [(none, .bin 19 .lss (.t 18) (.t 17))])
 (.seq (.cond (.t 19) (.skip)
 (.exit 0))
 (.seq (.block 1 (.seq (.ops [(none, .idxS 20 1 (.t 16) (.t 18)),
 (none, .load1 21 (.t 20)),
 (none, .mv 8 (.t 21))])
 (.ops [(none, .mv 22 (.t 6)),
 (none, .mv 23 (.t 8)),
 (none, .call (some 24) F.slices_Max_Sint_int [(.t 23)]),
 (none, .buildSl 25 1 1 [(.I 0)] [(0, 1, (.t 24))]),
 (none, .append 26 1 8 (.t 22) (.t 25)),
 (none, .mv 6 (.t 26))])))
 (.ops [(none, .bin 27 .add (.t 18) (.c (.I 1))),
 (none, .mv 18 (.t 27))])))))))
 (.seq (.ops [(none, .mv 28 (.t 6)),
 (none, .mv 4 (.t 28)),
 (none, .mv 5 (.c (.B true)))])
 (.ret)))))⟩
end Go.Ab.C

/- That the program has this code. -/
namespace Go.Ab.K
open Go Go.Ab
theorem impl_SightsOf : prepF Go.Proofs.Try.prog F.impl_SightsOf = some C.impl_SightsOf := by kernel_rfl
theorem impl_SkyLine : prepF Go.Proofs.Try.prog F.impl_SkyLine = some C.impl_SkyLine := by kernel_rfl
end Go.Ab.K

/- The abstract code of some functions (written by a program of mine from the translation, by way of prepF). -/
namespace Go.Ab.C
open Go.Ab
def impl_Heap_rows : AFn :=
 ⟨2, 49, [.tmp 4],
 .seq (.ops [(none, .box 2 (.t 0)),
 (none, .mv 4 (.c .nil))])
 (.seq (.ops [(none, .loadN 10 4 (.t 2)),
 (none, .call (some 11) F.impl_Heap_box [(.t 10)]),
 (none, .mv 12 (.t 1)),
 (none, .bin 13 .sub (.c (.I 1)) (.t 12)),
 (none, .index 14 3 1 false (.t 11) (.t 13)),
 (none, .mksl 15 1 24 [.nil] (.t 14) (.t 14)),
 (none, .mv 5 (.t 15))])
 (.seq (.seq (.ops [(none, .loadN 16 4 (.t 2)),
 (none, .call (some 17) F.impl_Heap_heights [(.t 16)]),
 (none, .len 18 (.t 17)),
 (none, .mv 19 (.c (.I 0)))])
 (.block 0 (.loop (.seq (.ops [(none, .bin 20 .lss (.t 19) (.t 18))])
 (.seq (.cond (.t 20) (.skip)
 (.exit 0))
 (.seq (.block 1 (.seq (.ops [(none, .mv 21 (.t 19)),
 (none, .idxS 22 1 (.t 17) (.t 19)),
 (none, .load1 23 (.t 22)),
 (none, .mv 6 (.t 21)),
 (none, .mv 7 (.t 23))])
 (.seq (.draw [⟨(none, .mv 24 (.t 6)), [], []⟩,
 ⟨(none, .fieldAddr 25 (.t 2) 1), [], []⟩,
 ⟨(none, .load1 26 (.t 25)), [], []⟩,
 ⟨(none, .bin 27 .quo (.t 24) (.t 26)), [], []⟩,
 ⟨(none, .mv 28 (.t 6)), [], []⟩,
 ⟨(none, .fieldAddr 29 (.t 2) 1), [], []⟩,
 ⟨(none, .load1 30 (.t 29)), [], []⟩,
 ⟨(none, .bin 31 .rem (.t 28) (.t 30)), [], []⟩,
 ⟨(none, .build 32 [(.I 0), (.I 0)] [(0, 1, (.t 27)), (1, 1, (.t 31))]), [], []⟩,
 ⟨(none, .alloc 8 [(.I 0), (.I 0)]), [], []⟩,
 ⟨(none, .store 2 (.t 8) (.t 32)), [], []⟩])
 (.seq (.ops [(none, .mv 33 (.t 1)),
 (none, .bin 34 .sub (.c (.I 1)) (.t 33)),
 (none, .idxA 35 2 1 (.t 8) (.t 34)),
 (none, .load1 36 (.t 35)),
 (none, .mv 9 (.t 36))])
 (.ops [(none, .mv 37 (.t 5)),
 (none, .mv 38 (.t 9)),
 (none, .mv 39 (.t 5)),
 (none, .mv 40 (.t 9)),
 (none, .idxS 41 1 (.t 39) (.t 40)),
 (none, .load1 42 (.t 41)),
 (none, .mv 43 (.t 7)),
 (none, .buildSl 44 1 1 [(.I 0)] [(0, 1, (.t 43))]),
 (none, .append 45 1 8 (.t 42) (.t 44)),
 (none, .idxS 46 1 (.t 37) (.t 38)),
 (none, .store 1 (.t 46) (.t 45))])))))
 (.ops [(none, .bin 47 .add (.t 19) (.c (.I 1))),
 (none, .mv 19 (.t 47))])))))))
 (.seq (.ops [(none, .mv 48 (.t 5)),
 (none, .mv 4 (.t 48))])
 (.ret))))⟩
def impl_isFlat : AFn :=
 ⟨2, 11, [.tmp 4],
 .seq (.ops [(none, .box 2 (.t 0)),
 (none, .mv 4 (.c (.B false)))])
 (.seq (.ops [(none, .loadN 5 4 (.t 2)),
 (none, .call (some 6) F.impl_IsHeap [(.t 5)]),
 (none, .mv 7 (.t 6)),
 (some (7, true), .mv 8 (.t 1)),
 (some (7, true), .call (some 9) F.impl_within [(.t 8), (.c (.I 0)), (.c (.I 1))]),
 (none, .pick 10 (.t 7) (.t 9) (.c (.B false))),
 (none, .mv 4 (.t 10))])
 (.ret))⟩
def slices_Reverse_Sint_int : AFn :=
 ⟨1, 28, [],
 .seq (.ops [(none, .mv 4 (.t 0)),
 (none, .len 5 (.t 4)),
 (none, .bin 6 .sub (.t 5) (.c (.I 1))),
 (none, .mv 2 (.c (.I 0))),
 (none, .mv 3 (.t 6))])
 (.block 0 (.loop (.seq (.seq (.ops [(none, .mv 7 (.t 2)),
 (none, .mv 8 (.t 3)),
 (none, .bin 9 .lss (.t 7) (.t 8))])
 (.cond (.t 9) (.skip)
 (.exit 0)))
 (.seq (.block 1 (.draw [⟨(none, .mv 14 (.t 0)), [], []⟩,
 ⟨(none, .mv 15 (.t 2)), [], []⟩,
 ⟨(none, .mv 16 (.t 0)), [], []⟩,
 ⟨(none, .mv 17 (.t 3)), [], []⟩,
 ⟨(none, .mv 18 (.t 0)), [], []⟩,
 ⟨(none, .mv 19 (.t 3)), [], []⟩,
 ⟨(none, .idxS 20 1 (.t 18) (.t 19)), [], []⟩,
 ⟨(none, .load1 21 (.t 20)), [], []⟩,
 ⟨(none, .mv 22 (.t 0)), [], []⟩,
 ⟨(none, .mv 23 (.t 2)), [], []⟩,
 ⟨(none, .idxS 24 1 (.t 22) (.t 23)), [], []⟩,
 ⟨(none, .load1 25 (.t 24)), [], []⟩,
 ⟨(none, .idxS 26 1 (.t 14) (.t 15)), [], []⟩,
 ⟨(none, .store 1 (.t 26) (.t 21)), [], [2, 3]⟩,
 ⟨(none, .idxS 27 1 (.t 16) (.t 17)), [], []⟩,
 ⟨(none, .store 1 (.t 27) (.t 25)), [], []⟩]))
 (.ops [(none, .mv 10 (.t 2)),
 (none, .bin 11 .add (.t 10) (.c (.I 1))),
 (none, .mv 12 (.t 3)),
 (none, .bin 13 .sub (.t 12) (.c (.I 1))),
 (none, .mv 2 (.t 11)),
 (none, .mv 3 (.t 13))])))))⟩
def slices_Max_Sint_int : AFn :=
 ⟨1, 25, [.tmp 2],
 .seq (.ops [(none, .mv 2 (.c (.I 0)))])
 (.seq (.seq (.ops [(none, .mv 5 (.t 0)),
 (none, .len 6 (.t 5)),
 (none, .bin 7 .lss (.t 6) (.c (.I 1)))])
 (.cond (.t 7) (.ops [(none, .bad),
 (none, .bad)])
 (.skip)))
 (.seq (.ops [(none, .mv 9 (.t 0)),
 (none, .idxS 10 1 (.t 9) (.c (.I 0))),
 (none, .load1 11 (.t 10)),
 (none, .mv 3 (.t 11))])
 (.seq (.seq (.ops [(none, .mv 4 (.c (.I 1)))])
 (.block 0 (.loop (.seq (.seq (.ops [(none, .mv 12 (.t 4)),
 (none, .mv 13 (.t 0)),
 (none, .len 14 (.t 13)),
 (none, .bin 15 .lss (.t 12) (.t 14))])
 (.cond (.t 15) (.skip)
 (.exit 0)))
 (.seq (.block 1 (.ops [(none, .mv 18 (.t 3)),
 (none, .mv 19 (.t 0)),
 (none, .mv 20 (.t 4)),
 (none, .idxS 21 1 (.t 19) (.t 20)),
 (none, .load1 22 (.t 21)),
 (none, .mm 23 true [(.t 18), (.t 22)]),
 (none, .mv 3 (.t 23))]))
 (.ops [(none, .mv 16 (.t 4)),
 (none, .bin 17 .add (.t 16) (.c (.I 1))),
 (none, .mv 4 (.t 17))]))))))
 (.seq (.ops [(none, .mv 24 (.t 3)),
 (none, .mv 2 (.t 24))])
 (.ret)))))⟩
end Go.Ab.C

/- That the program has this code. -/
namespace Go.Ab.K
open Go Go.Ab
theorem impl_Heap_rows : prepF Go.Proofs.Try.prog F.impl_Heap_rows = some C.impl_Heap_rows := by kernel_rfl
theorem impl_isFlat : prepF Go.Proofs.Try.prog F.impl_isFlat = some C.impl_isFlat := by kernel_rfl
theorem slices_Reverse_Sint_int : prepF Go.Proofs.Try.prog F.slices_Reverse_Sint_int = some C.slices_Reverse_Sint_int := by kernel_rfl
theorem slices_Max_Sint_int : prepF Go.Proofs.Try.prog F.slices_Max_Sint_int = some C.slices_Max_Sint_int := by kernel_rfl
end Go.Ab.K

/- The abstract code of some functions (written by a program of mine from the translation, by way of prepF). -/
namespace Go.Ab.C
open Go.Ab
def spec_l10Lines : AFn :=
 ⟨2, 60, [.tmp 4],
 .seq (.ops [(none, .box 2 (.t 0)),
 (none, .mv 4 (.c .nil))])
 (.seq (.ops [(none, .buildSl 10 0 1 [] []),
 (none, .loadN 11 4 (.t 2)),
 (none, .call (some 12) F.spec_l2Tops [(.t 11)]),
 (none, .mv 5 (.t 10)),
 (none, .mv 6 (.t 12))])
 (.seq (.seq (.ops [(none, .mv 7 (.c (.I 0)))])
 (.block 0 (.loop (.seq (.seq (.ops [(none, .mv 13 (.t 7)),
 (none, .loadN 14 4 (.t 2)),
 (none, .mv 15 (.t 1)),
 (none, .bin 16 .sub (.c (.I 1)) (.t 15)),
 (none, .call (some 17) F.spec_l2Long [(.t 14), (.t 16)]),
 (none, .bin 18 .lss (.t 13) (.t 17))])
 (.cond (.t 18) (.skip)
 (.exit 0)))
 (.seq (.block 1 (.seq (.ops [(none, .buildSl 21 0 1 [] []),
 (none, .mv 8 (.t 21))])
 (.seq (.seq (.ops [(none, .mv 9 (.c (.I 0)))])
 (.block 2 (.loop (.seq (.seq (.ops [(none, .mv 22 (.t 9)),
 (none, .loadN 23 4 (.t 2)),
 (none, .mv 24 (.t 1)),
 (none, .call (some 25) F.spec_l2Long [(.t 23), (.t 24)]),
 (none, .bin 26 .lss (.t 22) (.t 25))])
 (.cond (.t 26) (.skip)
 (.exit 2)))
 (.seq (.block 3 (.seq (.ops [(none, .mv 29 (.t 1)),
 (none, .bin 30 .eql (.t 29) (.c (.I 0)))])
 (.cond (.t 30) (.ops [(none, .mv 31 (.t 8)),
 (none, .mv 32 (.t 6)),
 (none, .mv 33 (.t 9)),
 (none, .fieldAddr 34 (.t 2) 1),
 (none, .load1 35 (.t 34)),
 (none, .bin 36 .mul (.t 33) (.t 35)),
 (none, .mv 37 (.t 7)),
 (none, .bin 38 .add (.t 36) (.t 37)),
 (none, .idxS 39 1 (.t 32) (.t 38)),
 (none, .load1 40 (.t 39)),
 (none, .buildSl 41 1 1 [(.I 0)] [(0, 1, (.t 40))]),
 (none, .append 42 1 8 (.t 31) (.t 41)),
 (none, .mv 8 (.t 42))])
 (.ops [(none, .mv 43 (.t 8)),
 (none, .mv 44 (.t 6)),
 (none, .mv 45 (.t 7)),
 (none, .fieldAddr 46 (.t 2) 1),
 (none, .load1 47 (.t 46)),
 (none, .bin 48 .mul (.t 45) (.t 47)),
 (none, .mv 49 (.t 9)),
 (none, .bin 50 .add (.t 48) (.t 49)),
 (none, .idxS 51 1 (.t 44) (.t 50)),
 (none, .load1 52 (.t 51)),
 (none, .buildSl 53 1 1 [(.I 0)] [(0, 1, (.t 52))]),
 (none, .append 54 1 8 (.t 43) (.t 53)),
 (none, .mv 8 (.t 54))]))))
 (.ops [(none, .mv 27 (.t 9)),
 (none, .bin 28 .add (.t 27) (.c (.I 1))),
 (none, .mv 9 (.t 28))]))))))
 (.ops [(none, .mv 55 (.t 5)),
 (none, .mv 56 (.t 8)),
 (none, .buildSl 57 1 1 [.nil] [(0, 1, (.t 56))]),
 (none, .append 58 1 24 (.t 55) (.t 57)),
 (none, .mv 5 (.t 58))]))))
 (.ops [(none, .mv 19 (.t 7)),
 (none, .bin 20 .add (.t 19) (.c (.I 1))),
 (none, .mv 7 (.t 20))]))))))
 (.seq (.ops [(none, .mv 59 (.t 5)),
 (none, .mv 4 (.t 59))])
 (.ret))))⟩
def spec_SightsOf : AFn :=
 ⟨3, 74, [.tmp 6, .tmp 7],
 .seq (.ops [(none, .box 3 (.t 0)),
 (none, .mv 6 (.c .nil)),
 (none, .mv 7 (.c (.B false)))])
 (.seq (.ops [(none, .buildSl 16 0 1 [] []),
 (none, .mv 8 (.t 16))])
 (.seq (.seq (.ops [(none, .loadN 17 4 (.t 3)),
 (none, .call (some 18) F.spec_l2Heap [(.t 17)]),
 (none, .un 19 .not (.t 18)),
 (none, .mv 20 (.t 19)),
 (some (20, false), .mv 21 (.t 1)),
 (some (20, false), .call (some 22) F.spec_l1In [(.t 21), (.c (.I 0)), (.c (.I 1))]),
 (some (20, false), .un 23 .not (.t 22)),
 (none, .pick 24 (.t 20) (.c (.B true)) (.t 23))])
 (.cond (.t 24) (.seq (.ops [(none, .mv 25 (.t 8)),
 (none, .mv 6 (.t 25)),
 (none, .mv 7 (.c (.B false)))])
 (.ret))
 (.skip)))
 (.seq (.ops [(none, .loadN 26 4 (.t 3)),
 (none, .mv 27 (.t 1)),
 (none, .call (some 28) F.spec_l10Lines [(.t 26), (.t 27)]),
 (none, .mv 9 (.t 28))])
 (.seq (.seq (.ops [(none, .mv 10 (.c (.I 0)))])
 (.block 0 (.loop (.seq (.seq (.ops [(none, .mv 29 (.t 10)),
 (none, .mv 30 (.t 9)),
 (none, .len 31 (.t 30)),
 (none, .bin 32 .lss (.t 29) (.t 31))])
 (.cond (.t 32) (.skip)
 (.exit 0)))
 (.seq (.block 1 (.seq (.draw [⟨(none, .mv 35 (.t 9)), [], []⟩,
 ⟨(none, .mv 36 (.t 10)), [], []⟩,
 ⟨(none, .idxS 37 1 (.t 35) (.t 36)), [], []⟩,
 ⟨(none, .load1 38 (.t 37)), [], []⟩,
 ⟨(none, .len 39 (.t 38)), [], []⟩,
 ⟨(none, .mv 11 (.c (.I 0))), [], []⟩,
 ⟨(none, .mv 12 (.c (.I 0))), [], []⟩,
 ⟨(none, .mv 13 (.t 39)), [], []⟩])
 (.seq (.seq (.ops [(none, .mv 14 (.c (.I 0)))])
 (.block 2 (.loop (.seq (.seq (.ops [(none, .mv 40 (.t 14)),
 (none, .mv 41 (.t 13)),
 (none, .bin 42 .lss (.t 40) (.t 41))])
 (.cond (.t 42) (.skip)
 (.exit 2)))
 (.seq (.block 3 (.seq (.ops [(none, .mv 45 (.t 9)),
 (none, .mv 46 (.t 10)),
 (none, .idxS 47 1 (.t 45) (.t 46)),
 (none, .load1 48 (.t 47)),
 (none, .mv 49 (.t 14)),
 (none, .idxS 50 1 (.t 48) (.t 49)),
 (none, .load1 51 (.t 50)),
 (none, .mv 15 (.t 51))])
 (.seq (.seq (.ops [(none, .mv 52 (.t 2))])
 (.cond (.t 52) (.ops [(none, .mv 53 (.t 9)),
 (none, .mv 54 (.t 10)),
 (none, .idxS 55 1 (.t 53) (.t 54)),
 (none, .load1 56 (.t 55)),
 (none, .mv 57 (.t 13)),
 (none, .bin 58 .sub (.t 57) (.c (.I 1))),
 (none, .mv 59 (.t 14)),
 (none, .bin 60 .sub (.t 58) (.t 59)),
 (none, .idxS 61 1 (.t 56) (.t 60)),
 (none, .load1 62 (.t 61)),
 (none, .mv 15 (.t 62))])
 (.skip)))
 (.seq (.ops [(none, .mv 63 (.t 15)),
 (none, .mv 64 (.t 11)),
 (none, .bin 65 .gtr (.t 63) (.t 64))])
 (.cond (.t 65) (.seq (.ops [(none, .mv 66 (.t 15)),
 (none, .mv 11 (.t 66))])
 (.ops [(none, .mv 67 (.t 12)),
 (none, .bin 68 .add (.t 67) (.c (.I 1))),
 (none, .mv 12 (.t 68))]))
 (.skip))))))
 (.ops [(none, .mv 43 (.t 14)),
 (none, .bin 44 .add (.t 43) (.c (.I 1))),
 (none, .mv 14 (.t 44))]))))))
 (.ops [(none, .mv 69 (.t 8)),
 (none, .mv 70 (.t 12)),
 (none, .buildSl 71 1 1 [(.I 0)] [(0, 1, (.t 70))]),
 (none, .append 72 1 8 (.t 69) (.t 71)),
 (none, .mv 8 (.t 72))]))))
 (.ops [(none, .mv 33 (.t 10)),
 (none, .bin 34 .add (.t 33) (.c (.I 1))),
 (none, .mv 10 (.t 34))]))))))
 (.seq (.ops [(none, .mv 73 (.t 8)),
 (none, .mv 6 (.t 73)),
 (none, .mv 7 (.c (.B true)))])
 (.ret))))))⟩
def spec_SkyLine : AFn :=
 ⟨2, 53, [.tmp 4, .tmp 5],
 .seq (.ops [(none, .box 2 (.t 0)),
 (none, .mv 4 (.c .nil)),
 (none, .mv 5 (.c (.B false)))])
 (.seq (.ops [(none, .buildSl 11 0 1 [] []),
 (none, .mv 6 (.t 11))])
 (.seq (.seq (.ops [(none, .loadN 12 4 (.t 2)),
 (none, .call (some 13) F.spec_l2Heap [(.t 12)]),
 (none, .un 14 .not (.t 13)),
 (none, .mv 15 (.t 14)),
 (some (15, false), .mv 16 (.t 1)),
 (some (15, false), .call (some 17) F.spec_l1In [(.t 16), (.c (.I 0)), (.c (.I 1))]),
 (some (15, false), .un 18 .not (.t 17)),
 (none, .pick 19 (.t 15) (.c (.B true)) (.t 18))])
 (.cond (.t 19) (.seq (.ops [(none, .mv 20 (.t 6)),
 (none, .mv 4 (.t 20)),
 (none, .mv 5 (.c (.B false)))])
 (.ret))
 (.skip)))
 (.seq (.ops [(none, .loadN 21 4 (.t 2)),
 (none, .mv 22 (.t 1)),
 (none, .call (some 23) F.spec_l10Lines [(.t 21), (.t 22)]),
 (none, .mv 7 (.t 23))])
 (.seq (.seq (.ops [(none, .mv 8 (.c (.I 0)))])
 (.block 0 (.loop (.seq (.seq (.ops [(none, .mv 24 (.t 8)),
 (none, .mv 25 (.t 7)),
 (none, .len 26 (.t 25)),
 (none, .bin 27 .lss (.t 24) (.t 26))])
 (.cond (.t 27) (.skip)
 (.exit 0)))
 (.seq (.block 1 (.seq (.ops [(none, .mv 9 (.c (.I 0)))])
 (.seq (.seq (.ops [(none, .mv 10 (.c (.I 0)))])
 (.block 2 (.loop (.seq (.seq (.ops [(none, .mv 30 (.t 10)),
 (none, .mv 31 (.t 7)),
 (none, .mv 32 (.t 8)),
 (none, .idxS 33 1 (.t 31) (.t 32)),
 (none, .load1 34 (.t 33)),
 (none, .len 35 (.t 34)),
 (none, .bin 36 .lss (.t 30) (.t 35))])
 (.cond (.t 36) (.skip)
 (.exit 2)))
 (.seq (.block 3 (.ops [(none, .mv 39 (.t 9)),
 (none, .mv 40 (.t 7)),
 (none, .mv 41 (.t 8)),
 (none, .idxS 42 1 (.t 40) (.t 41)),
 (none, .load1 43 (.t 42)),
 (none, .mv 44 (.t 10)),
 (none, .idxS 45 1 (.t 43) (.t 44)),
 (none, .load1 46 (.t 45)),
 (none, .call (some 47) F.spec_l1Most [(.t 39), (.t 46)]),
 (none, .mv 9 (.t 47))]))
 (.ops [(none, .mv 37 (.t 10)),
 (none, .bin 38 .add (.t 37) (.c (.I 1))),
 (none, .mv 10 (.t 38))]))))))
 (.ops [(none, .mv 48 (.t 6)),
 (none, .mv 49 (.t 9)),
 (none, .buildSl 50 1 1 [(.I 0)] [(0, 1, (.t 49))]),
 (none, .append 51 1 8 (.t 48) (.t 50)),
 (none, .mv 6 (.t 51))]))))
 (.ops [(none, .mv 28 (.t 8)),
 (none, .bin 29 .add (.t 28) (.c (.I 1))),
 (none, .mv 8 (.t 29))]))))))
 (.seq (.ops [(none, .mv 52 (.t 6)),
 (none, .mv 4 (.t 52)),
 (none, .mv 5 (.c (.B true)))])
 (.ret))))))⟩
end Go.Ab.C

/- That the program has this code. -/
namespace Go.Ab.K
open Go Go.Ab
theorem spec_l10Lines : prepF Go.Proofs.Try.prog F.spec_l10Lines = some C.spec_l10Lines := by kernel_rfl
theorem spec_SightsOf : prepF Go.Proofs.Try.prog F.spec_SightsOf = some C.spec_SightsOf := by kernel_rfl
theorem spec_SkyLine : prepF Go.Proofs.Try.prog F.spec_SkyLine = some C.spec_SkyLine := by kernel_rfl
end Go.Ab.K

/- The abstract code of some functions (written by a program of mine from the translation, by way of prepF). -/
namespace Go.Ab.C
open Go.Ab
end Go.Ab.C

/- That the program has this code. -/
namespace Go.Ab.K
open Go Go.Ab
end Go.Ab.K

/- The abstract code of some functions (written by a program of mine from the translation, by way of prepF). -/
namespace Go.Ab.C
open Go.Ab
end Go.Ab.C

/- That the program has this code. -/
namespace Go.Ab.K
open Go Go.Ab
end Go.Ab.K

/- The abstract code of some functions (written by a program of mine from the translation, by way of prepF). -/
namespace Go.Ab.C
open Go.Ab
end Go.Ab.C

/- That the program has this code. -/
namespace Go.Ab.K
open Go Go.Ab
end Go.Ab.K

/- The abstract code of some functions (written by a program of mine from the translation, by way of prepF). -/
namespace Go.Ab.C
open Go.Ab
end Go.Ab.C

/- That the program has this code. -/
namespace Go.Ab.K
open Go Go.Ab
end Go.Ab.K

/- The abstract code of some functions (written by a program of mine from the translation, by way of prepF). -/
namespace Go.Ab.C
open Go.Ab
end Go.Ab.C

/- That the program has this code. -/
namespace Go.Ab.K
open Go Go.Ab
end Go.Ab.K

/- The abstract code of some functions (written by a program of mine from the translation, by way of prepF). -/
namespace Go.Ab.C
open Go.Ab
end Go.Ab.C

/- That the program has this code. -/
namespace Go.Ab.K
open Go Go.Ab
end Go.Ab.K

/- The abstract code of some functions (written by a program of mine from the translation, by way of prepF). -/
namespace Go.Ab.C
open Go.Ab
def slices_IndexFunc_Sint_int : AFn :=
 ⟨2, 19, [.tmp 4],
 .seq (.ops [(none, .mv 4 (.c (.I 0)))])
 (.seq (.seq (.ops [(none, .mv 6 (.t 0)),
 (none, .len 7 (.t 6)),
 (none, .mv 8 (.c (.I 0)))])
 (.block 0 (.loop (.seq (.ops [(none, .bin 9 .lss (.t 8) (.t 7))])
 (.seq (.cond (.t 9) (.skip)
 (.exit 0))
 (.seq (.block 1 (.seq (.ops [(none, .mv 10 (.t 8)),
 (none, .mv 5 (.t 10))])
 (.seq (.ops [(none, .mv 11 (.t 1)),
 (none, .mv 12 (.t 0)),
 (none, .mv 13 (.t 5)),
 (none, .idxS 14 1 (.t 12) (.t 13)),
 (none, .load1 15 (.t 14)),
 (none, .callV (some 16) (.t 11) [(.t 15)])])
 (.cond (.t 16) (.seq (.ops [(none, .mv 17 (.t 5)),
 (none, .mv 4 (.t 17))])
 (.ret))
 (.skip)))))
 (.ops [(none, .bin 18 .add (.t 8) (.c (.I 1))),
 (none, .mv 8 (.t 18))])))))))
 (.seq (.ops [(none, .mv 4 (.c (.I (-1))))])
 (.ret)))⟩
end Go.Ab.C

/- That the program has this code. -/
namespace Go.Ab.K
open Go Go.Ab
theorem slices_IndexFunc_Sint_int : prepF Go.Proofs.Try.prog F.slices_IndexFunc_Sint_int = some C.slices_IndexFunc_Sint_int := by kernel_rfl
end Go.Ab.K

/- The abstract code of some functions (written by a program of mine from the translation, by way of prepF). -/
namespace Go.Ab.C
open Go.Ab
def impl_top_near : AFn :=
 ⟨2, 57, [.tmp 4],
 .seq (.ops [(none, .box 2 (.t 0)),
 (none, .mv 4 (.c .nil))])
 (.seq (.ops [(none, .buildSl 6 0 1 [] []),
 (none, .mv 5 (.t 6))])
 (.seq (.seq (.ops [(none, .mv 7 (.t 1)),
 (none, .fieldAddr 8 (.t 2) 1),
 (none, .load1 9 (.t 8)),
 (none, .bin 10 .geq (.t 7) (.t 9))])
 (.cond (.t 10) (.ops [(none, .mv 11 (.t 5)),
 (none, .mv 12 (.t 1)),
 (none, .fieldAddr 13 (.t 2) 1),
 (none, .load1 14 (.t 13)),
 (none, .bin 15 .sub (.t 12) (.t 14)),
 (none, .buildSl 16 1 1 [(.I 0)] [(0, 1, (.t 15))]),
 (none, .append 17 1 8 (.t 11) (.t 16)),
 (none, .mv 5 (.t 17))])
 (.skip)))
 (.seq (.seq (.ops [(none, .mv 18 (.t 1)),
 (none, .fieldAddr 19 (.t 2) 1),
 (none, .load1 20 (.t 19)),
 (none, .bin 21 .rem (.t 18) (.t 20)),
 (none, .bin 22 .gtr (.t 21) (.c (.I 0)))])
 (.cond (.t 22) (.ops [(none, .mv 23 (.t 5)),
 (none, .mv 24 (.t 1)),
 (none, .bin 25 .sub (.t 24) (.c (.I 1))),
 (none, .buildSl 26 1 1 [(.I 0)] [(0, 1, (.t 25))]),
 (none, .append 27 1 8 (.t 23) (.t 26)),
 (none, .mv 5 (.t 27))])
 (.skip)))
 (.seq (.seq (.draw [⟨(none, .mv 28 (.t 1)), [], []⟩,
 ⟨(none, .fieldAddr 29 (.t 2) 1), [], []⟩,
 ⟨(none, .load1 30 (.t 29)), [], []⟩,
 ⟨(none, .bin 31 .rem (.t 28) (.t 30)), [], []⟩,
 ⟨(none, .fieldAddr 32 (.t 2) 1), [], []⟩,
 ⟨(none, .load1 33 (.t 32)), [], []⟩,
 ⟨(none, .bin 34 .sub (.t 33) (.c (.I 1))), [], []⟩,
 ⟨(none, .bin 35 .lss (.t 31) (.t 34)), [], []⟩])
 (.cond (.t 35) (.ops [(none, .mv 36 (.t 5)),
 (none, .mv 37 (.t 1)),
 (none, .bin 38 .add (.t 37) (.c (.I 1))),
 (none, .buildSl 39 1 1 [(.I 0)] [(0, 1, (.t 38))]),
 (none, .append 40 1 8 (.t 36) (.t 39)),
 (none, .mv 5 (.t 40))])
 (.skip)))
 (.seq (.seq (.ops [(none, .mv 41 (.t 1)),
 (none, .fieldAddr 42 (.t 2) 1),
 (none, .load1 43 (.t 42)),
 (none, .bin 44 .add (.t 41) (.t 43)),
 (none, .fieldAddr 45 (.t 2) 0),
 (none, .load1 46 (.t 45)),
 (none, .len 47 (.t 46)),
 (none, .bin 48 .lss (.t 44) (.t 47))])
 (.cond (.t 48) (.ops [(none, .mv 49 (.t 5)),
 (none, .mv 50 (.t 1)),
 (none, .fieldAddr 51 (.t 2) 1),
 (none, .load1 52 (.t 51)),
 (none, .bin 53 .add (.t 50) (.t 52)),
 (none, .buildSl 54 1 1 [(.I 0)] [(0, 1, (.t 53))]),
 (none, .append 55 1 8 (.t 49) (.t 54)),
 (none, .mv 5 (.t 55))])
 (.skip)))
 (.seq (.ops [(none, .mv 56 (.t 5)),
 (none, .mv 4 (.t 56))])
 (.ret)))))))⟩
end Go.Ab.C

/- That the program has this code. -/
namespace Go.Ab.K
open Go Go.Ab
theorem impl_top_near : prepF Go.Proofs.Try.prog F.impl_top_near = some C.impl_top_near := by kernel_rfl
end Go.Ab.K

/- The abstract code of some functions (written by a program of mine from the translation, by way of prepF). -/
namespace Go.Ab.C
open Go.Ab
def impl_Heap_top : AFn :=
 ⟨1, 8, [.cellN 2 2],
 .seq (.ops [(none, .box 1 (.t 0)),
 (none, .alloc 2 [.nil, (.I 0)])])
 (.seq (.draw [⟨(none, .loadN 3 4 (.t 1)), [], []⟩,
 ⟨(none, .fieldAddr 5 (.t 1) 1), [], []⟩,
 ⟨(none, .load1 6 (.t 5)), [], []⟩,
 ⟨(none, .call (some 4) F.impl_Heap_heights [(.t 3)]), [], [1, 2]⟩,
 ⟨(none, .build 7 [.nil, (.I 0)] [(0, 1, (.t 4)), (1, 1, (.t 6))]), [], []⟩,
 ⟨(none, .store 2 (.t 2) (.t 7)), [], []⟩])
 (.ret))⟩
def impl_isTop : AFn :=
 ⟨3, 23, [.tmp 6],
 .seq (.ops [(none, .box 3 (.t 0)),
 (none, .mv 6 (.c (.B false)))])
 (.seq (.ops [(none, .loadN 7 4 (.t 3)),
 (none, .call (some 8) F.impl_IsHeap [(.t 7)]),
 (none, .mv 9 (.t 8)),
 (some (9, true), .mv 10 (.t 1)),
 (some (9, true), .bin 11 .geq (.t 10) (.c (.I 0))),
 (none, .pick 12 (.t 9) (.t 11) (.c (.B false))),
 (none, .mv 13 (.t 12)),
 (some (13, true), .mv 14 (.t 2)),
 (some (13, true), .fieldAddr 15 (.t 3) 0),
 (some (13, true), .load1 16 (.t 15)),
 (some (13, true), .fieldAddr 17 (.t 3) 1),
 (some (13, true), .load1 18 (.t 17)),
 (some (13, true), .bin 19 .mul (.t 16) (.t 18)),
 (some (13, true), .bin 20 .sub (.t 19) (.c (.I 1))),
 (some (13, true), .call (some 21) F.impl_allWithin [(.t 14), (.c (.I 0)), (.t 20)]),
 (none, .pick 22 (.t 13) (.t 21) (.c (.B false))),
 (none, .mv 6 (.t 22))])
 (.ret))⟩
end Go.Ab.C

/- That the program has this code. -/
namespace Go.Ab.K
open Go Go.Ab
theorem impl_Heap_top : prepF Go.Proofs.Try.prog F.impl_Heap_top = some C.impl_Heap_top := by kernel_rfl
theorem impl_isTop : prepF Go.Proofs.Try.prog F.impl_isTop = some C.impl_isTop := by kernel_rfl
end Go.Ab.K

/- The abstract code of some functions (written by a program of mine from the translation, by way of prepF). -/
namespace Go.Ab.C
open Go.Ab
def impl_Heap_heights : AFn :=
 ⟨1, 37, [.tmp 2],
 .seq (.ops [(none, .box 1 (.t 0)),
 (none, .mv 2 (.c .nil))])
 (.seq (.ops [(none, .fieldAddr 7 (.t 1) 0),
 (none, .load1 8 (.t 7)),
 (none, .fieldAddr 9 (.t 1) 1),
 (none, .load1 10 (.t 9)),
 (none, .bin 11 .mul (.t 8) (.t 10)),
 (none, .mksl 12 1 8 [(.I 0)] (.t 11) (.t 11)),
 (none, .mv 3 (.t 12))])
 (.seq (.seq (.ops [(none, .fieldAddr 13 (.t 1) 3),
 (none, .load1 14 (.t 13)),
 (none, .len 15 (.t 14)),
 (none, .mv 16 (.c (.I 0)))])
 (.block 0 (.loop (.seq (.ops [(none, .bin 17 .lss (.t 16) (.t 15))])
 (.seq (.cond (.t 17) (.skip)
 (.exit 0))
 (.seq (.block 1 (.seq (.ops [(none, .idxS 18 3 (.t 14) (.t 16)),
 (none, .loadN 19 3 (.t 18)),
 (none, .alloc 5 [(.I 0), (.I 0), (.I 0)]),
 (none, .store 3 (.t 5) (.t 19))])
 (.seq (.draw [⟨(none, .loadN 20 4 (.t 1)), [], []⟩,
 ⟨(none, .loadN 22 3 (.t 5)), [], []⟩,
 ⟨(none, .call (some 21) F.impl_Heap_box [(.t 20)]), [], [1]⟩,
 ⟨(none, .call (some 23) F.impl_box_line [(.t 21), (.t 22), (.c (.I 2))]), [], []⟩,
 ⟨(none, .mv 6 (.t 23)), [], []⟩])
 (.draw [⟨(none, .mv 24 (.t 3)), [], []⟩,
 ⟨(none, .mv 25 (.t 6)), [], []⟩,
 ⟨(none, .mv 26 (.t 3)), [], []⟩,
 ⟨(none, .mv 27 (.t 6)), [], []⟩,
 ⟨(none, .idxS 28 1 (.t 26) (.t 27)), [], []⟩,
 ⟨(none, .load1 29 (.t 28)), [], []⟩,
 ⟨(none, .idxA 30 3 1 (.t 5) (.c (.I 2))), [], []⟩,
 ⟨(none, .load1 31 (.t 30)), [], []⟩,
 ⟨(none, .bin 32 .add (.t 31) (.c (.I 1))), [], []⟩,
 ⟨(none, .mm 33 true [(.t 29), (.t 32)]), [], []⟩,
 ⟨(none, .idxS 34 1 (.t 24) (.t 25)), [], []⟩,
 ⟨(none, .store 1 (.t 34) (.t 33)), [], []⟩]))))
 (.ops [(none, .bin 35 .add (.t 16) (.c (.I 1))),
 (none, .mv 16 (.t 35))])))))))
 (.seq (.ops [(none, .mv 36 (.t 3)),
 (none, .mv 2 (.t 36))])
 (.ret))))⟩
end Go.Ab.C

/- That the program has this code. -/
namespace Go.Ab.K
open Go Go.Ab
theorem impl_Heap_heights : prepF Go.Proofs.Try.prog F.impl_Heap_heights = some C.impl_Heap_heights := by kernel_rfl
end Go.Ab.K

/- Contracts: g_heights. -/
namespace Go.Ab
open Go
set_option linter.unusedSimpArgs false
set_option linter.unusedVariables false
set_option maxRecDepth 20000

theorem g_heights {x y z : Int} {t o : Nat} {cs : List Cell} {M : Mem} (h : Tri M t o cs) (hn : cs.length ≤ 1000000000) (hH : HeapOK x y z cs) :
    CallsTo PG F.impl_Heap_heights [.agg [.I x, .I y, .I z, .ref t o cs.length]] M (.ref M.length 0 (x * y).toNat) (M ++ [some (.row (intL (topsOf x y cs)) true 1)]) := by
  have hb := mul_bound hH.1.1 hH.1.2.1
  refine calls_run K.impl_Heap_heights rfl ?_
  simp (disch := omega) only [C.impl_Heap_heights, made_int, ↓SXd, SXu, slBounds, ↓sop, ↓aop, ↓reduceIte, LV.cells, AOp.dst, LV.I, LV.B, LV.U, LV.S, LV.nil, Nat.reduceEqDiff, Nat.reduceAdd, Nat.reduceMul, Nat.reduceSub, Nat.reduceLeDiff, Nat.reduceBEq, Nat.reduceDiv, Nat.reduceMod, Int.reduceToNat, Int.reduceLT, Int.reduceLE, Int.reduceAdd, Int.reduceSub, Int.reduceMul, Int.reduceEq, Int.reduceNeg, reduceCtorEq, resV, resAll, ARes.ev, LV.flat, ite_true, ite_false, exists_eq_left', exists_eq_left, keyOf, implies_true, fillC, capOf]
  refine ev_loop (fun m fr M' => ∃ (k : Nat) (out : List Int), k + m = cs.length ∧ Pre M M' ∧ Live M' M.length (.row [.I x, .I y, .I z, .ref t o cs.length] true 0) ∧ Live M' (M.length + 1) (.row (intL out) true 1) ∧
    fr 1 = .ptr M.length 0 ∧ fr 3 = .ref (M.length + 1) 0 (x * y).toNat ∧ fr 14 = .ref t o cs.length ∧ fr 15 = .I (cs.length : Nat) ∧ fr 16 = .I k ∧
    out = (cs.take k).foldl (topStep y) (List.replicate (x * y).toNat 0) ∧ out.length = (x * y).toNat) cs.length ⟨0, _, by omega, Pre.app _ _, Live.new, Live.newj rfl, rfl, rfl, rfl, rfl, rfl, rfl, by simp⟩ ?_
  rintro m fr M' ⟨k, out, hk, hpre, hbox, hout, h1, h3, h14, h15, h16, ho, hol⟩
  have h' : Tri M' t o cs := h.pre hpre
  have ht := h'.lt
  simp (disch := omega) only [h1, h3, h14, h15, h16, ↓SXd, SXu, slBounds, ↓sop, ↓aop, ↓reduceIte, LV.cells, AOp.dst, LV.I, LV.B, LV.U, LV.S, LV.nil, Nat.reduceEqDiff, Nat.reduceAdd, Nat.reduceMul, Nat.reduceSub, Nat.reduceLeDiff, Nat.reduceBEq, Nat.reduceDiv, Nat.reduceMod, Int.reduceToNat, Int.reduceLT, Int.reduceLE, Int.reduceAdd, Int.reduceSub, Int.reduceMul, Int.reduceEq, Int.reduceNeg, reduceCtorEq, resV, resAll, ARes.ev, LV.flat, ite_true, ite_false, exists_eq_left', exists_eq_left, keyOf, implies_true, fillC, capOf]
  refine condC_dec (fun hlt => ?_) (fun hlt => ?_)
  · obtain ⟨ca, cb, cc⟩ := hH.cell' (k := k) (by omega)
    have hS := hH.1
    obtain ⟨b1, b2, b3, b4⟩ := col_bound hS.1 hS.2.1 ca cb
    obtain ⟨_, hy, hz⟩ := hS
    have hbox' : ∀ {L : Mem} {o n : Nat}, getCells (M' ++ L) M.length o n = _ := fun {L o n} => (hbox.app (L := L)).cells
    have houtc : ∀ {L : Mem} {o : Nat}, getCell (M' ++ L) (M.length + 1) o = _ := fun {L o} => (hout.app (L := L)).cell
    simp (disch := omega) only [h1, h3, h14, h15, h16, Tri.get h', Cell.row, hbox', ↓SXd, SXu, slBounds, ↓sop, ↓aop, ↓reduceIte, LV.cells, AOp.dst, LV.I, LV.B, LV.U, LV.S, LV.nil, Nat.reduceEqDiff, Nat.reduceAdd, Nat.reduceMul, Nat.reduceSub, Nat.reduceLeDiff, Nat.reduceBEq, Nat.reduceDiv, Nat.reduceMod, Int.reduceToNat, Int.reduceLT, Int.reduceLE, Int.reduceAdd, Int.reduceSub, Int.reduceMul, Int.reduceEq, Int.reduceNeg, reduceCtorEq, resV, resAll, ARes.ev, LV.flat, ite_true, ite_false, exists_eq_left', exists_eq_left, keyOf, implies_true, fillC, capOf]
    refine callK_of g_box ?_
    simp (disch := omega) only [h1, h3, h14, h15, h16, Tri.get h', Cell.row, hbox', ↓SXd, SXu, slBounds, ↓sop, ↓aop, ↓reduceIte, LV.cells, AOp.dst, LV.I, LV.B, LV.U, LV.S, LV.nil, Nat.reduceEqDiff, Nat.reduceAdd, Nat.reduceMul, Nat.reduceSub, Nat.reduceLeDiff, Nat.reduceBEq, Nat.reduceDiv, Nat.reduceMod, Int.reduceToNat, Int.reduceLT, Int.reduceLE, Int.reduceAdd, Int.reduceSub, Int.reduceMul, Int.reduceEq, Int.reduceNeg, reduceCtorEq, resV, resAll, ARes.ev, LV.flat, ite_true, ite_false, exists_eq_left', exists_eq_left, keyOf, implies_true, fillC, capOf]
    refine callK_of (g_line2 (by omega) (by omega)) ?_
    simp (disch := omega) only [h1, h3, h14, h15, h16, Tri.get h', Cell.row, hbox', houtc, intL_get, maxV, if_true, ↓SXd, SXu, slBounds, ↓sop, ↓aop, ↓reduceIte, LV.cells, AOp.dst, LV.I, LV.B, LV.U, LV.S, LV.nil, Nat.reduceEqDiff, Nat.reduceAdd, Nat.reduceMul, Nat.reduceSub, Nat.reduceLeDiff, Nat.reduceBEq, Nat.reduceDiv, Nat.reduceMod, Int.reduceToNat, Int.reduceLT, Int.reduceLE, Int.reduceAdd, Int.reduceSub, Int.reduceMul, Int.reduceEq, Int.reduceNeg, reduceCtorEq, resV, resAll, ARes.ev, LV.flat, ite_true, ite_false, exists_eq_left', exists_eq_left, keyOf, implies_true, fillC, capOf]
    refine memK_int hout.app (by omega) fun N l1 l2 l3 => ?_
    simp (disch := omega) only [h1, h3, h14, h15, h16, ↓SXd, SXu, slBounds, ↓sop, ↓aop, ↓reduceIte, LV.cells, AOp.dst, LV.I, LV.B, LV.U, LV.S, LV.nil, Nat.reduceEqDiff, Nat.reduceAdd, Nat.reduceMul, Nat.reduceSub, Nat.reduceLeDiff, Nat.reduceBEq, Nat.reduceDiv, Nat.reduceMod, Int.reduceToNat, Int.reduceLT, Int.reduceLE, Int.reduceAdd, Int.reduceSub, Int.reduceMul, Int.reduceEq, Int.reduceNeg, reduceCtorEq, resV, resAll, ARes.ev, LV.flat, ite_true, ite_false, exists_eq_left', exists_eq_left, keyOf, implies_true, fillC, capOf]
    refine ⟨m - 1, by omega, k + 1, _, by omega, pre_step (Pre.app' hpre) (by omega) (j := 0) l1 l3, live_step hbox.app (by omega) l3, l2, h1, h3, h14, h15, eqI (natI _), ?_, by simpa using hol⟩
    rw [take_succ_foldl _ _ _ _ default (by omega), ← ho]
    rfl
  · simp (disch := omega) only [h1, h3, h14, h15, h16, ↓SXd, SXu, slBounds, ↓sop, ↓aop, ↓reduceIte, LV.cells, AOp.dst, LV.I, LV.B, LV.U, LV.S, LV.nil, Nat.reduceEqDiff, Nat.reduceAdd, Nat.reduceMul, Nat.reduceSub, Nat.reduceLeDiff, Nat.reduceBEq, Nat.reduceDiv, Nat.reduceMod, Int.reduceToNat, Int.reduceLT, Int.reduceLE, Int.reduceAdd, Int.reduceSub, Int.reduceMul, Int.reduceEq, Int.reduceNeg, reduceCtorEq, resV, resAll, ARes.ev, LV.flat, ite_true, ite_false, exists_eq_left', exists_eq_left, keyOf, implies_true, fillC, capOf]
    have : k = cs.length := by omega
    subst this
    rw [List.take_length] at ho
    rw [show topsOf x y cs = out from ho.symm]
    exact cmp_keepL hpre (by omega) hout (intL_lo out) (by simp [rn, rn0, rn1])

end Go.Ab

/- Contracts: g_top g_isTop g_isTop_nil. -/
namespace Go.Ab
open Go
set_option linter.unusedSimpArgs false
set_option linter.unusedVariables false
set_option maxRecDepth 20000

theorem g_top {x y z : Int} {t o : Nat} {cs : List Cell} {M : Mem} (h : Tri M t o cs) (hn : cs.length ≤ 1000000000) (hH : HeapOK x y z cs) :
    CallsTo PG F.impl_Heap_top [.agg [.I x, .I y, .I z, .ref t o cs.length]] M (.agg [.ref M.length 0 (x * y).toNat, .I y]) (M ++ [some (.row (intL (topsOf x y cs)) true 1)]) := by
  refine calls_run K.impl_Heap_top rfl ?_
  simp (disch := omega) only [C.impl_Heap_top, ↓SXd, SXu, slBounds, ↓sop, ↓aop, ↓reduceIte, LV.cells, AOp.dst, LV.I, LV.B, LV.U, LV.S, LV.nil, Nat.reduceEqDiff, Nat.reduceAdd, Nat.reduceMul, Nat.reduceSub, Nat.reduceLeDiff, Nat.reduceBEq, Nat.reduceDiv, Nat.reduceMod, Int.reduceToNat, Int.reduceLT, Int.reduceLE, Int.reduceAdd, Int.reduceSub, Int.reduceMul, Int.reduceEq, Int.reduceNeg, reduceCtorEq, resV, resAll, ARes.ev, LV.flat, ite_true, ite_false, exists_eq_left', exists_eq_left, keyOf, implies_true, fillC, capOf]
  refine callK_of (g_heights h.app hn hH) ?_
  simp (disch := omega) only [↓SXd, SXu, slBounds, ↓sop, ↓aop, ↓reduceIte, LV.cells, AOp.dst, LV.I, LV.B, LV.U, LV.S, LV.nil, Nat.reduceEqDiff, Nat.reduceAdd, Nat.reduceMul, Nat.reduceSub, Nat.reduceLeDiff, Nat.reduceBEq, Nat.reduceDiv, Nat.reduceMod, Int.reduceToNat, Int.reduceLT, Int.reduceLE, Int.reduceAdd, Int.reduceSub, Int.reduceMul, Int.reduceEq, Int.reduceNeg, reduceCtorEq, resV, resAll, ARes.ev, LV.flat, ite_true, ite_false, exists_eq_left', exists_eq_left, keyOf, implies_true, fillC, capOf]
  exact cmp_keep1 (j := 2) rfl (intL_lo _) (by simp [rn, rn0, rn1, keepR_n])

theorem g_isTop {x y z s : Int} {t o t' o' : Nat} {cs : List Cell} {xs : List Int} {M : Mem} (h : Tri M t o cs) (hn : cs.length ≤ 1000000000) (h' : Ints M t' o' xs) (hn' : xs.length ≤ 1000000000) :
    CallsTo PG F.impl_isTop [.agg [.I x, .I y, .I z, .ref t o cs.length], .I s, .ref t' o' xs.length] M
      (.B (decide (HeapOK x y z cs ∧ 0 ≤ s ∧ ∀ k, k < xs.length → 0 ≤ xs.getD k 0 ∧ xs.getD k 0 ≤ x * y - 1))) M := by
  refine calls_run K.impl_isTop rfl ?_
  simp (disch := omega) only [C.impl_isTop, ↓SXd, SXu, slBounds, ↓sop, ↓aop, ↓reduceIte, LV.cells, AOp.dst, LV.I, LV.B, LV.U, LV.S, LV.nil, Nat.reduceEqDiff, Nat.reduceAdd, Nat.reduceMul, Nat.reduceSub, Nat.reduceLeDiff, Nat.reduceBEq, Nat.reduceDiv, Nat.reduceMod, Int.reduceToNat, Int.reduceLT, Int.reduceLE, Int.reduceAdd, Int.reduceSub, Int.reduceMul, Int.reduceEq, Int.reduceNeg, reduceCtorEq, resV, resAll, ARes.ev, LV.flat, ite_true, ite_false, exists_eq_left', exists_eq_left, keyOf, implies_true, fillC, capOf]
  refine callK_of (g_IsHeap h.app hn) ?_
  by_cases hH : HeapOK x y z cs
  · have hb := mul_bound hH.1.1 hH.1.2.1
    by_cases hs : 0 ≤ s
    · simp (disch := omega) only [hH, hs, ↓SXd, SXu, slBounds, ↓sop, ↓aop, ↓reduceIte, LV.cells, AOp.dst, LV.I, LV.B, LV.U, LV.S, LV.nil, Nat.reduceEqDiff, Nat.reduceAdd, Nat.reduceMul, Nat.reduceSub, Nat.reduceLeDiff, Nat.reduceBEq, Nat.reduceDiv, Nat.reduceMod, Int.reduceToNat, Int.reduceLT, Int.reduceLE, Int.reduceAdd, Int.reduceSub, Int.reduceMul, Int.reduceEq, Int.reduceNeg, reduceCtorEq, resV, resAll, ARes.ev, LV.flat, ite_true, ite_false, exists_eq_left', exists_eq_left, keyOf, implies_true, fillC, capOf]
      refine callK_of (g_allWithin h'.app hn') ?_
      simp (disch := omega) only [↓SXd, SXu, slBounds, ↓sop, ↓aop, ↓reduceIte, LV.cells, AOp.dst, LV.I, LV.B, LV.U, LV.S, LV.nil, Nat.reduceEqDiff, Nat.reduceAdd, Nat.reduceMul, Nat.reduceSub, Nat.reduceLeDiff, Nat.reduceBEq, Nat.reduceDiv, Nat.reduceMod, Int.reduceToNat, Int.reduceLT, Int.reduceLE, Int.reduceAdd, Int.reduceSub, Int.reduceMul, Int.reduceEq, Int.reduceNeg, reduceCtorEq, resV, resAll, ARes.ev, LV.flat, ite_true, ite_false, exists_eq_left', exists_eq_left, keyOf, implies_true, fillC, capOf]
      exact cmp_drop rfl
    · simp (disch := omega) only [hH, hs, false_and, ↓SXd, SXu, slBounds, ↓sop, ↓aop, ↓reduceIte, LV.cells, AOp.dst, LV.I, LV.B, LV.U, LV.S, LV.nil, Nat.reduceEqDiff, Nat.reduceAdd, Nat.reduceMul, Nat.reduceSub, Nat.reduceLeDiff, Nat.reduceBEq, Nat.reduceDiv, Nat.reduceMod, Int.reduceToNat, Int.reduceLT, Int.reduceLE, Int.reduceAdd, Int.reduceSub, Int.reduceMul, Int.reduceEq, Int.reduceNeg, reduceCtorEq, resV, resAll, ARes.ev, LV.flat, ite_true, ite_false, exists_eq_left', exists_eq_left, keyOf, implies_true, fillC, capOf]
      exact cmp_drop rfl
  · simp (disch := omega) only [hH, false_and, ↓SXd, SXu, slBounds, ↓sop, ↓aop, ↓reduceIte, LV.cells, AOp.dst, LV.I, LV.B, LV.U, LV.S, LV.nil, Nat.reduceEqDiff, Nat.reduceAdd, Nat.reduceMul, Nat.reduceSub, Nat.reduceLeDiff, Nat.reduceBEq, Nat.reduceDiv, Nat.reduceMod, Int.reduceToNat, Int.reduceLT, Int.reduceLE, Int.reduceAdd, Int.reduceSub, Int.reduceMul, Int.reduceEq, Int.reduceNeg, reduceCtorEq, resV, resAll, ARes.ev, LV.flat, ite_true, ite_false, exists_eq_left', exists_eq_left, keyOf, implies_true, fillC, capOf]
    exact cmp_drop rfl

theorem g_isTop_nil {x y z s : Int} {t o : Nat} {cs : List Cell} {M : Mem} (h : Tri M t o cs) (hn : cs.length ≤ 1000000000) :
    CallsTo PG F.impl_isTop [.agg [.I x, .I y, .I z, .ref t o cs.length], .I s, .nil] M (.B (decide (HeapOK x y z cs ∧ 0 ≤ s))) M := by
  refine calls_run K.impl_isTop rfl ?_
  simp (disch := omega) only [C.impl_isTop, ↓SXd, SXu, slBounds, ↓sop, ↓aop, ↓reduceIte, LV.cells, AOp.dst, LV.I, LV.B, LV.U, LV.S, LV.nil, Nat.reduceEqDiff, Nat.reduceAdd, Nat.reduceMul, Nat.reduceSub, Nat.reduceLeDiff, Nat.reduceBEq, Nat.reduceDiv, Nat.reduceMod, Int.reduceToNat, Int.reduceLT, Int.reduceLE, Int.reduceAdd, Int.reduceSub, Int.reduceMul, Int.reduceEq, Int.reduceNeg, reduceCtorEq, resV, resAll, ARes.ev, LV.flat, ite_true, ite_false, exists_eq_left', exists_eq_left, keyOf, implies_true, fillC, capOf]
  refine callK_of (g_IsHeap h.app hn) ?_
  by_cases hH : HeapOK x y z cs
  · have hb := mul_bound hH.1.1 hH.1.2.1
    by_cases hs : 0 ≤ s
    · simp (disch := omega) only [hH, hs, ↓SXd, SXu, slBounds, ↓sop, ↓aop, ↓reduceIte, LV.cells, AOp.dst, LV.I, LV.B, LV.U, LV.S, LV.nil, Nat.reduceEqDiff, Nat.reduceAdd, Nat.reduceMul, Nat.reduceSub, Nat.reduceLeDiff, Nat.reduceBEq, Nat.reduceDiv, Nat.reduceMod, Int.reduceToNat, Int.reduceLT, Int.reduceLE, Int.reduceAdd, Int.reduceSub, Int.reduceMul, Int.reduceEq, Int.reduceNeg, reduceCtorEq, resV, resAll, ARes.ev, LV.flat, ite_true, ite_false, exists_eq_left', exists_eq_left, keyOf, implies_true, fillC, capOf]
      refine callK_of g_allWithin_nil ?_
      simp (disch := omega) only [↓SXd, SXu, slBounds, ↓sop, ↓aop, ↓reduceIte, LV.cells, AOp.dst, LV.I, LV.B, LV.U, LV.S, LV.nil, Nat.reduceEqDiff, Nat.reduceAdd, Nat.reduceMul, Nat.reduceSub, Nat.reduceLeDiff, Nat.reduceBEq, Nat.reduceDiv, Nat.reduceMod, Int.reduceToNat, Int.reduceLT, Int.reduceLE, Int.reduceAdd, Int.reduceSub, Int.reduceMul, Int.reduceEq, Int.reduceNeg, reduceCtorEq, resV, resAll, ARes.ev, LV.flat, ite_true, ite_false, exists_eq_left', exists_eq_left, keyOf, implies_true, fillC, capOf]
      exact cmp_drop rfl
    · simp (disch := omega) only [hH, hs, false_and, ↓SXd, SXu, slBounds, ↓sop, ↓aop, ↓reduceIte, LV.cells, AOp.dst, LV.I, LV.B, LV.U, LV.S, LV.nil, Nat.reduceEqDiff, Nat.reduceAdd, Nat.reduceMul, Nat.reduceSub, Nat.reduceLeDiff, Nat.reduceBEq, Nat.reduceDiv, Nat.reduceMod, Int.reduceToNat, Int.reduceLT, Int.reduceLE, Int.reduceAdd, Int.reduceSub, Int.reduceMul, Int.reduceEq, Int.reduceNeg, reduceCtorEq, resV, resAll, ARes.ev, LV.flat, ite_true, ite_false, exists_eq_left', exists_eq_left, keyOf, implies_true, fillC, capOf]
      exact cmp_drop rfl
  · simp (disch := omega) only [hH, false_and, ↓SXd, SXu, slBounds, ↓sop, ↓aop, ↓reduceIte, LV.cells, AOp.dst, LV.I, LV.B, LV.U, LV.S, LV.nil, Nat.reduceEqDiff, Nat.reduceAdd, Nat.reduceMul, Nat.reduceSub, Nat.reduceLeDiff, Nat.reduceBEq, Nat.reduceDiv, Nat.reduceMod, Int.reduceToNat, Int.reduceLT, Int.reduceLE, Int.reduceAdd, Int.reduceSub, Int.reduceMul, Int.reduceEq, Int.reduceNeg, reduceCtorEq, resV, resAll, ARes.ev, LV.flat, ite_true, ite_false, exists_eq_left', exists_eq_left, keyOf, implies_true, fillC, capOf]
    exact cmp_drop rfl
end Go.Ab

/- Plain words: how far columns are, step by step. -/
namespace Go.Ab

theorem getD_mem {α : Type} {l : List α} {k : Nat} {d : α} (h : k < l.length) : l.getD k d ∈ l := by
  simp [h]

/-- One neighbour of column p is looked at. -/
def visit (p : Int) (st : List Int × List Int) (q : Int) : List Int × List Int :=
  if st.1.getD q.toNat 0 < 0 then (st.1.set q.toNat (st.1.getD p.toNat 0 + 1), st.2 ++ [q]) else st
def bfs (N : Int → List Int) : Nat → Nat → List Int × List Int → List Int
  | 0, _, st => st.1
  | f + 1, n, st => if n < st.2.length then bfs N f (n + 1) ((N (st.2.getD n 0)).foldl (visit (st.2.getD n 0)) st) else st.1
/-- How many steps lead from column p to each column, or -1. -/
def farFrom (c : Nat) (N : Int → List Int) (p : Int) : List Int := bfs N c 0 ((List.replicate c (-1)).set p.toNat 0, [p])

structure BInv (c : Nat) (st : List Int × List Int) : Prop where
  len : st.1.length = c
  cnt : st.1.countP (fun v => decide (v < 0)) + st.2.length = c
  mem : ∀ q ∈ st.2, 0 ≤ q ∧ q < (c : Int)
  val : ∀ k, k < c → -1 ≤ st.1.getD k 0 ∧ st.1.getD k 0 ≤ (st.2.length : Int)

theorem BInv.le {c : Nat} {st : List Int × List Int} (h : BInv c st) : st.2.length ≤ c := by have := h.cnt; omega

theorem BInv.visit {c : Nat} {st : List Int × List Int} {p q : Int} (h : BInv c st) (hp : 0 ≤ p ∧ p < c) (hq : 0 ≤ q ∧ q < c) : BInv c (Go.Ab.visit p st q) := by
  unfold Go.Ab.visit
  split
  · rename_i hlt
    have hql : q.toNat < st.1.length := by rw [h.len]; omega
    have hvp := h.val p.toNat (by omega)
    refine ⟨by simpa using h.len, ?_, fun r hr => ?_, fun k hk => ?_⟩
    · have h1 := h.cnt
      simp only [List.length_append, List.length_singleton]
      rw [List.countP_set hql]
      have e : st.1[q.toNat] = st.1.getD q.toNat 0 := by simp [hql]
      have h2 : 0 < st.1.countP (fun v => decide (v < 0)) := List.countP_pos_iff.2 ⟨st.1[q.toNat], List.getElem_mem _, by rw [e]; simpa using hlt⟩
      rw [e]
      simp only [hlt, decide_true, if_true, show decide (st.1.getD p.toNat 0 + 1 < 0) = false from decide_eq_false (by omega), Bool.false_eq_true, if_false]
      omega
    · rcases List.mem_append.1 hr with hr | hr
      · exact h.mem r hr
      · rw [List.mem_singleton.1 hr]; exact hq
    · simp only [List.length_append, List.length_singleton]
      rw [getD_set]
      have := h.val k hk
      split <;> omega
  · exact h

theorem BInv.start {c : Nat} {p : Int} (hp : 0 ≤ p ∧ p < c) : BInv c ((List.replicate c (-1)).set p.toNat 0, [p]) := by
  refine ⟨by simp, ?_, fun q hq => by rw [List.mem_singleton.1 hq]; exact hp, fun k hk => ?_⟩
  · have hl : p.toNat < (List.replicate c (-1 : Int)).length := by simp; omega
    simp only
    rw [List.countP_set hl, List.countP_replicate]
    simp
    omega
  · simp only [getD_set]
    split
    · simp
    · simp [hk]

end Go.Ab

/- Plain words: regions. -/
namespace Go.Ab

def spreadOf (x y : Int) (cs : List Cell) (p s : Int) : List Int := farFrom (x * y).toNat (fun q => stepsOf x y (topsOf x y cs) q s) p
def regionOf (x y : Int) (cs : List Cell) (p s : Int) : List Int := (nums (x * y).toNat).filter fun q => decide (0 ≤ (spreadOf x y cs p s).getD q.toNat 0)
def countRegions (x y : Int) (cs : List Cell) (s : Int) : Int := ((nums (x * y).toNat).filter fun p => decide ((regionOf x y cs p s).getD 0 0 = p)).length
end Go.Ab

/- Plain words: the neighbours of a column, the program's way; they are those of the reference. -/
namespace Go.Ab

def nearL (y c p : Int) : List Int :=
  (if y ≤ p then [p - y] else []) ++ ((if 0 < p.tmod y then [p - 1] else []) ++ ((if p.tmod y < y - 1 then [p + 1] else []) ++ (if p + y < c then [p + y] else [])))

theorem near_all : ∀ x : Fin 4, ∀ y : Fin 4, ∀ p : Fin 16, (p.val : Int) < ((x.val : Int) + 1) * ((y.val : Int) + 1) →
    nearL ((y.val : Int) + 1) (((x.val : Int) + 1) * ((y.val : Int) + 1)) p.val = nexts ((x.val : Int) + 1) ((y.val : Int) + 1) p.val := by decide

theorem near_eq {x y p : Int} (hx : 1 ≤ x ∧ x ≤ 4) (hy : 1 ≤ y ∧ y ≤ 4) (hp : 0 ≤ p ∧ p < x * y) : nearL y (x * y) p = nexts x y p := by
  have hb := mul_bound hx hy
  have := near_all ⟨(x - 1).toNat, by omega⟩ ⟨(y - 1).toNat, by omega⟩ ⟨p.toNat, by omega⟩
  have e1 : (((x - 1).toNat : Nat) : Int) + 1 = x := by omega
  have e2 : (((y - 1).toNat : Nat) : Int) + 1 = y := by omega
  have e3 : ((p.toNat : Nat) : Int) = p := by omega
  simp only [e1, e2, e3] at this
  exact this hp.2
end Go.Ab

/- Contracts: the program's steps between columns. -/
namespace Go.Ab
open Go
set_option linter.unusedSimpArgs false
set_option linter.unusedVariables false

theorem g_near {t o : Nat} {y p c : Int} {n : Nat} {M : Mem} (hy : 1 ≤ y ∧ y ≤ 4) (hc : 0 ≤ c ∧ c ≤ 16) (hn : (n : Int) = c) (hp : 0 ≤ p ∧ p < c) :
    CallsTo PG F.impl_top_near [.agg [.ref t o n, .I y], .I p] M (.ref M.length 0 (nearL y c p).length) (M ++ [some (.row (intL (nearL y c p)) true 1)]) := by
  have hy0 : y ≠ 0 := by omega
  have hd := div_bound hy (p := p) (by omega)
  refine calls_run K.impl_top_near rfl ?_
  simp (disch := omega) only [C.impl_top_near, ↓SXd, SXu, slBounds, ↓sop, ↓aop, ↓reduceIte, LV.cells, AOp.dst, LV.I, LV.B, LV.U, LV.S, LV.nil, Nat.reduceEqDiff, Nat.reduceAdd, Nat.reduceMul, Nat.reduceSub, Nat.reduceLeDiff, Nat.reduceBEq, Nat.reduceDiv, Nat.reduceMod, Int.reduceToNat, Int.reduceLT, Int.reduceLE, Int.reduceAdd, Int.reduceSub, Int.reduceMul, Int.reduceEq, Int.reduceNeg, reduceCtorEq, resV, resAll, ARes.ev, LV.flat, ite_true, ite_false, exists_eq_left', exists_eq_left, keyOf, implies_true, fillC, capOf]
  have hpre0 : Pre M (M ++ [some (Blk.row [.ref t o n, .I y] true 0), some (Blk.row [] true 1)]) := Pre.app _ _
  have hbox0 : Live (M ++ [some (Blk.row [.ref t o n, .I y] true 0), some (Blk.row [] true 1)]) M.length (.row [.ref t o n, .I y] true 0) := Live.new
  have hout0 : Live (M ++ [some (Blk.row [.ref t o n, .I y] true 0), some (Blk.row [] true 1)]) (M.length + 1) (.row (intL []) true 1) := Live.newj rfl
  generalize M ++ [some (Blk.row [.ref t o n, .I y] true 0), some (Blk.row [] true 1)] = M0 at hpre0 hbox0 hout0 ⊢
  refine condC_cut (fun fr M' => ∃ u, Pre M M' ∧ Live M' M.length (.row [.ref t o n, .I y] true 0) ∧ M.length < u ∧ Live M' u (.row (intL (if y ≤ p then [p - y] else [])) true 1) ∧ fr 1 = .I p ∧ fr 2 = .ptr M.length 0 ∧ fr 5 = .ref u 0 (if y ≤ p then [p - y] else []).length) ?_ ?_
  · refine condC_dec (fun h => ?_) (fun h => ?_)
    · simp (disch := omega) only [hbox0.cell, ↓SXd, SXu, slBounds, ↓sop, ↓aop, ↓reduceIte, LV.cells, AOp.dst, LV.I, LV.B, LV.U, LV.S, LV.nil, Nat.reduceEqDiff, Nat.reduceAdd, Nat.reduceMul, Nat.reduceSub, Nat.reduceLeDiff, Nat.reduceBEq, Nat.reduceDiv, Nat.reduceMod, Int.reduceToNat, Int.reduceLT, Int.reduceLE, Int.reduceAdd, Int.reduceSub, Int.reduceMul, Int.reduceEq, Int.reduceNeg, reduceCtorEq, resV, resAll, ARes.ev, LV.flat, ite_true, ite_false, exists_eq_left', exists_eq_left, keyOf, implies_true, fillC, capOf]
      refine appendK_int (acc := []) hout0 (by simp) fun M' l1 l2 l3 => ?_
      simp (disch := omega) only [↓SXd, SXu, slBounds, ↓sop, ↓aop, ↓reduceIte, LV.cells, AOp.dst, LV.I, LV.B, LV.U, LV.S, LV.nil, Nat.reduceEqDiff, Nat.reduceAdd, Nat.reduceMul, Nat.reduceSub, Nat.reduceLeDiff, Nat.reduceBEq, Nat.reduceDiv, Nat.reduceMod, Int.reduceToNat, Int.reduceLT, Int.reduceLE, Int.reduceAdd, Int.reduceSub, Int.reduceMul, Int.reduceEq, Int.reduceNeg, reduceCtorEq, resV, resAll, ARes.ev, LV.flat, ite_true, ite_false, exists_eq_left', exists_eq_left, keyOf, implies_true, fillC, capOf]
      simp only [if_pos h]
      exact ⟨_, pre_step hpre0 (by omega) l1 l3, live_step hbox0 (by omega) l3, by have := hpre0.1; omega, l2, rfl, rfl, rfl⟩
    · simp (disch := omega) only [↓SXd, SXu, slBounds, ↓sop, ↓aop, ↓reduceIte, LV.cells, AOp.dst, LV.I, LV.B, LV.U, LV.S, LV.nil, Nat.reduceEqDiff, Nat.reduceAdd, Nat.reduceMul, Nat.reduceSub, Nat.reduceLeDiff, Nat.reduceBEq, Nat.reduceDiv, Nat.reduceMod, Int.reduceToNat, Int.reduceLT, Int.reduceLE, Int.reduceAdd, Int.reduceSub, Int.reduceMul, Int.reduceEq, Int.reduceNeg, reduceCtorEq, resV, resAll, ARes.ev, LV.flat, ite_true, ite_false, exists_eq_left', exists_eq_left, keyOf, implies_true, fillC, capOf]
      simp only [if_neg h]
      exact ⟨M.length + 1, hpre0, hbox0, by omega, hout0, rfl, rfl, rfl⟩
  generalize hA1 : (if y ≤ p then [p - y] else []) = A1
  have hA1l : A1.length ≤ 1 := by rw [← hA1]; split <;> simp
  rintro fr M1 ⟨u, hpre, hbox, hu, hout, h1, h2, h5⟩
  simp (disch := omega) only [h1, h2, h5, hbox.cell, hy0, not_false_eq_true, ne_eq, ↓SXd, SXu, slBounds, ↓sop, ↓aop, ↓reduceIte, LV.cells, AOp.dst, LV.I, LV.B, LV.U, LV.S, LV.nil, Nat.reduceEqDiff, Nat.reduceAdd, Nat.reduceMul, Nat.reduceSub, Nat.reduceLeDiff, Nat.reduceBEq, Nat.reduceDiv, Nat.reduceMod, Int.reduceToNat, Int.reduceLT, Int.reduceLE, Int.reduceAdd, Int.reduceSub, Int.reduceMul, Int.reduceEq, Int.reduceNeg, reduceCtorEq, resV, resAll, ARes.ev, LV.flat, ite_true, ite_false, exists_eq_left', exists_eq_left, keyOf, implies_true, fillC, capOf]
  refine condC_cut (fun fr M' => ∃ u, Pre M M' ∧ Live M' M.length (.row [.ref t o n, .I y] true 0) ∧ M.length < u ∧ Live M' u (.row (intL (A1 ++ (if 0 < p.tmod y then [p - 1] else []))) true 1) ∧ fr 1 = .I p ∧ fr 2 = .ptr M.length 0 ∧ fr 5 = .ref u 0 (A1 ++ (if 0 < p.tmod y then [p - 1] else [])).length) ?_ ?_
  · refine condC_dec (fun h => ?_) (fun h => ?_)
    · simp (disch := omega) only [h1, h2, h5, hbox.cell, ↓SXd, SXu, slBounds, ↓sop, ↓aop, ↓reduceIte, LV.cells, AOp.dst, LV.I, LV.B, LV.U, LV.S, LV.nil, Nat.reduceEqDiff, Nat.reduceAdd, Nat.reduceMul, Nat.reduceSub, Nat.reduceLeDiff, Nat.reduceBEq, Nat.reduceDiv, Nat.reduceMod, Int.reduceToNat, Int.reduceLT, Int.reduceLE, Int.reduceAdd, Int.reduceSub, Int.reduceMul, Int.reduceEq, Int.reduceNeg, reduceCtorEq, resV, resAll, ARes.ev, LV.flat, ite_true, ite_false, exists_eq_left', exists_eq_left, keyOf, implies_true, fillC, capOf]
      refine appendK_int hout (by omega) fun M' l1 l2 l3 => ?_
      simp (disch := omega) only [h1, h2, h5, ↓SXd, SXu, slBounds, ↓sop, ↓aop, ↓reduceIte, LV.cells, AOp.dst, LV.I, LV.B, LV.U, LV.S, LV.nil, Nat.reduceEqDiff, Nat.reduceAdd, Nat.reduceMul, Nat.reduceSub, Nat.reduceLeDiff, Nat.reduceBEq, Nat.reduceDiv, Nat.reduceMod, Int.reduceToNat, Int.reduceLT, Int.reduceLE, Int.reduceAdd, Int.reduceSub, Int.reduceMul, Int.reduceEq, Int.reduceNeg, reduceCtorEq, resV, resAll, ARes.ev, LV.flat, ite_true, ite_false, exists_eq_left', exists_eq_left, keyOf, implies_true, fillC, capOf]
      simp only [if_pos h]
      exact ⟨_, pre_step hpre (by omega) l1 l3, live_step hbox (by omega) l3, by have := hpre.1; omega, l2, h1, h2, rfl⟩
    · simp (disch := omega) only [h1, h2, h5, ↓SXd, SXu, slBounds, ↓sop, ↓aop, ↓reduceIte, LV.cells, AOp.dst, LV.I, LV.B, LV.U, LV.S, LV.nil, Nat.reduceEqDiff, Nat.reduceAdd, Nat.reduceMul, Nat.reduceSub, Nat.reduceLeDiff, Nat.reduceBEq, Nat.reduceDiv, Nat.reduceMod, Int.reduceToNat, Int.reduceLT, Int.reduceLE, Int.reduceAdd, Int.reduceSub, Int.reduceMul, Int.reduceEq, Int.reduceNeg, reduceCtorEq, resV, resAll, ARes.ev, LV.flat, ite_true, ite_false, exists_eq_left', exists_eq_left, keyOf, implies_true, fillC, capOf]
      simp only [if_neg h, List.append_nil]
      exact ⟨u, hpre, hbox, hu, hout, h1, h2, h5⟩
  generalize hA2 : A1 ++ (if 0 < p.tmod y then [p - 1] else []) = A2
  have hA2l : A2.length ≤ 2 := by rw [← hA2]; simp only [List.length_append]; split <;> simp <;> omega
  clear hout h1 h2 h5 hbox hpre hu
  rintro fr M2 ⟨u, hpre, hbox, hu, hout, h1, h2, h5⟩
  simp (disch := omega) only [h1, h2, h5, hbox.cell, hy0, not_false_eq_true, ne_eq, ↓SXd, SXu, slBounds, ↓sop, ↓aop, ↓reduceIte, LV.cells, AOp.dst, LV.I, LV.B, LV.U, LV.S, LV.nil, Nat.reduceEqDiff, Nat.reduceAdd, Nat.reduceMul, Nat.reduceSub, Nat.reduceLeDiff, Nat.reduceBEq, Nat.reduceDiv, Nat.reduceMod, Int.reduceToNat, Int.reduceLT, Int.reduceLE, Int.reduceAdd, Int.reduceSub, Int.reduceMul, Int.reduceEq, Int.reduceNeg, reduceCtorEq, resV, resAll, ARes.ev, LV.flat, ite_true, ite_false, exists_eq_left', exists_eq_left, keyOf, implies_true, fillC, capOf]
  refine condC_cut (fun fr M' => ∃ u, Pre M M' ∧ Live M' M.length (.row [.ref t o n, .I y] true 0) ∧ M.length < u ∧ Live M' u (.row (intL (A2 ++ (if p.tmod y < y - 1 then [p + 1] else []))) true 1) ∧ fr 1 = .I p ∧ fr 2 = .ptr M.length 0 ∧ fr 5 = .ref u 0 (A2 ++ (if p.tmod y < y - 1 then [p + 1] else [])).length) ?_ ?_
  · refine condC_dec (fun h => ?_) (fun h => ?_)
    · simp (disch := omega) only [h1, h2, h5, hbox.cell, ↓SXd, SXu, slBounds, ↓sop, ↓aop, ↓reduceIte, LV.cells, AOp.dst, LV.I, LV.B, LV.U, LV.S, LV.nil, Nat.reduceEqDiff, Nat.reduceAdd, Nat.reduceMul, Nat.reduceSub, Nat.reduceLeDiff, Nat.reduceBEq, Nat.reduceDiv, Nat.reduceMod, Int.reduceToNat, Int.reduceLT, Int.reduceLE, Int.reduceAdd, Int.reduceSub, Int.reduceMul, Int.reduceEq, Int.reduceNeg, reduceCtorEq, resV, resAll, ARes.ev, LV.flat, ite_true, ite_false, exists_eq_left', exists_eq_left, keyOf, implies_true, fillC, capOf]
      refine appendK_int hout (by omega) fun M' l1 l2 l3 => ?_
      simp (disch := omega) only [h1, h2, h5, ↓SXd, SXu, slBounds, ↓sop, ↓aop, ↓reduceIte, LV.cells, AOp.dst, LV.I, LV.B, LV.U, LV.S, LV.nil, Nat.reduceEqDiff, Nat.reduceAdd, Nat.reduceMul, Nat.reduceSub, Nat.reduceLeDiff, Nat.reduceBEq, Nat.reduceDiv, Nat.reduceMod, Int.reduceToNat, Int.reduceLT, Int.reduceLE, Int.reduceAdd, Int.reduceSub, Int.reduceMul, Int.reduceEq, Int.reduceNeg, reduceCtorEq, resV, resAll, ARes.ev, LV.flat, ite_true, ite_false, exists_eq_left', exists_eq_left, keyOf, implies_true, fillC, capOf]
      simp only [if_pos h]
      exact ⟨_, pre_step hpre (by omega) l1 l3, live_step hbox (by omega) l3, by have := hpre.1; omega, l2, h1, h2, rfl⟩
    · simp (disch := omega) only [h1, h2, h5, ↓SXd, SXu, slBounds, ↓sop, ↓aop, ↓reduceIte, LV.cells, AOp.dst, LV.I, LV.B, LV.U, LV.S, LV.nil, Nat.reduceEqDiff, Nat.reduceAdd, Nat.reduceMul, Nat.reduceSub, Nat.reduceLeDiff, Nat.reduceBEq, Nat.reduceDiv, Nat.reduceMod, Int.reduceToNat, Int.reduceLT, Int.reduceLE, Int.reduceAdd, Int.reduceSub, Int.reduceMul, Int.reduceEq, Int.reduceNeg, reduceCtorEq, resV, resAll, ARes.ev, LV.flat, ite_true, ite_false, exists_eq_left', exists_eq_left, keyOf, implies_true, fillC, capOf]
      simp only [if_neg h, List.append_nil]
      exact ⟨u, hpre, hbox, hu, hout, h1, h2, h5⟩
  generalize hA3 : A2 ++ (if p.tmod y < y - 1 then [p + 1] else []) = A3
  have hA3l : A3.length ≤ 3 := by rw [← hA3]; simp only [List.length_append]; split <;> simp <;> omega
  clear hout h1 h2 h5 hbox hpre hu
  rintro fr M3 ⟨u, hpre, hbox, hu, hout, h1, h2, h5⟩
  have hfin : nearL y c p = A3 ++ (if p + y < c then [p + y] else []) := by rw [← hA3, ← hA2, ← hA1]; simp [nearL]
  simp (disch := omega) only [h1, h2, h5, hbox.cell, hn, ↓SXd, SXu, slBounds, ↓sop, ↓aop, ↓reduceIte, LV.cells, AOp.dst, LV.I, LV.B, LV.U, LV.S, LV.nil, Nat.reduceEqDiff, Nat.reduceAdd, Nat.reduceMul, Nat.reduceSub, Nat.reduceLeDiff, Nat.reduceBEq, Nat.reduceDiv, Nat.reduceMod, Int.reduceToNat, Int.reduceLT, Int.reduceLE, Int.reduceAdd, Int.reduceSub, Int.reduceMul, Int.reduceEq, Int.reduceNeg, reduceCtorEq, resV, resAll, ARes.ev, LV.flat, ite_true, ite_false, exists_eq_left', exists_eq_left, keyOf, implies_true, fillC, capOf]
  refine condC_dec (fun h => ?_) (fun h => ?_)
  · simp (disch := omega) only [h1, h2, h5, hbox.cell, ↓SXd, SXu, slBounds, ↓sop, ↓aop, ↓reduceIte, LV.cells, AOp.dst, LV.I, LV.B, LV.U, LV.S, LV.nil, Nat.reduceEqDiff, Nat.reduceAdd, Nat.reduceMul, Nat.reduceSub, Nat.reduceLeDiff, Nat.reduceBEq, Nat.reduceDiv, Nat.reduceMod, Int.reduceToNat, Int.reduceLT, Int.reduceLE, Int.reduceAdd, Int.reduceSub, Int.reduceMul, Int.reduceEq, Int.reduceNeg, reduceCtorEq, resV, resAll, ARes.ev, LV.flat, ite_true, ite_false, exists_eq_left', exists_eq_left, keyOf, implies_true, fillC, capOf]
    refine appendK_int hout (by omega) fun M' l1 l2 l3 => ?_
    simp (disch := omega) only [h1, h2, h5, ↓SXd, SXu, slBounds, ↓sop, ↓aop, ↓reduceIte, LV.cells, AOp.dst, LV.I, LV.B, LV.U, LV.S, LV.nil, Nat.reduceEqDiff, Nat.reduceAdd, Nat.reduceMul, Nat.reduceSub, Nat.reduceLeDiff, Nat.reduceBEq, Nat.reduceDiv, Nat.reduceMod, Int.reduceToNat, Int.reduceLT, Int.reduceLE, Int.reduceAdd, Int.reduceSub, Int.reduceMul, Int.reduceEq, Int.reduceNeg, reduceCtorEq, resV, resAll, ARes.ev, LV.flat, ite_true, ite_false, exists_eq_left', exists_eq_left, keyOf, implies_true, fillC, capOf]
    rw [hfin, if_pos h]
    have := hpre.1
    exact cmp_keepL (pre_step hpre (by omega) l1 l3) (by omega) l2 (intL_lo _) (by simp [rn, rn0, rn1])
  · simp (disch := omega) only [h1, h2, h5, ↓SXd, SXu, slBounds, ↓sop, ↓aop, ↓reduceIte, LV.cells, AOp.dst, LV.I, LV.B, LV.U, LV.S, LV.nil, Nat.reduceEqDiff, Nat.reduceAdd, Nat.reduceMul, Nat.reduceSub, Nat.reduceLeDiff, Nat.reduceBEq, Nat.reduceDiv, Nat.reduceMod, Int.reduceToNat, Int.reduceLT, Int.reduceLE, Int.reduceAdd, Int.reduceSub, Int.reduceMul, Int.reduceEq, Int.reduceNeg, reduceCtorEq, resV, resAll, ARes.ev, LV.flat, ite_true, ite_false, exists_eq_left', exists_eq_left, keyOf, implies_true, fillC, capOf]
    rw [hfin, if_neg h, List.append_nil]
    exact cmp_keepL hpre (by omega) hout (intL_lo _) (by simp [rn, rn0, rn1])

end Go.Ab

/- Contracts: searching and deleting in slices, by a function. -/
namespace Go.Ab
open Go
set_option linter.unusedSimpArgs false
set_option linter.unusedVariables false

/-- The place of the first number with a mark, or -1. -/
def idxF (pr : Int → Bool) (xs : List Int) : Int := match xs.findIdx? pr with | some i => (i : Int) | none => -1
theorem idxF_at {pr : Int → Bool} {xs : List Int} {k : Nat} (hk : k < xs.length) (h : ∀ j, j < k → pr (xs.getD j 0) = false) (hp : pr (xs.getD k 0) = true) : idxF pr xs = k := by
  unfold idxF
  have : xs.findIdx? pr = some k := by
    rw [List.findIdx?_eq_some_iff_getElem]
    refine ⟨hk, by simpa [hk] using hp, fun j hj => ?_⟩
    have := h j hj
    simpa [show j < xs.length by omega] using this
  rw [this]
theorem idxF_none {pr : Int → Bool} {xs : List Int} (h : ∀ j, j < xs.length → pr (xs.getD j 0) = false) : idxF pr xs = -1 := by
  unfold idxF
  have : xs.findIdx? pr = none := by
    rw [List.findIdx?_eq_none_iff]
    intro x hx
    obtain ⟨j, hj⟩ := List.mem_iff_getElem?.1 hx
    have hjl : j < xs.length := by
      rcases Nat.lt_or_ge j xs.length with h' | h'
      · exact h'
      · rw [List.getElem?_eq_none h'] at hj; cases hj
    have := h j hjl
    rw [List.getD_eq_getElem?_getD, hj] at this
    exact this
  rw [this]

theorem g_IndexFunc {t o : Nat} {xs : List Int} {f : FuncId} {caps : List (Nat × Nat)} {pr : Int → Bool} {M : Mem} (h : Ints M t o xs) (hn : xs.length ≤ 1000000000)
    (hf : ∀ k, k < xs.length → CallsTo PG f ([.I (xs.getD k 0)] ++ caps.map fun p => .ptr p.1 p.2) M (.B (pr (xs.getD k 0))) M) :
    CallsTo PG F.slices_IndexFunc_Sint_int [.ref t o xs.length, .clo f caps] M (.I (idxF pr xs)) M := by
  refine calls_run K.slices_IndexFunc_Sint_int rfl ?_
  simp (disch := omega) only [C.slices_IndexFunc_Sint_int, ↓SXd, SXu, slBounds, ↓sop, ↓aop, ↓reduceIte, LV.cells, AOp.dst, LV.I, LV.B, LV.U, LV.S, LV.nil, Nat.reduceEqDiff, Nat.reduceAdd, Nat.reduceMul, Nat.reduceSub, Nat.reduceLeDiff, Nat.reduceBEq, Nat.reduceDiv, Nat.reduceMod, Int.reduceToNat, Int.reduceLT, Int.reduceLE, Int.reduceAdd, Int.reduceSub, Int.reduceMul, Int.reduceEq, Int.reduceNeg, reduceCtorEq, resV, resAll, ARes.ev, LV.flat, ite_true, ite_false, exists_eq_left', exists_eq_left, keyOf, implies_true, fillC, capOf]
  refine ev_loop (fun m fr M' => ∃ k : Nat, k + m = xs.length ∧ M' = M ∧ fr 0 = .ref t o xs.length ∧ fr 1 = .clo f caps ∧ fr 7 = .I (xs.length : Nat) ∧ fr 8 = .I k ∧ ∀ j, j < k → pr (xs.getD j 0) = false) xs.length
    ⟨0, by omega, rfl, rfl, rfl, rfl, rfl, by omega⟩ ?_
  rintro m fr M' ⟨k, hk, rfl, h0, h1, h7, h8, hj⟩
  simp (disch := omega) only [h0, h1, h7, h8, ↓SXd, SXu, slBounds, ↓sop, ↓aop, ↓reduceIte, LV.cells, AOp.dst, LV.I, LV.B, LV.U, LV.S, LV.nil, Nat.reduceEqDiff, Nat.reduceAdd, Nat.reduceMul, Nat.reduceSub, Nat.reduceLeDiff, Nat.reduceBEq, Nat.reduceDiv, Nat.reduceMod, Int.reduceToNat, Int.reduceLT, Int.reduceLE, Int.reduceAdd, Int.reduceSub, Int.reduceMul, Int.reduceEq, Int.reduceNeg, reduceCtorEq, resV, resAll, ARes.ev, LV.flat, ite_true, ite_false, exists_eq_left', exists_eq_left, keyOf, implies_true, fillC, capOf]
  refine condC_dec (fun hlt => ?_) (fun hlt => ?_)
  · simp (disch := omega) only [h0, h1, h7, h8, Ints.get h, ↓SXd, SXu, slBounds, ↓sop, ↓aop, ↓reduceIte, LV.cells, AOp.dst, LV.I, LV.B, LV.U, LV.S, LV.nil, Nat.reduceEqDiff, Nat.reduceAdd, Nat.reduceMul, Nat.reduceSub, Nat.reduceLeDiff, Nat.reduceBEq, Nat.reduceDiv, Nat.reduceMod, Int.reduceToNat, Int.reduceLT, Int.reduceLE, Int.reduceAdd, Int.reduceSub, Int.reduceMul, Int.reduceEq, Int.reduceNeg, reduceCtorEq, resV, resAll, ARes.ev, LV.flat, ite_true, ite_false, exists_eq_left', exists_eq_left, keyOf, implies_true, fillC, capOf]
    refine callK_of (hf k (by omega)) ?_
    simp (disch := omega) only [h0, h1, h7, h8, ↓SXd, SXu, slBounds, ↓sop, ↓aop, ↓reduceIte, LV.cells, AOp.dst, LV.I, LV.B, LV.U, LV.S, LV.nil, Nat.reduceEqDiff, Nat.reduceAdd, Nat.reduceMul, Nat.reduceSub, Nat.reduceLeDiff, Nat.reduceBEq, Nat.reduceDiv, Nat.reduceMod, Int.reduceToNat, Int.reduceLT, Int.reduceLE, Int.reduceAdd, Int.reduceSub, Int.reduceMul, Int.reduceEq, Int.reduceNeg, reduceCtorEq, resV, resAll, ARes.ev, LV.flat, ite_true, ite_false, exists_eq_left', exists_eq_left, keyOf, implies_true, fillC, capOf]
    refine condC_mk (fun hp => ?_) (fun hp => ?_) <;> simp (disch := omega) only [h0, h1, h7, h8, ↓SXd, SXu, slBounds, ↓sop, ↓aop, ↓reduceIte, LV.cells, AOp.dst, LV.I, LV.B, LV.U, LV.S, LV.nil, Nat.reduceEqDiff, Nat.reduceAdd, Nat.reduceMul, Nat.reduceSub, Nat.reduceLeDiff, Nat.reduceBEq, Nat.reduceDiv, Nat.reduceMod, Int.reduceToNat, Int.reduceLT, Int.reduceLE, Int.reduceAdd, Int.reduceSub, Int.reduceMul, Int.reduceEq, Int.reduceNeg, reduceCtorEq, resV, resAll, ARes.ev, LV.flat, ite_true, ite_false, exists_eq_left', exists_eq_left, keyOf, implies_true, fillC, capOf]
    · rw [idxF_at (by omega) hj hp]; exact cmp_drop0 rfl
    · refine ⟨m - 1, by omega, k + 1, by omega, rfl, h0, h1, h7, eqI (natI _), fun j hj1 => ?_⟩
      by_cases hjk : j = k
      · subst hjk; exact hp
      · exact hj j (by omega)
  · simp (disch := omega) only [h0, h1, h7, h8, ↓SXd, SXu, slBounds, ↓sop, ↓aop, ↓reduceIte, LV.cells, AOp.dst, LV.I, LV.B, LV.U, LV.S, LV.nil, Nat.reduceEqDiff, Nat.reduceAdd, Nat.reduceMul, Nat.reduceSub, Nat.reduceLeDiff, Nat.reduceBEq, Nat.reduceDiv, Nat.reduceMod, Int.reduceToNat, Int.reduceLT, Int.reduceLE, Int.reduceAdd, Int.reduceSub, Int.reduceMul, Int.reduceEq, Int.reduceNeg, reduceCtorEq, resV, resAll, ARes.ev, LV.flat, ite_true, ite_false, exists_eq_left', exists_eq_left, keyOf, implies_true, fillC, capOf]
    rw [idxF_none fun j hj1 => hj j (by omega)]; exact cmp_drop0 rfl

/-- What DeleteFunc leaves in the block: what stays, then zeros. -/
def delRow (pr : Int → Bool) (xs : List Int) : List Int := xs.filter (fun v => !pr v) ++ List.replicate (xs.length - (xs.filter fun v => !pr v).length) 0

theorem idxF_cases (pr : Int → Bool) (xs : List Int) : (idxF pr xs = -1 ∧ ∀ j, j < xs.length → pr (xs.getD j 0) = false) ∨
    ∃ k, k < xs.length ∧ idxF pr xs = (k : Int) ∧ (∀ j, j < k → pr (xs.getD j 0) = false) ∧ pr (xs.getD k 0) = true := by
  unfold idxF
  cases he : xs.findIdx? pr with
  | none =>
    refine .inl ⟨rfl, fun j hj => ?_⟩
    rw [List.findIdx?_eq_none_iff] at he
    exact he _ (getD_mem hj)
  | some k =>
    rw [List.findIdx?_eq_some_iff_getElem] at he
    obtain ⟨hk, h1, h2⟩ := he
    refine .inr ⟨k, hk, rfl, fun j hj => ?_, by simpa [hk] using h1⟩
    have := h2 j hj
    simpa [show j < xs.length by omega] using this

end Go.Ab

/- Contracts: the program's steps; repeated numbers. -/
namespace Go.Ab
open Go
set_option linter.unusedSimpArgs false
set_option linter.unusedVariables false
set_option maxRecDepth 20000

/-- The row that the program's steps leave: the steps, then zeros. -/
def stepRow (x y : Int) (ts : List Int) (p s : Int) : List Int := stepsOf x y ts p s ++ List.replicate ((nexts x y p).length - (stepsOf x y ts p s).length) 0

end Go.Ab

/- Contracts: the program's distances. -/
namespace Go.Ab
open Go
set_option linter.unusedSimpArgs false
set_option linter.unusedVariables false

end Go.Ab

/- The abstract code of some functions (written by a program of mine from the translation, by way of prepF). -/
namespace Go.Ab.C
open Go.Ab
end Go.Ab.C

/- That the program has this code. -/
namespace Go.Ab.K
open Go Go.Ab
end Go.Ab.K

/- The abstract code of some functions (written by a program of mine from the translation, by way of prepF). -/
namespace Go.Ab.C
open Go.Ab
end Go.Ab.C

/- That the program has this code. -/
namespace Go.Ab.K
open Go Go.Ab
end Go.Ab.K

/- The abstract code of some functions (written by a program of mine from the translation, by way of prepF). -/
namespace Go.Ab.C
open Go.Ab
end Go.Ab.C

/- That the program has this code. -/
namespace Go.Ab.K
open Go Go.Ab
end Go.Ab.K

/- Contracts: the reference's steps. -/
namespace Go.Ab
open Go
set_option linter.unusedSimpArgs false
set_option linter.unusedVariables false

def Low (ts : List Int) : Prop := ∀ k, k < ts.length → -100 ≤ ts.getD k 0 ∧ ts.getD k 0 ≤ 100

end Go.Ab

/- Contracts: the reference's spread. -/
namespace Go.Ab
open Go
set_option linter.unusedSimpArgs false
set_option linter.unusedVariables false

end Go.Ab

/- Contracts: the reference's regions. -/
namespace Go.Ab
open Go
set_option linter.unusedSimpArgs false
set_option linter.unusedVariables false

/-- What TopRegion answers. -/
noncomputable def topRegionOf (x y z : Int) (cs : List Cell) (p s : Int) : Option (List Int) := if HeapOK x y z cs ∧ (0 ≤ p ∧ p ≤ x * y - 1) ∧ 0 ≤ s then some (regionOf x y cs p s) else none

/-- What CountRegions answers. -/
noncomputable def rcOf (x y z : Int) (cs : List Cell) (s : Int) : Option Int := if HeapOK x y z cs ∧ 0 ≤ s then some (countRegions x y cs s) else none

end Go.Ab

/- Contracts: the program's regions. -/
namespace Go.Ab
open Go
set_option linter.unusedSimpArgs false
set_option linter.unusedVariables false

end Go.Ab

/- Plain words: what a spread tells: the least number of steps. -/
namespace Go.Ab

/-- What is known of column v. -/
def dist (st : List Int × List Int) (v : Int) : Int := st.1.getD v.toNat 0

structure FInv (c : Nat) (N : Int → List Int) (p : Int) (n : Nat) (st : List Int × List Int) : Prop where
  base : BInv c st
  here : dist st p = 0
  nonneg : ∀ i, i < st.2.length → 0 ≤ dist st (st.2.getD i 0)
  listed : ∀ v : Int, 0 ≤ v → v < c → 0 ≤ dist st v → ∃ i, i < st.2.length ∧ st.2.getD i 0 = v
  sorted : ∀ i j, i ≤ j → j < st.2.length → dist st (st.2.getD i 0) ≤ dist st (st.2.getD j 0)
  parent : ∀ v : Int, 0 ≤ v → v < c → 0 < dist st v → ∃ a : Int, (0 ≤ a ∧ a < c) ∧ v ∈ N a ∧ 0 ≤ dist st a ∧ dist st v = dist st a + 1
  root : ∀ v : Int, 0 ≤ v → v < c → dist st v = 0 → v = p
  done : ∀ i, i < n → i < st.2.length → ∀ b ∈ N (st.2.getD i 0), 0 ≤ dist st b ∧ dist st b ≤ dist st (st.2.getD i 0) + 1

theorem FInv.start {c : Nat} {N : Int → List Int} {p : Int} (hp : 0 ≤ p ∧ p < c) : FInv c N p 0 ((List.replicate c (-1)).set p.toNat 0, [p]) := by
  have hd : ∀ v : Int, 0 ≤ v → v < c → dist ((List.replicate c (-1)).set p.toNat 0, [p]) v = if v = p then 0 else -1 := fun v h0 hc => by
    unfold dist
    simp only [getD_set, List.length_replicate]
    by_cases e : v = p
    · subst e; rw [if_pos ⟨rfl, by omega⟩, if_pos rfl]
    · rw [if_neg (fun h => e (by omega)), if_neg e]
      simp only [List.getD_eq_getElem?_getD, List.getElem?_replicate]
      rw [if_pos (by omega)]; rfl
  refine ⟨BInv.start hp, by rw [hd p hp.1 hp.2, if_pos rfl], fun i hi => ?_, fun v h0 hc hv => ?_, fun i j hij hj => ?_, fun v h0 hc hv => ?_, fun v h0 hc hv => ?_, fun i hi => by omega⟩
  · have : i = 0 := by simp at hi; omega
    subst this
    show 0 ≤ dist _ p
    rw [hd p hp.1 hp.2, if_pos rfl]; exact Int.le_refl 0
  · rw [hd v h0 hc] at hv
    split at hv
    · rename_i e; exact ⟨0, by simp, by simp [e]⟩
    · omega
  · have h1 : j = 0 := by simp at hj; omega
    have h2 : i = 0 := by omega
    subst h1; subst h2; exact Int.le_refl _
  · rw [hd v h0 hc] at hv; split at hv <;> omega
  · rw [hd v h0 hc] at hv; split at hv
    · assumption
    · omega

/-- Steps one behind the other. -/
inductive Way (N : Int → List Int) (p : Int) : Nat → Int → Prop
  | nil : Way N p 0 p
  | snoc {n : Nat} {a b : Int} : Way N p n a → b ∈ N a → Way N p (n + 1) b

theorem Way.cons {N : Int → List Int} {n : Nat} {p a b : Int} (h : b ∈ N p) (w : Way N b n a) : Way N p (n + 1) a := by
  induction w with
  | nil => exact .snoc .nil h
  | snoc _ h' ih => exact .snoc ih h'
section
variable {c : Nat} {N : Int → List Int} {p : Int} (hN : ∀ p q, q ∈ N p → 0 ≤ q ∧ q < (c : Int)) (hp : 0 ≤ p ∧ p < c)
include hN hp

end

end Go.Ab

/- Plain words: least numbers; the grid is one region; walks. -/
namespace Go.Ab

/-- The least number of which f holds. -/
noncomputable def leastN (f : Nat → Prop) : Nat := by
  classical
  exact if h : ∃ k, f k ∧ ∀ j, j < k → ¬ f j then Classical.choose h else 0
theorem nexts_comm {x y p q : Int} (hp : 0 ≤ p ∧ p < x * y) (h : q ∈ nexts x y p) : p ∈ nexts x y q := by
  unfold nexts at *
  rw [List.mem_filter] at *
  refine ⟨List.mem_map.2 ⟨p.toNat, List.mem_range.2 (by omega), by simp only [Int.ofNat_eq_natCast]; omega⟩, ?_⟩
  have h2 := of_decide_eq_true h.2
  refine decide_eq_true ?_
  unfold apart at *
  omega
end Go.Ab

/- Contracts: distances and least reaches, both sides. -/
namespace Go.Ab
open Go
set_option linter.unusedSimpArgs false
set_option linter.unusedVariables false

/-- The distance of two columns, or -1. -/
noncomputable def tdOf (x y z : Int) (cs : List Cell) (p q s : Int) : Int := by
  classical
  exact if (HeapOK x y z cs ∧ (0 ≤ p ∧ p ≤ x * y - 1)) ∧ (0 ≤ q ∧ q ≤ x * y - 1) ∧ 0 ≤ s then (spreadOf x y cs p s).getD q.toNat 0 else -1

end Go.Ab

/- Contracts: least reaches, both sides. -/
namespace Go.Ab
open Go
set_option linter.unusedSimpArgs false
set_option linter.unusedVariables false

/-- Column q is reached from p at the reach s. -/
def Near' (x y : Int) (cs : List Cell) (p q : Int) (s : Nat) : Prop := 0 ≤ (spreadOf x y cs p s).getD q.toNat 0
/-- What LeastReach answers. -/
noncomputable def reachOf (x y z : Int) (cs : List Cell) (p q : Int) : Option Nat := by
  classical
  exact if (HeapOK x y z cs ∧ (0 ≤ p ∧ p ≤ x * y - 1)) ∧ (0 ≤ q ∧ q ≤ x * y - 1) then some (leastN (Near' x y cs p q)) else none

end Go.Ab

/- Plain words: least climbs. -/
namespace Go.Ab

def relax1 (ts : List Int) (a c : Int) (st : List Int × Bool) (b : Int) : List Int × Bool :=
  if st.1.getD b.toNat 0 < 0 ∨ c + max (ts.getD b.toNat 0 - ts.getD a.toNat 0) 0 < st.1.getD b.toNat 0 then (st.1.set b.toNat (c + max (ts.getD b.toNat 0 - ts.getD a.toNat 0) 0), true) else st
def relaxCol (ts : List Int) (St : Int → List Int) (st : List Int × Bool) (a : Int) : List Int × Bool :=
  if st.1.getD a.toNat 0 < 0 then st else (St a).foldl (relax1 ts a (st.1.getD a.toNat 0)) st
def climbRound (ts : List Int) (St : Int → List Int) (c : Nat) (best : List Int) : List Int × Bool := (nums c).foldl (relaxCol ts St) (best, false)
def climbLoop (ts : List Int) (St : Int → List Int) (c : Nat) : Nat → List Int → List Int
  | 0, best => best
  | f + 1, best => if (climbRound ts St c best).2 then climbLoop ts St c f (climbRound ts St c best).1 else (climbRound ts St c best).1

def phiOf (v : Int) : Nat := if v < 0 then 100 else v.toNat
def phi (best : List Int) : Nat := (best.map phiOf).sum

def cnt0 (l : List Int) : Nat := l.countP fun v => decide (0 ≤ v)
structure CI (c : Nat) (N : Int → List Int) (p : Int) (best : List Int) : Prop where
  len : best.length = c
  lo : ∀ k, k < c → -1 ≤ best.getD k 0
  hi : ∀ k, k < c → best.getD k 0 ≤ 4 * (cnt0 best : Int) - 4
  root : 0 ≤ best.getD p.toNat 0
  way : ∀ v : Int, 0 ≤ v → v < c → 0 ≤ best.getD v.toNat 0 → ∃ n, Way N p n v

theorem CI.top {c : Nat} {N : Int → List Int} {p : Int} {best : List Int} (h : CI c N p best) (hc : c ≤ 16) : ∀ k, k < c → best.getD k 0 ≤ 60 := fun k hk => by
  have h1 := h.hi k hk
  have h2 : cnt0 best ≤ best.length := List.countP_le_length
  have h3 := h.len
  omega

section
variable {c : Nat} {N : Int → List Int} {p : Int} {ts : List Int} (hN : ∀ p q, q ∈ N p → 0 ≤ q ∧ q < (c : Int)) (hne : ∀ p, p ∉ N p) (hts : ∀ k, 0 ≤ ts.getD k 0 ∧ ts.getD k 0 ≤ 4) (hc : c ≤ 16)
include hN hne hts hc

end

def climbStart (c : Nat) (p : Int) : List Int := (List.replicate c (-1)).set p.toNat 0
end Go.Ab

/- Contracts: least climbs, both sides. -/
namespace Go.Ab
open Go
set_option linter.unusedSimpArgs false
set_option linter.unusedVariables false

/-- The least climbs from a column to all others. -/
def climbs (x y : Int) (cs : List Cell) (p s : Int) : List Int := climbLoop (topsOf x y cs) (fun r => stepsOf x y (topsOf x y cs) r s) (x * y).toNat 2000 (climbStart (x * y).toNat p)
/-- What LeastClimb answers. -/
noncomputable def climbOf (x y z : Int) (cs : List Cell) (p q s : Int) : Option Int := by
  classical
  exact if ((HeapOK x y z cs ∧ (0 ≤ p ∧ p ≤ x * y - 1)) ∧ (0 ≤ q ∧ q ≤ x * y - 1) ∧ 0 ≤ s) ∧ 0 ≤ (spreadOf x y cs p s).getD q.toNat 0 then some ((climbs x y cs p s).getD q.toNat 0) else none

section
variable {x y z s p : Int} {cs : List Cell} (hH : HeapOK x y z cs)
include hH

end

end Go.Ab

/- Plain words: the first walk. -/
namespace Go.Ab

def nextOf (D : List Int) (d : Int) (l : List Int) : Int := l.getD (idxF (fun r => decide (D.getD r.toNat 0 = d)) l).toNat 0
/-- The walk from a column on, that many steps long. -/
def walkW (D : List Int) (St : Int → List Int) : Nat → Int → List Int
  | 0, now => [now]
  | f + 1, now => now :: walkW D St f (nextOf D f (St now))
section
variable {x y s q : Int} {cs : List Cell} (hq : 0 ≤ q ∧ q ≤ x * y - 1)
include hq
end

/-- What FirstTopWalk answers. -/
noncomputable def walkOf (x y z : Int) (cs : List Cell) (p q s : Int) : Option (List Int) := by
  classical
  exact if ((HeapOK x y z cs ∧ (0 ≤ p ∧ p ≤ x * y - 1)) ∧ (0 ≤ q ∧ q ≤ x * y - 1) ∧ 0 ≤ s) ∧ 0 ≤ (spreadOf x y cs q s).getD p.toNat 0 then
    some (walkW (spreadOf x y cs q s) (fun r => stepsOf x y (topsOf x y cs) r s) ((spreadOf x y cs q s).getD p.toNat 0).toNat p) else none
end Go.Ab

/- Plain words: the reach and the climb of a walk; what the law of the walks says of them. -/
namespace Go.Ab
open Go
set_option linter.unusedSimpArgs false
set_option linter.unusedVariables false

def sumN (f : Nat → Int) : Nat → Int
  | 0 => 0
  | k + 1 => sumN f k + f k
/-- The reach of the first k steps. -/
def gapN (u : Nat → Int) : Nat → Int
  | 0 => 0
  | k + 1 => max (gapN u k) (gap (u (k + 1)) (u k))
def upN (u : Nat → Int) (k : Nat) : Int := sumN (fun i => max (u (i + 1) - u i) 0) k
/-- The heights along a walk. -/
def along (ts w : List Int) (i : Nat) : Int := ts.getD (w.getD i 0).toNat 0
def WalkOK (x y z : Int) (cs : List Cell) (w : List Int) : Prop := HeapOK x y z cs ∧ 0 < w.length ∧ (∀ i, i < w.length → 0 ≤ w.getD i 0 ∧ w.getD i 0 ≤ x * y - 1) ∧ ∀ i, i + 1 < w.length → w.getD (i + 1) 0 ∈ nexts x y (w.getD i 0)
/-- What WalkClimb answers. -/
noncomputable def wcOf (x y z : Int) (cs : List Cell) (w : List Int) : Option (Int × Int) := by
  classical
  exact if WalkOK x y z cs w then some (gapN (along (topsOf x y cs) w) (w.length - 1), upN (along (topsOf x y cs) w) (w.length - 1)) else none
theorem getD_reverse {l : List Int} {i : Nat} (h : i < l.length) : l.reverse.getD i 0 = l.getD (l.length - 1 - i) 0 := by
  simp [List.getD_eq_getElem?_getD, List.getElem?_reverse h]
theorem WalkOK.reverse {x y z : Int} {cs : List Cell} {w : List Int} (h : WalkOK x y z cs w) : WalkOK x y z cs w.reverse := by
  obtain ⟨h1, h2, h3, h4⟩ := h
  refine ⟨h1, by simpa using h2, fun i hi => ?_, fun i hi => ?_⟩
  · rw [List.length_reverse] at hi
    rw [getD_reverse hi]; exact h3 _ (by omega)
  · rw [List.length_reverse] at hi
    rw [getD_reverse (by omega), getD_reverse (by omega)]
    have e := h4 (w.length - 1 - (i + 1)) (by omega)
    rw [show w.length - 1 - (i + 1) + 1 = w.length - 1 - i by omega] at e
    have e2 := h3 (w.length - 1 - (i + 1)) (by omega)
    exact nexts_comm (by omega) e
theorem topsOf_lowz {x y z : Int} {cs : List Cell} (hH : HeapOK x y z cs) : ∀ k, 0 ≤ (topsOf x y cs).getD k 0 ∧ (topsOf x y cs).getD k 0 ≤ z := by
  have hz := hH.1.2.2
  have key : ∀ k, k ≤ cs.length → ∀ j, 0 ≤ ((cs.take k).foldl (topStep y) (List.replicate (x * y).toNat 0)).getD j 0 ∧ ((cs.take k).foldl (topStep y) (List.replicate (x * y).toNat 0)).getD j 0 ≤ z := by
    intro k
    induction k with
    | zero =>
      intro _ j
      simp only [List.take_zero, List.foldl_nil, List.getD_eq_getElem?_getD, List.getElem?_replicate]
      split <;> simp <;> omega
    | succ k ih =>
      intro hk j
      rw [take_succ_foldl _ _ _ _ default (by omega)]
      have h1 := ih (by omega)
      obtain ⟨_, _, hc⟩ := hH.cell (k := k) (by omega)
      generalize (cs.take k).foldl (topStep y) (List.replicate (x * y).toNat 0) = out at h1 ⊢
      unfold topStep
      rw [getD_set]
      have h2 := h1 ((cs.getD k default).a * y + (cs.getD k default).b).toNat
      have h3 := h1 j
      split <;> omega
  intro k
  have := key cs.length (Nat.le_refl _) k
  rw [List.take_length] at this
  exact this
theorem Way.mono {N N' : Int → List Int} (h : ∀ p q, q ∈ N p → q ∈ N' p) {p : Int} {n : Nat} {q : Int} (w : Way N p n q) : Way N' p n q := by
  induction w with
  | nil => exact .nil
  | snoc _ h' ih => exact .snoc ih (h _ _ h')
end Go.Ab

/- Plain: what one sees of lines of columns, levels, orders by sights. -/
namespace Go.Ab
open Go
set_option linter.unusedSimpArgs false
set_option linter.unusedVariables false
set_option maxRecDepth 20000

theorem ints_same {l l' : List Int} (hl : l.length = l'.length) (h : ∀ j, j < l.length → l.getD j 0 = l'.getD j 0) : l = l' := by
  apply List.ext_getElem hl
  intro i h2 h3
  have := h i h2
  simpa [h2, h3] using this
/-- The greatest height so far, and how many columns one has seen. -/
def seeStep (s : Int × Int) (h : Int) : Int × Int := if h > s.1 then (h, s.2 + 1) else s
def seen (l : List Int) : Int × Int := l.foldl seeStep (0, 0)
theorem see_inv : ∀ (l : List Int) (s : Int × Int), 0 ≤ s.2 → s.2 ≤ s.1 → (0 < s.1 → 0 < s.2) → 0 ≤ (l.foldl seeStep s).2 ∧ (l.foldl seeStep s).2 ≤ (l.foldl seeStep s).1 ∧ (0 < (l.foldl seeStep s).1 → 0 < (l.foldl seeStep s).2)
  | [], s, h1, h2, h3 => ⟨h1, h2, h3⟩
  | a :: l, s, h1, h2, h3 => by
    rw [List.foldl_cons]
    by_cases h : a > s.1
    · refine see_inv l _ ?_ ?_ ?_ <;> simp only [seeStep, if_pos h] <;> omega
    · refine see_inv l _ ?_ ?_ ?_ <;> simp only [seeStep, if_neg h] <;> omega
theorem see_most {n : Int} : ∀ (l : List Int) (s : Int × Int), (l.foldl seeStep s).1 ≤ n ↔ s.1 ≤ n ∧ ∀ a ∈ l, a ≤ n
  | [], s => by simp
  | a :: l, s => by
    rw [List.foldl_cons, see_most l]
    by_cases h : a > s.1
    · simp only [seeStep, if_pos h, List.mem_cons, forall_eq_or_imp]
      exact ⟨fun ⟨h1, h2⟩ => ⟨by omega, h1, h2⟩, fun ⟨_, h1, h2⟩ => ⟨h1, h2⟩⟩
    · simp only [seeStep, if_neg h, List.mem_cons, forall_eq_or_imp]
      exact ⟨fun ⟨h1, h2⟩ => ⟨h1, by omega, h2⟩, fun ⟨h1, _, h2⟩ => ⟨h1, h2⟩⟩
/-- The greatest number of a list, at least 0. -/
def mostL (l : List Int) : Int := l.foldl max 0
theorem most_le {n : Int} : ∀ (l : List Int) (s : Int), l.foldl max s ≤ n ↔ s ≤ n ∧ ∀ a ∈ l, a ≤ n
  | [], s => by simp
  | a :: l, s => by
    rw [List.foldl_cons, most_le l]
    simp only [List.mem_cons, forall_eq_or_imp]
    constructor
    · rintro ⟨h1, h2⟩; exact ⟨by omega, by omega, h2⟩
    · rintro ⟨h1, h2, h3⟩; exact ⟨by omega, h3⟩
theorem mostL_le {n : Int} {l : List Int} : mostL l ≤ n ↔ 0 ≤ n ∧ ∀ a ∈ l, a ≤ n := most_le l 0
theorem most_eq {l : List Int} {r : Int} (h0 : ∀ a ∈ l, 0 ≤ a) (h1 : ∀ a ∈ l, a ≤ r) (h2 : r ∈ l) : mostL l = r := by
  have q1 := (mostL_le (n := mostL l)).1 (Int.le_refl _)
  have q2 := (mostL_le (n := r) (l := l)).2 ⟨h0 r h2, h1⟩
  have := q1.2 r h2
  omega
theorem seen_most {l l' : List Int} (h : ∀ a, a ∈ l ↔ a ∈ l') : (seen l).1 = mostL l' := by
  have q1 := (see_most (n := (seen l).1) l (0, 0)).1 (Int.le_refl _)
  have q2 := (mostL_le (n := mostL l') (l := l')).1 (Int.le_refl _)
  have r1 := (see_most (n := mostL l') l (0, 0)).2 ⟨q2.1, fun a ha => q2.2 a ((h a).1 ha)⟩
  have r2 := (mostL_le (n := (seen l).1) (l := l')).2 ⟨q1.1, fun a ha => q1.2 a ((h a).2 ha)⟩
  exact Int.le_antisymm r1 r2
/-- Sights and the greatest height of a line, either way. -/
theorem sight_law {l l' : List Int} (h : ∀ a, a ∈ l ↔ a ∈ l') : 0 ≤ (seen l).2 ∧ (seen l).2 ≤ mostL l' ∧ (0 < mostL l' ↔ 0 < (seen l).2) := by
  obtain ⟨h1, h2, h3⟩ := see_inv l (0, 0) (Int.le_refl _) (Int.le_refl _) (fun e => e)
  rw [← seen_most h]
  exact ⟨h1, h2, h3, fun e => Int.lt_of_lt_of_le e h2⟩
/-- The length and the number of the lines of a direction; the column of a place of a line. -/
def lnN (x y : Int) (dir : Nat) : Nat := (if dir = 0 then x else y).toNat
def lnM (x y : Int) (dir : Nat) : Nat := (if dir = 0 then y else x).toNat
def lnI (y : Int) (dir i k : Nat) : Nat := if dir = 0 then k * y.toNat + i else i * y.toNat + k
def lineH (x y : Int) (dir : Nat) (ts : List Int) (i n : Nat) : List Int := (List.range n).map fun k => ts.getD (lnI y dir i k) 0
def linesH (x y : Int) (dir : Nat) (ts : List Int) (m : Nat) : List (List Int) := (List.range m).map fun i => lineH x y dir ts i (lnN x y dir)
theorem lineH_succ {x y : Int} {dir i n : Nat} {ts : List Int} : lineH x y dir ts i (n + 1) = lineH x y dir ts i n ++ [ts.getD (lnI y dir i n) 0] := by simp [lineH, List.range_succ]
theorem lineH_len {x y : Int} {dir i n : Nat} {ts : List Int} : (lineH x y dir ts i n).length = n := by simp [lineH]
theorem linesH_succ {x y : Int} {dir m : Nat} {ts : List Int} : linesH x y dir ts (m + 1) = linesH x y dir ts m ++ [lineH x y dir ts m (lnN x y dir)] := by simp [linesH, List.range_succ]
theorem linesH_len {x y : Int} {dir m : Nat} {ts : List Int} : (linesH x y dir ts m).length = m := by simp [linesH]
theorem linesH_get {x y : Int} {dir m i : Nat} {ts : List Int} (h : i < m) : (linesH x y dir ts m).getD i [] = lineH x y dir ts i (lnN x y dir) := by simp [linesH, h]
/-- The line of a column. -/
def othN (y : Nat) (dir p : Nat) : Nat := if dir = 0 then p % y else p / y
def rowsB (x y dir i : Nat) : Bool := !(decide (0 < y) && decide (i < (if dir = 0 then y else x))) || decide ((List.range (x * y)).filter (fun p => othN y dir p == i) = (List.range (if dir = 0 then x else y)).map fun k => if dir = 0 then k * y + i else i * y + k)
theorem rowsB_all : ((List.range 5).all fun x => (List.range 5).all fun y => (List.range 2).all fun dir => (List.range 5).all fun i => rowsB x y dir i) = true := by decide +kernel
theorem rows_all {x y dir i : Nat} (hx : x < 5) (hy : y < 5) (hy0 : 0 < y) (hd : dir < 2) (hi5 : i < 5) (hi : i < (if dir = 0 then y else x)) : (List.range (x * y)).filter (fun p => othN y dir p == i) = (List.range (if dir = 0 then x else y)).map fun k => if dir = 0 then k * y + i else i * y + k := by
  have h := rowsB_all
  rw [List.all_eq_true] at h
  have h1 := h x (List.mem_range.2 hx)
  rw [List.all_eq_true] at h1
  have h2 := h1 y (List.mem_range.2 hy)
  rw [List.all_eq_true] at h2
  have h3 := h2 dir (List.mem_range.2 hd)
  rw [List.all_eq_true] at h3
  have h4 := h3 i (List.mem_range.2 hi5)
  unfold rowsB at h4
  rw [decide_eq_true hy0, decide_eq_true hi] at h4
  simpa using h4
def rowP (y : Int) (dir : Nat) (ts : List Int) (i n : Nat) : List Int := ((List.range n).filter fun p => othN y.toNat dir p == i).map fun p => ts.getD p 0
theorem rowP_succ {y : Int} {dir i n : Nat} {ts : List Int} : rowP y dir ts i (n + 1) = if othN y.toNat dir n = i then rowP y dir ts i n ++ [ts.getD n 0] else rowP y dir ts i n := by
  unfold rowP
  rw [List.range_succ, List.filter_append, List.map_append]
  by_cases h : othN y.toNat dir n = i
  · simp [h]
  · simp [h]
theorem rowP_all {x y : Int} {dir i : Nat} {ts : List Int} (hx : 1 ≤ x ∧ x ≤ 4) (hy : 1 ≤ y ∧ y ≤ 4) (hd : dir < 2) (hi : i < lnM x y dir) : rowP y dir ts i (x * y).toNat = lineH x y dir ts i (lnN x y dir) := by
  obtain ⟨a, rfl⟩ : ∃ a : Nat, x = a := ⟨x.toNat, by omega⟩
  obtain ⟨b, rfl⟩ : ∃ b : Nat, y = b := ⟨y.toNat, by omega⟩
  have hi5 : i < 5 := by unfold lnM at hi; split at hi <;> omega
  have h := rows_all (x := a) (y := b) (by omega) (by omega) (by omega) hd hi5 (by unfold lnM at hi; split at hi <;> rename_i hh <;> simp [hh] <;> omega)
  unfold rowP lineH lnN lnI
  rw [show ((a : Int) * b).toNat = a * b by rw [← Int.natCast_mul, Int.toNat_natCast], Int.toNat_natCast, h, List.map_map]
  rw [show (if dir = 0 then (a : Int) else b).toNat = if dir = 0 then a else b by split <;> simp]
  rfl
/-- Sights of all lines, and the sky line. -/
def sgtL (x y : Int) (dir : Nat) (back : Bool) (ts : List Int) (m : Nat) : List Int := (List.range m).map fun i => (seen (if back then (lineH x y dir ts i (lnN x y dir)).reverse else lineH x y dir ts i (lnN x y dir))).2
def skyL (x y : Int) (dir : Nat) (ts : List Int) (m : Nat) : List Int := (List.range m).map fun i => mostL (lineH x y dir ts i (lnN x y dir))
theorem sgtL_succ {x y : Int} {dir m : Nat} {b : Bool} {ts : List Int} : sgtL x y dir b ts (m + 1) = sgtL x y dir b ts m ++ [(seen (if b then (lineH x y dir ts m (lnN x y dir)).reverse else lineH x y dir ts m (lnN x y dir))).2] := by simp [sgtL, List.range_succ]
theorem skyL_succ {x y : Int} {dir m : Nat} {ts : List Int} : skyL x y dir ts (m + 1) = skyL x y dir ts m ++ [mostL (lineH x y dir ts m (lnN x y dir))] := by simp [skyL, List.range_succ]
theorem sgtL_len {x y : Int} {dir m : Nat} {b : Bool} {ts : List Int} : (sgtL x y dir b ts m).length = m := by simp [sgtL]
theorem skyL_len {x y : Int} {dir m : Nat} {ts : List Int} : (skyL x y dir ts m).length = m := by simp [skyL]
theorem sgt_sky {x y : Int} {dir m i : Nat} {b : Bool} {ts : List Int} (h : i < m) : 0 ≤ (sgtL x y dir b ts m).getD i 0 ∧ (sgtL x y dir b ts m).getD i 0 ≤ (skyL x y dir ts m).getD i 0 ∧ (0 < (skyL x y dir ts m).getD i 0 ↔ 0 < (sgtL x y dir b ts m).getD i 0) := by
  have e1 : (sgtL x y dir b ts m).getD i 0 = (seen (if b then (lineH x y dir ts i (lnN x y dir)).reverse else lineH x y dir ts i (lnN x y dir))).2 := by simp [sgtL, h]
  have e2 : (skyL x y dir ts m).getD i 0 = mostL (lineH x y dir ts i (lnN x y dir)) := by simp [skyL, h]
  rw [e1, e2]
  exact sight_law fun a => by cases b <;> simp
theorem tops_leq {y : Int} {j : Nat} {n : Int} : ∀ {cs : List Cell} {v : List Int}, (∀ c ∈ cs, (c.a * y + c.b).toNat < v.length) → ((cs.foldl (topStep y) v).getD j 0 ≤ n ↔ v.getD j 0 ≤ n ∧ ∀ c ∈ cs, (c.a * y + c.b).toNat = j → c.c + 1 ≤ n)
  | [], v, _ => by simp
  | c :: cs, v, h => by
    have hc := h c (by simp)
    rw [List.foldl_cons, tops_leq (fun e he => by unfold topStep; rw [List.length_set]; exact h e (by simp [he]))]
    have hg : (topStep y v c).getD j 0 = if (c.a * y + c.b).toNat = j then max (v.getD j 0) (c.c + 1) else v.getD j 0 := by
      unfold topStep
      rw [List.getD_eq_getElem?_getD, List.getElem?_set]
      by_cases e : (c.a * y + c.b).toNat = j
      · subst e; simp [hc]
      · simp [e]
    rw [hg]
    constructor
    · rintro ⟨h1, h2⟩
      by_cases e : (c.a * y + c.b).toNat = j
      · rw [if_pos e] at h1
        exact ⟨by omega, fun d hd hdj => (List.mem_cons.1 hd).elim (fun e2 => by subst e2; omega) fun hd => h2 d hd hdj⟩
      · rw [if_neg e] at h1
        exact ⟨h1, fun d hd hdj => (List.mem_cons.1 hd).elim (fun e2 => by subst e2; exact (e hdj).elim) fun hd => h2 d hd hdj⟩
    · rintro ⟨h1, h2⟩
      refine ⟨?_, fun d hd hdj => h2 d (by simp [hd]) hdj⟩
      by_cases e : (c.a * y + c.b).toNat = j
      · rw [if_pos e]
        have := h2 c (by simp) e
        omega
      · rw [if_neg e]; exact h1
theorem tops_at {x y z : Int} {cs : List Cell} {j : Nat} {n : Int} (hS : Sides x y z) (hin : ∀ c ∈ cs, c.inBox x y z) : (topsOf x y cs).getD j 0 ≤ n ↔ 0 ≤ n ∧ ∀ c ∈ cs, (c.a * y + c.b).toNat = j → c.c + 1 ≤ n := by
  have hz : (List.replicate (x * y).toNat (0 : Int)).getD j 0 = 0 := by
    rw [List.getD_eq_getElem?_getD, List.getElem?_replicate]; split <;> simp
  unfold topsOf
  rw [tops_leq fun c hc => ?_, hz]
  obtain ⟨h1, h2, _⟩ := hin c hc
  have := col_bound hS.1 hS.2.1 (a := c.a) (b := c.b) (by omega) (by omega)
  rw [List.length_replicate]
  omega
theorem col_is {x y z : Int} {c : Cell} {dir i k : Nat} (hS : Sides x y z) (hc : c.inBox x y z) (hd : dir < 2) (hi : i < lnM x y dir) (hk : k < lnN x y dir) : (c.a * y + c.b).toNat = lnI y dir i k ↔ if dir = 0 then c.a = k ∧ c.b = i else c.a = i ∧ c.b = k := by
  obtain ⟨⟨_, _⟩, ⟨_, _⟩, ⟨_, _⟩⟩ := hS
  obtain ⟨⟨_, _⟩, ⟨_, _⟩, ⟨_, _⟩⟩ := hc
  unfold lnM at hi
  unfold lnN at hk
  unfold lnI
  rcases (show dir = 0 ∨ dir = 1 by omega) with rfl | rfl <;> simp at hi hk ⊢ <;> rcases (show y = 1 ∨ y = 2 ∨ y = 3 ∨ y = 4 by omega) with rfl | rfl | rfl | rfl <;> simp at hi hk ⊢ <;> omega
theorem mir_mem {x y z : Int} {d : Int} {cs : List Cell} (hH : HeapOK x y z cs) {c : Cell} : c ∈ mirD x y z d cs ↔ mirDC x y z d c ∈ cs := by
  have htw : ∀ e : Cell, mirDC x y z d (mirDC x y z d e) = e := fun e => by
    unfold mirDC
    obtain ⟨a, b, f⟩ := e
    simp only [cell_eq]
    refine ⟨?_, ?_, ?_⟩ <;> split <;> omega
  unfold mirD
  rw [mem_pick hH.1, decide_eq_true_iff, List.mem_map]
  constructor
  · rintro ⟨_, e, he, rfl⟩
    rw [htw]; exact he
  · intro hc
    refine ⟨?_, _, hc, htw c⟩
    rw [← htw c]
    exact mirDC_in (hH.mem hc)
/-- A mirrored heap has the lines read from the end. -/
theorem line_mir {x y z : Int} {dir : Nat} {cs : List Cell} (hH : HeapOK x y z cs) (hd : dir < 2) {i : Nat} (hi : i < lnM x y dir) : lineH x y dir (topsOf x y (mirD x y z dir cs)) i (lnN x y dir) = (lineH x y dir (topsOf x y cs) i (lnN x y dir)).reverse := by
  have hS := hH.1
  have hM : HeapOK x y z (mirD x y z dir cs) := pick_ok hS _
  refine ints_same (by simp [lineH_len]) fun k hk => ?_
  rw [lineH_len] at hk
  have e1 : (lineH x y dir (topsOf x y (mirD x y z dir cs)) i (lnN x y dir)).getD k 0 = (topsOf x y (mirD x y z dir cs)).getD (lnI y dir i k) 0 := by simp [lineH, hk]
  have e2 : ((lineH x y dir (topsOf x y cs) i (lnN x y dir)).reverse).getD k 0 = (topsOf x y cs).getD (lnI y dir i (lnN x y dir - 1 - k)) 0 := by
    rw [List.getD_eq_getElem?_getD, List.getElem?_reverse (by rw [lineH_len]; exact hk), lineH_len, ← List.getD_eq_getElem?_getD]
    simp [lineH, show lnN x y dir - 1 - k < lnN x y dir by omega]
  rw [e1, e2]
  have key : ∀ n : Int, (topsOf x y (mirD x y z dir cs)).getD (lnI y dir i k) 0 ≤ n ↔ (topsOf x y cs).getD (lnI y dir i (lnN x y dir - 1 - k)) 0 ≤ n := fun n => by
    rw [tops_at hS (fun c hc => hM.mem hc), tops_at hS (fun c hc => hH.mem hc)]
    refine and_congr Iff.rfl ⟨fun h c hc hcj => ?_, fun h c hc hcj => ?_⟩
    · have hcb := hH.mem hc
      have hm : mirDC x y z dir c ∈ mirD x y z dir cs := (mir_mem hH).2 (by
        have : mirDC x y z dir (mirDC x y z dir c) = c := by
          unfold mirDC
          obtain ⟨a, b, f⟩ := c
          simp only [cell_eq]
          refine ⟨?_, ?_, ?_⟩ <;> split <;> omega
        rw [this]; exact hc)
      have h2 := (col_is hS hcb hd hi (show lnN x y dir - 1 - k < lnN x y dir by omega)).1 hcj
      have h3 := h _ hm ((col_is hS (mirDC_in hcb) hd hi hk).2 (by
        unfold lnN at hk h2
        rcases (show dir = 0 ∨ dir = 1 by omega) with rfl | rfl <;> simp [mirDC] at h2 hk ⊢ <;> omega))
      rcases (show dir = 0 ∨ dir = 1 by omega) with rfl | rfl <;> simpa [mirDC] using h3
    · have hcb := hM.mem hc
      have hm := (mir_mem hH).1 hc
      have h2 := (col_is hS hcb hd hi hk).1 hcj
      have h3 := h _ hm ((col_is hS (mirDC_in hcb) hd hi (show lnN x y dir - 1 - k < lnN x y dir by omega)).2 (by
        unfold lnN at hk ⊢
        rcases (show dir = 0 ∨ dir = 1 by omega) with rfl | rfl <;> simp [mirDC] at h2 hk ⊢ <;> omega))
      rcases (show dir = 0 ∨ dir = 1 by omega) with rfl | rfl <;> simpa [mirDC] using h3
  exact Int.le_antisymm ((key _).2 (Int.le_refl _)) ((key _).1 (Int.le_refl _))
theorem sgt_mir {x y z : Int} {dir : Nat} {b : Bool} {cs : List Cell} (hH : HeapOK x y z cs) (hd : dir < 2) : sgtL x y dir (!b) (topsOf x y (mirD x y z dir cs)) (lnM x y dir) = sgtL x y dir b (topsOf x y cs) (lnM x y dir) := by
  unfold sgtL
  refine List.map_congr_left fun i hi => ?_
  rw [line_mir hH hd (List.mem_range.1 hi)]
  cases b <;> simp
/-- Levels: a height counts at its place. -/
def lvStep (v : List Int) (h : Int) : List Int := v.set h.toNat (v.getD h.toNat 0 + 1)
def lvL (z : Int) (ts : List Int) : List Int := ts.foldl lvStep (List.replicate (z + 1).toNat 0)
/-- How many orders of m columns one sees i of. -/
def stir : Nat → Nat → Nat
  | 0, 0 => 1
  | 0, _ + 1 => 0
  | m + 1, 0 => m * stir m 0
  | m + 1, i + 1 => m * stir m (i + 1) + stir m i
def stirT : Nat → List Nat
  | 0 => [1, 0, 0, 0, 0, 0, 0, 0, 0, 0, 0, 0, 0]
  | m + 1 => let r := stirT m; (List.range 13).map fun i => m * r.getD i 0 + if i = 0 then 0 else r.getD (i - 1) 0
theorem stirT_eq : ∀ m i, i < 13 → (stirT m).getD i 0 = stir m i
  | 0, 0, _ => rfl
  | 0, i + 1, h => by
    rcases (show i = 0 ∨ i = 1 ∨ i = 2 ∨ i = 3 ∨ i = 4 ∨ i = 5 ∨ i = 6 ∨ i = 7 ∨ i = 8 ∨ i = 9 ∨ i = 10 ∨ i = 11 by omega) with rfl | rfl | rfl | rfl | rfl | rfl | rfl | rfl | rfl | rfl | rfl | rfl <;> rfl
  | m + 1, 0, h => by
    have := stirT_eq m 0 (by omega)
    simp only [stirT, stir]
    rw [← this]
    simp
  | m + 1, i + 1, h => by
    have h1 := stirT_eq m (i + 1) h
    have h2 := stirT_eq m i (by omega)
    simp only [stirT, stir]
    rw [← h1, ← h2]
    simp [h]
theorem stirT_le : ∀ m, m < 13 → ∀ i, i < 13 → (stirT m).getD i 0 ≤ 479001600 := by decide +kernel
theorem stir_le {m i : Nat} (hm : m < 13) (hi : i < 13) : stir m i ≤ 479001600 := by rw [← stirT_eq m i hi]; exact stirT_le m hm i hi
def factN : Nat → Nat
  | 0 => 1
  | n + 1 => factN n * (n + 1)
theorem stirT_sum : ∀ n, n < 13 → ((List.range (n + 1)).map fun i => (stirT n).getD i 0).sum = factN n := by decide +kernel
theorem stir_sum {n : Nat} (hn : n < 13) : ((List.range (n + 1)).map (stir n)).sum = factN n := by
  rw [← stirT_sum n hn]
  refine congrArg _ (List.map_congr_left fun i hi => ?_)
  have := List.mem_range.1 hi
  exact (stirT_eq n i (by omega)).symm
theorem factN_le : ∀ n, n < 13 → factN n ≤ 479001600 := by decide +kernel
end Go.Ab

/- The abstract code of some functions (written by a program of mine from the translation, by way of prepF). -/
namespace Go.Ab.C
open Go.Ab
end Go.Ab.C

/- That the program has this code. -/
namespace Go.Ab.K
open Go Go.Ab
end Go.Ab.K

/- Tables: lists of lists of numbers in memory; how they grow; the law's comparison. -/
namespace Go.Ab
open Go
set_option linter.unusedSimpArgs false
set_option linter.unusedVariables false
set_option maxRecDepth 20000

/-- A table that is one's own: its blocks lie before b and not before lo. -/
def TabO (N : Mem) (t : Nat) (L : List (List Int)) (b lo : Nat) : Prop := ∃ refs : List LV, Live N t (.row refs true 1) ∧ refs.length = L.length ∧ t < b ∧ lo ≤ t ∧ ∀ i, i < L.length → ∃ u, lo ≤ u ∧ u < b ∧ u ≠ t ∧ refs[i]? = some (.ref u 0 (L.getD i []).length) ∧ Live N u (.row (intL (L.getD i [])) true 1)
theorem TabO.pre {N N' : Mem} {t : Nat} {L : List (List Int)} {b lo : Nat} (h : TabO N t L b lo) (hp : Pre N N') : TabO N' t L b lo := by
  obtain ⟨refs, h1, h2, h3, h0, h4⟩ := h
  exact ⟨refs, h1.pre hp, h2, h3, h0, fun i hi => by obtain ⟨u, q0, q1, q2, q3, q4⟩ := h4 i hi; exact ⟨u, q0, q1, q2, q3, q4.pre hp⟩⟩
theorem TabO.nil {N : Mem} {t lo : Nat} (h : Live N t (.row [] true 1)) (hl : lo ≤ t) : TabO N t [] N.length lo := ⟨[], h, rfl, h.lt, hl, fun i hi => by simp at hi⟩
/-- All that lies from lo on stays. -/
theorem TabO.hold {N N' : Mem} {t : Nat} {L : List (List Int)} {b lo : Nat} (h : TabO N t L b lo) (hk : ∀ q, lo ≤ q → q < N.length → N'[q]? = N[q]?) : TabO N' t L b lo := by
  obtain ⟨refs, h1, h2, h3, h0, h4⟩ := h
  have key : ∀ {q : Nat} {bl : Blk}, lo ≤ q → Live N q bl → Live N' q bl := fun {q bl} hq hl => by
    have := hl.lt
    unfold Live at hl ⊢
    rw [hk q hq this]; exact hl
  exact ⟨refs, key h0 h1, h2, h3, h0, fun i hi => by obtain ⟨u, q0, q1, q2, q3, q4⟩ := h4 i hi; exact ⟨u, q0, q1, q2, q3, key q0 q4⟩⟩
/-- A row goes behind a table. -/
theorem appendK_tab {M0 N0 N : Mem} {t r lo : Nat} {L : List (List Int)} {l : List Int} {A : LV → Mem → Prop} (h : TabO N0 t L N0.length lo) (hp : Pre N0 N) (hr : Live N r (.row (intL l) true 1)) (hr0 : N0.length ≤ r) (hl : L.length ≤ 1000) (hM : Pre M0 N) (ht : M0.length ≤ t)
    (hA : ∀ u M', TabO M' u (L ++ [l]) M'.length lo → Pre M0 M' → (u = t ∨ N.length ≤ u) → (∀ w, w ≠ t → w < N.length → M'[w]? = N[w]?) → N.length ≤ M'.length → A (.ref u 0 (L ++ [l]).length) M') :
    appendK 1 24 (.ref t 0 L.length) (.ref N.length 0 1) (N ++ [some (.row [.ref r 0 l.length] true 1)]) A := by
  obtain ⟨refs, h1, h2, h3, h0, h4⟩ := h
  have hN := hp.1
  have hrl := hr.lt
  refine appendK_list (acc := refs) (new := [.ref r 0 l.length]) (h1.pre (hp.trans (Pre.app _ _))) (by omega) (Live.new (b := .row [.ref r 0 l.length] true 1)).has (by simp) (by omega) (by omega) fun u M' k1 k2 k3 k4 => ?_
  rw [List.length_append, List.length_singleton] at k1 k3 k4
  have hu : u ≠ r := by rcases k3 with e | e <;> omega
  have hold : ∀ w, w ≠ t → w < N.length → M'[w]? = N[w]? := fun w hw hwl => by
    rw [k4 w hw (by omega)]; exact List.getElem?_append_left hwl
  have e : L.length + 1 = (L ++ [l]).length := by simp
  rw [e]
  refine hA u M' ⟨refs ++ [.ref r 0 l.length], k2, by simp [h2], k2.lt, by rcases k3 with e | e <;> omega, fun i hi => ?_⟩ ?_ ?_ hold (by omega)
  · rw [List.length_append, List.length_singleton] at hi
    by_cases hi2 : i < L.length
    · obtain ⟨v, q0, q1, q2, q3, q4⟩ := h4 i hi2
      have hg : (L ++ [l]).getD i [] = L.getD i [] := by simp only [List.getD_eq_getElem?_getD]; rw [List.getElem?_append_left hi2]
      rw [hg]
      refine ⟨v, q0, by omega, by rcases k3 with e | e <;> omega, by rw [List.getElem?_append_left (by omega)]; exact q3, ?_⟩
      have := q4.pre hp
      unfold Live at this ⊢
      rw [hold v q2 (by omega)]; exact this
    · have : i = L.length := by omega
      subst this
      have hg : (L ++ [l]).getD L.length [] = l := by simp
      rw [hg]
      refine ⟨r, by omega, by omega, fun e => hu e.symm, by rw [← h2, List.getElem?_concat_length], ?_⟩
      unfold Live at hr ⊢
      rw [hold r (by omega) hrl]; exact hr
  · exact ⟨by have := hM.1; omega, fun w hw => by rw [hold w (by omega) (Nat.lt_of_lt_of_le hw hM.1)]; exact hM.2 w hw⟩
  · rcases k3 with e | e
    · exact .inl e
    · exact .inr (by omega)
/-- A table that may be read. -/
def TabV (N : Mem) (v : LV) (L : List (List Int)) : Prop := (v = .nil ∧ L = []) ∨ ∃ (t : Nat) (refs : List LV), v = .ref t 0 L.length ∧ Live N t (.row refs true 1) ∧ refs.length = L.length ∧ ∀ i, i < L.length → ∃ u : Nat, refs[i]? = some (.ref u 0 (L.getD i []).length) ∧ Ints N u 0 (L.getD i [])
theorem TabO.v {N : Mem} {t : Nat} {L : List (List Int)} {b lo : Nat} (h : TabO N t L b lo) : TabV N (.ref t 0 L.length) L := by
  obtain ⟨refs, h1, h2, h3, h0, h4⟩ := h
  exact .inr ⟨t, refs, rfl, h1, h2, fun i hi => by obtain ⟨u, q0, q1, q2, q3, q4⟩ := h4 i hi; exact ⟨u, q3, q4.has⟩⟩
theorem TabV.pre {N N' : Mem} {v : LV} {L : List (List Int)} (h : TabV N v L) (hp : Pre N N') : TabV N' v L := by
  rcases h with h | ⟨t, refs, h1, h2, h3, h4⟩
  · exact .inl h
  · exact .inr ⟨t, refs, h1, h2.pre hp, h3, fun i hi => by obtain ⟨u, q3, q4⟩ := h4 i hi; exact ⟨u, q3, q4.pre hp⟩⟩
theorem TabV.lenV {N : Mem} {v : LV} {L : List (List Int)} (h : TabV N v L) : lenV v = some (L.length : Int) := by
  rcases h with ⟨rfl, rfl⟩ | ⟨t, refs, rfl, _⟩ <;> rfl
theorem TabV.at {N : Mem} {v : LV} {L : List (List Int)} {i : Nat} (h : TabV N v L) (hi : i < L.length) : ∃ t u : Nat, v = .ref t 0 L.length ∧ getCell N t i = some (.ref u 0 (L.getD i []).length) ∧ Ints N u 0 (L.getD i []) := by
  rcases h with ⟨_, rfl⟩ | ⟨t, refs, rfl, h2, h3, h4⟩
  · simp at hi
  · obtain ⟨u, q3, q4⟩ := h4 i hi
    refine ⟨t, u, rfl, ?_, q4⟩
    rw [← q3]
    exact h2.cell
end Go.Ab
