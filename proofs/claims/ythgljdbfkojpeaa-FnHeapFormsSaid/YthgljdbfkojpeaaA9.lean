/- Parts of the proof of FnHeapFormsSaid: Yi Zc Zd Ja Jb Jc Jf Jg Jh C_Ji K_Ji. -/
import Derived.Test.YthgljdbfkojpeaaA8
import Derived.Test.YthgljdbfkojpeaaA4
import Derived.Test.YthgljdbfkojpeaaA7
import Derived.Test.YthgljdbfkojpeaaA6
import Derived.Test.YthgljdbfkojpeaaA3
import Derived.Test.YthgljdbfkojpeaaProg
import Derived.KernelRfl
set_option linter.all false
/- Contracts: packings, the program's side. -/
namespace Go.Ab
open Go
set_option linter.unusedSimpArgs false
set_option linter.unusedVariables false
set_option maxRecDepth 20000

end Go.Ab

/- Contracts: FaultPlanes, the program's side. -/
namespace Go.Ab
open Go
set_option linter.unusedSimpArgs false
set_option linter.unusedVariables false
set_option maxRecDepth 20000

end Go.Ab

/- Contracts: pieces put into a list of numbers, the reference's side. -/
namespace Go.Ab
open Go
set_option linter.unusedSimpArgs false
set_option linter.unusedVariables false
set_option maxRecDepth 20000

def At3 (p : Cell) : Prop := (0 ≤ p.a ∧ p.a ≤ 3) ∧ (0 ≤ p.b ∧ p.b ≤ 3) ∧ (0 ≤ p.c ∧ p.c ≤ 3)
def FitsP (x y z : Int) (cs l : List Cell) (p : Cell) : Prop := At3 p ∧ ∀ c ∈ l, (shift p c).inBox x y z ∧ shift p c ∉ cs
def startL (x y z : Int) (cs : List Cell) : List Int := (cellsOf x y z).map fun c => if c ∈ cs then -1 else -2
def setsL (y z : Int) (n : Int) (xs : List Int) (ds : List Cell) : List Int := ds.foldl (fun v d => v.set (idx y z d).toNat n) xs
def PutOK (x y z : Int) (cs l : List Cell) (p : Cell) (xs : List Int) : Prop := FitsP x y z cs l p ∧ ∀ c ∈ l, atL y z xs (shift p c) = -2
noncomputable instance {x y z : Int} {cs l : List Cell} {p : Cell} : Decidable (FitsP x y z cs l p) := Classical.propDecidable _
noncomputable instance {x y z : Int} {cs l : List Cell} {p : Cell} {xs : List Int} : Decidable (PutOK x y z cs l p xs) := Classical.propDecidable _
noncomputable def putR (x y z : Int) (cs l : List Cell) (p : Cell) (xs : List Int) (n : Int) : List Int := if PutOK x y z cs l p xs then setsL y z n xs (l.map (shift p)) else []

section
variable {l : List Cell} {t o : Nat} {M : Mem} {p : Cell} (h : Tri M t o l) (hn : l.length ≤ 64) (hin : ∀ c ∈ l, c.inBox 4 4 4) (hp : At3 p)
include h hn hin hp
end
section
variable {x y z : Int} {t o u q : Nat} {cs l : List Cell} {p : Cell} {M : Mem} (h : Tri M t o cs) (hH : HeapOK x y z cs) (hl : Tri M u q l) (hn : l.length ≤ 64) (hin : ∀ c ∈ l, c.inBox 4 4 4)
include h hH hl hn hin
end
end Go.Ab

/- Contracts: pieces that fit, places, boxes, parities: the reference's side. -/
namespace Go.Ab
open Go
set_option linter.unusedSimpArgs false
set_option linter.unusedVariables false
set_option maxRecDepth 20000

theorem PieceOK.le {l : List Cell} (h : PieceOK l) : l.length ≤ 5 := h.1.2
def FitQ (x y z : Int) (cs l : List Cell) : Prop := HeapOK x y z cs ∧ PieceOK l
noncomputable def fitOf (x y z : Int) (cs l : List Cell) (p : Cell) : Option Bool := by
  classical
  exact if FitQ x y z cs l then some (decide (FitsP x y z cs l p)) else none
noncomputable def placesOf (x y z : Int) (cs l : List Cell) : Option (List Cell) := by
  classical
  exact if FitQ x y z cs l then some (pick x y z fun c => decide (FitsP x y z cs l c)) else none
noncomputable def boxOf (x y z : Int) : Option (List Cell) := by
  classical
  exact if Sides x y z ∧ vol x y z ≤ 5 then some (cellsOf x y z) else none
noncomputable def ppOf (l : List Cell) : Option Int := by
  classical
  exact if PieceOK l then some (max (parL l) (0 - parL l)) else none
noncomputable def fpOf (x y z : Int) (cs : List Cell) : Option Int := by
  classical
  exact if HeapOK x y z cs then some (parL (pick x y z (freeP cs))) else none
section
variable {x y z : Int} {t o u q : Nat} {cs l : List Cell} {M : Mem} (h : Tri M t o cs) (hn : cs.length ≤ 1000000000) (hl : Tri M u q l) (hln : l.length ≤ 1000000000)
include hl hln
include h hn
end
end Go.Ab

/- Contracts: pieces that fit, places, boxes, parities, other cells: the program's side. -/
namespace Go.Ab
open Go
set_option linter.unusedSimpArgs false
set_option linter.unusedVariables false
set_option maxRecDepth 20000

noncomputable instance {x y z : Int} {cs l : List Cell} : Decidable (FitQ x y z cs l) := Classical.propDecidable _
section
variable {x y z : Int} {t o u q : Nat} {cs l : List Cell} {M : Mem} (h : Tri M t o cs) (hn : cs.length ≤ 1000000000) (hl : Tri M u q l) (hln : l.length ≤ 1000000000)
include hl hln
include h hn
end
theorem g_OtherCellsV {x y z : Int} {t o : Nat} {cs : List Cell} {M : Mem} (h : Tri M t o cs) (hH : HeapOK x y z cs) :
    CallsR PG F.impl_OtherCells [.agg [.I x, .I y, .I z, .ref t o cs.length]] M fun v N => (∃ u : Nat, v = .tup [.agg [.I x, .I y, .I z, .ref u 0 (pick x y z (freeP cs)).length], .B true] ∧ Live N u (.row (triL (pick x y z (freeP cs))) true 3) ∧ M.length ≤ u) ∧ Pre M N := by
  have hlen := hH.len
  refine callsR_run K.impl_OtherCells rfl ?_
  simp (disch := omega) only [C.impl_OtherCells, ↓SXd, SXu, slBounds, ↓sop, ↓aop, ↓reduceIte, LV.cells, AOp.dst, LV.I, LV.B, LV.U, LV.S, LV.nil, Nat.reduceEqDiff, Nat.reduceAdd, Nat.reduceMul, Nat.reduceSub, Nat.reduceLeDiff, Nat.reduceBEq, Nat.reduceDiv, Nat.reduceMod, Int.reduceToNat, Int.reduceLT, Int.reduceLE, Int.reduceAdd, Int.reduceSub, Int.reduceMul, Int.reduceEq, Int.reduceNeg, reduceCtorEq, resV, resAll, ARes.ev, LV.flat, ite_true, ite_false, exists_eq_left', exists_eq_left, keyOf, implies_true, fillC, capOf]
  refine callK_of (g_IsHeap h.app (by omega)) ?_
  simp (disch := omega) only [hH, ↓SXd, SXu, slBounds, ↓sop, ↓aop, ↓reduceIte, LV.cells, AOp.dst, LV.I, LV.B, LV.U, LV.S, LV.nil, Nat.reduceEqDiff, Nat.reduceAdd, Nat.reduceMul, Nat.reduceSub, Nat.reduceLeDiff, Nat.reduceBEq, Nat.reduceDiv, Nat.reduceMod, Int.reduceToNat, Int.reduceLT, Int.reduceLE, Int.reduceAdd, Int.reduceSub, Int.reduceMul, Int.reduceEq, Int.reduceNeg, reduceCtorEq, resV, resAll, ARes.ev, LV.flat, ite_true, ite_false, exists_eq_left', exists_eq_left, keyOf, implies_true, fillC, capOf]
  refine callK_of (g_box) ?_
  simp (disch := omega) only [↓SXd, SXu, slBounds, ↓sop, ↓aop, ↓reduceIte, LV.cells, AOp.dst, LV.I, LV.B, LV.U, LV.S, LV.nil, Nat.reduceEqDiff, Nat.reduceAdd, Nat.reduceMul, Nat.reduceSub, Nat.reduceLeDiff, Nat.reduceBEq, Nat.reduceDiv, Nat.reduceMod, Int.reduceToNat, Int.reduceLT, Int.reduceLE, Int.reduceAdd, Int.reduceSub, Int.reduceMul, Int.reduceEq, Int.reduceNeg, reduceCtorEq, resV, resAll, ARes.ev, LV.flat, ite_true, ite_false, exists_eq_left', exists_eq_left, keyOf, implies_true, fillC, capOf]
  refine callK_of (g_box) ?_
  simp (disch := omega) only [↓SXd, SXu, slBounds, ↓sop, ↓aop, ↓reduceIte, LV.cells, AOp.dst, LV.I, LV.B, LV.U, LV.S, LV.nil, Nat.reduceEqDiff, Nat.reduceAdd, Nat.reduceMul, Nat.reduceSub, Nat.reduceLeDiff, Nat.reduceBEq, Nat.reduceDiv, Nat.reduceMod, Int.reduceToNat, Int.reduceLT, Int.reduceLE, Int.reduceAdd, Int.reduceSub, Int.reduceMul, Int.reduceEq, Int.reduceNeg, reduceCtorEq, resV, resAll, ARes.ev, LV.flat, ite_true, ite_false, exists_eq_left', exists_eq_left, keyOf, implies_true, fillC, capOf]
  refine callK_of (g_full hH.1) ?_
  simp (disch := omega) only [↓SXd, SXu, slBounds, ↓sop, ↓aop, ↓reduceIte, LV.cells, AOp.dst, LV.I, LV.B, LV.U, LV.S, LV.nil, Nat.reduceEqDiff, Nat.reduceAdd, Nat.reduceMul, Nat.reduceSub, Nat.reduceLeDiff, Nat.reduceBEq, Nat.reduceDiv, Nat.reduceMod, Int.reduceToNat, Int.reduceLT, Int.reduceLE, Int.reduceAdd, Int.reduceSub, Int.reduceMul, Int.reduceEq, Int.reduceNeg, reduceCtorEq, resV, resAll, ARes.ev, LV.flat, ite_true, ite_false, exists_eq_left', exists_eq_left, keyOf, implies_true, fillC, capOf]
  refine callK_of (g_cubes h.app (by omega) hH.1 (fun c hc => hH.mem hc)) ?_
  simp (disch := omega) only [↓SXd, SXu, slBounds, ↓sop, ↓aop, ↓reduceIte, LV.cells, AOp.dst, LV.I, LV.B, LV.U, LV.S, LV.nil, Nat.reduceEqDiff, Nat.reduceAdd, Nat.reduceMul, Nat.reduceSub, Nat.reduceLeDiff, Nat.reduceBEq, Nat.reduceDiv, Nat.reduceMod, Int.reduceToNat, Int.reduceLT, Int.reduceLE, Int.reduceAdd, Int.reduceSub, Int.reduceMul, Int.reduceEq, Int.reduceNeg, reduceCtorEq, resV, resAll, ARes.ev, LV.flat, ite_true, ite_false, exists_eq_left', exists_eq_left, keyOf, implies_true, fillC, capOf]
  rw [bs_diff hH.1, (bs_eq hH.1).2 fun c _ => show (true && !decide (c ∈ cs)) = freeP cs c by simp [freeP]]
  refine callK_of (g_heap hH.1) ?_
  simp (disch := omega) only [splice, ↓SXd, SXu, slBounds, ↓sop, ↓aop, ↓reduceIte, LV.cells, AOp.dst, LV.I, LV.B, LV.U, LV.S, LV.nil, Nat.reduceEqDiff, Nat.reduceAdd, Nat.reduceMul, Nat.reduceSub, Nat.reduceLeDiff, Nat.reduceBEq, Nat.reduceDiv, Nat.reduceMod, Int.reduceToNat, Int.reduceLT, Int.reduceLE, Int.reduceAdd, Int.reduceSub, Int.reduceMul, Int.reduceEq, Int.reduceNeg, reduceCtorEq, resV, resAll, ARes.ev, LV.flat, ite_true, ite_false, exists_eq_left', exists_eq_left, keyOf, implies_true, fillC, capOf]
  exact ⟨⟨M.length + 2, rfl, Live.newj (j := 2) rfl, by omega⟩, Pre.app _ _⟩
end Go.Ab

/- Plain: boxes as pieces; parities of all cells; places. -/
namespace Go.Ab
open Go
set_option linter.unusedSimpArgs false
set_option linter.unusedVariables false
set_option maxRecDepth 20000

theorem free_free {x y z : Int} {cs : List Cell} (hH : HeapOK x y z cs) : pick x y z (freeP (pick x y z (freeP cs))) = cs := by
  refine sorted_ext (pick_sorted hH.1 _) hH.sorted fun c => ?_
  rw [mem_pick hH.1]
  unfold freeP
  constructor
  · rintro ⟨hin, h⟩
    simp only [Bool.not_eq_true', decide_eq_false_iff_not] at h
    exact Classical.byContradiction fun hn => h ((mem_pick hH.1).2 ⟨hin, by simpa using hn⟩)
  · intro hc
    refine ⟨hH.mem hc, ?_⟩
    simp only [Bool.not_eq_true', decide_eq_false_iff_not]
    intro h
    have := ((mem_pick hH.1).1 h).2
    simp [hc] at this
end Go.Ab

/- Heaps that a law keeps: mirrored, swapped, joined, common, shifted, cropped and widened ones, plainly. -/
namespace Go.Ab
open Go
set_option linter.unusedSimpArgs false
set_option linter.unusedVariables false
set_option maxRecDepth 20000

/-- A heap, or the empty one and false; its cells lie in a block of their own. -/
def HeapX (M : Mem) (r : Option Hp) (v : LV) (N : Mem) : Prop := ∃ u : Nat, v = .tup [.agg [.I (r.getD Hp.none).x, .I (r.getD Hp.none).y, .I (r.getD Hp.none).z, .ref u 0 (r.getD Hp.none).cs.length], .B r.isSome] ∧ Live N u (.row (triL (r.getD Hp.none).cs) true 3) ∧ Pre M N
theorem heapX_some {M N : Mem} {g : Hp} {v : LV} (h : HeapT M g v N) (hp : Pre M N) : HeapX M (some g) v N := by
  obtain ⟨u, rfl, hu, _⟩ := h
  exact ⟨u, rfl, hu, hp⟩
theorem heapX_of {f : FuncId} {args : List LV} {M : Mem} {r : Option Hp} (h : CallsR PG f args M fun v N => (∃ g, r = some g ∧ HeapT M g v N ∧ Pre M N) ∨ (r = none ∧ v = .tup [.agg [.I 0, .I 0, .I 0, .nil], .B false] ∧ Pre M N)) : CallsR PG f args M (HeapX M r) := by
  refine h.den (e := 3) ?_
  rintro v N (⟨g, rfl, hg, hp⟩ | ⟨rfl, rfl, hp⟩)
  · exact .inl (heapX_some hg hp)
  · exact .inr ⟨.tup [.agg [.I 0, .I 0, .I 0, .ref N.length 0 0], .B false], .inr ⟨_, _, rfl, rfl, .inr ⟨_, _, rfl, rfl, .rfl, .rfl, .rfl, .nil, trivial⟩, .rfl, trivial⟩, N.length, rfl, Live.new, hp.trans (Pre.app _ _)⟩
theorem heapX_no {M : Mem} {r : Option Hp} {v : LV} {N : Mem} (hr : r = none) (hv : v = .tup [.agg [.I 0, .I 0, .I 0, .nil], .B false]) (hp : Pre M N) : (∃ g, r = some g ∧ HeapT M g v N ∧ Pre M N) ∨ (r = none ∧ v = .tup [.agg [.I 0, .I 0, .I 0, .nil], .B false] ∧ Pre M N) := .inr ⟨hr, hv, hp⟩
theorem heapX_yes {M : Mem} {r : Option Hp} {v : LV} {N : Mem} {g : Hp} (hr : r = some g) (h : HeapT M g v N) (hp : Pre M N) : (∃ g, r = some g ∧ HeapT M g v N ∧ Pre M N) ∨ (r = none ∧ v = .tup [.agg [.I 0, .I 0, .I 0, .nil], .B false] ∧ Pre M N) := .inl ⟨g, hr, h, hp⟩

section
variable (x y z : Int) (cs : List Cell)
noncomputable def mirOf (d : Int) : Option Hp := by
  classical
  exact if HeapOK x y z cs ∧ Dir d then some ⟨x, y, z, mirD x y z d cs⟩ else none
noncomputable def othOf : Option Hp := by
  classical
  exact if HeapOK x y z cs then some ⟨x, y, z, pick x y z (freeP cs)⟩ else none
end
/-- Two coordinates exchanged. -/
def swI (a b i : Int) : Int := if i = a then b else if i = b then a else i
def swC (a b : Int) (c : Cell) : Cell := ⟨c.at (swI a b 0), c.at (swI a b 1), c.at (swI a b 2)⟩
def swX (a b : Int) (x y z : Int) (cs : List Cell) : Hp := ⟨(swC a b ⟨x, y, z⟩).a, (swC a b ⟨x, y, z⟩).b, (swC a b ⟨x, y, z⟩).c, pick (swC a b ⟨x, y, z⟩).a (swC a b ⟨x, y, z⟩).b (swC a b ⟨x, y, z⟩).c fun d => decide (d ∈ cs.map (swC a b))⟩
theorem swC_twice {a b : Int} {c : Cell} (ha : Dir a) (hb : Dir b) : swC a b (swC a b c) = c := by
  rcases ha with rfl | rfl | rfl <;> rcases hb with rfl | rfl | rfl <;> rfl
theorem swC_sides {a b x y z : Int} (ha : Dir a) (hb : Dir b) (hS : Sides x y z) : Sides (swC a b ⟨x, y, z⟩).a (swC a b ⟨x, y, z⟩).b (swC a b ⟨x, y, z⟩).c := by
  obtain ⟨⟨_, _⟩, ⟨_, _⟩, ⟨_, _⟩⟩ := hS
  rcases ha with rfl | rfl | rfl <;> rcases hb with rfl | rfl | rfl <;> exact ⟨⟨by assumption, by assumption⟩, ⟨by assumption, by assumption⟩, ⟨by assumption, by assumption⟩⟩
theorem swC_in {a b x y z : Int} {c : Cell} (ha : Dir a) (hb : Dir b) (hc : c.inBox x y z) : (swC a b c).inBox (swC a b ⟨x, y, z⟩).a (swC a b ⟨x, y, z⟩).b (swC a b ⟨x, y, z⟩).c := by
  obtain ⟨⟨_, _⟩, ⟨_, _⟩, ⟨_, _⟩⟩ := hc
  rcases ha with rfl | rfl | rfl <;> rcases hb with rfl | rfl | rfl <;> exact ⟨⟨by assumption, by assumption⟩, ⟨by assumption, by assumption⟩, ⟨by assumption, by assumption⟩⟩
section
variable {x y z : Int} {cs : List Cell}
theorem sw_ok {a b : Int} (ha : Dir a) (hb : Dir b) (hH : HeapOK x y z cs) : HeapOK (swX a b x y z cs).x (swX a b x y z cs).y (swX a b x y z cs).z (swX a b x y z cs).cs := pick_ok (swC_sides ha hb hH.1) _
theorem sw_twice {a b : Int} (ha : Dir a) (hb : Dir b) (hH : HeapOK x y z cs) : swX a b (swX a b x y z cs).x (swX a b x y z cs).y (swX a b x y z cs).z (swX a b x y z cs).cs = ⟨x, y, z, cs⟩ := by
  have hS := swC_sides ha hb hH.1
  have e : swC a b ⟨(swX a b x y z cs).x, (swX a b x y z cs).y, (swX a b x y z cs).z⟩ = ⟨x, y, z⟩ := swC_twice ha hb
  unfold swX at e ⊢
  simp only at e ⊢
  rw [e]
  simp only [Hp.mk.injEq, true_and]
  refine sorted_ext (pick_sorted hH.1 _) hH.sorted fun c => ?_
  rw [mem_pick hH.1, decide_eq_true_eq, List.mem_map]
  constructor
  · rintro ⟨_, d, hd, rfl⟩
    obtain ⟨_, h2⟩ := (mem_pick hS).1 hd
    rw [decide_eq_true_eq, List.mem_map] at h2
    obtain ⟨c, hc, rfl⟩ := h2
    rwa [swC_twice ha hb]
  · intro hc
    exact ⟨hH.mem hc, swC a b c, (mem_pick hS).2 ⟨swC_in ha hb (hH.mem hc), decide_eq_true (List.mem_map_of_mem hc)⟩, swC_twice ha hb⟩
theorem mirDC_twice {d : Int} {c : Cell} : mirDC x y z d (mirDC x y z d c) = c := by
  unfold mirDC
  obtain ⟨a, b, e⟩ := c
  simp only [cell_eq]
  refine ⟨?_, ?_, ?_⟩ <;> split <;> omega
theorem mirD_twice {d : Int} (hH : HeapOK x y z cs) : mirD x y z d (mirD x y z d cs) = cs := by
  refine sorted_ext (pick_sorted hH.1 _) hH.sorted fun c => ?_
  unfold mirD
  rw [mem_pick hH.1, decide_eq_true_eq, List.mem_map]
  constructor
  · rintro ⟨_, d, hd, rfl⟩
    obtain ⟨_, h2⟩ := (mem_pick hH.1).1 hd
    rw [decide_eq_true_eq, List.mem_map] at h2
    obtain ⟨c, hc, rfl⟩ := h2
    rwa [mirDC_twice]
  · intro hc
    exact ⟨hH.mem hc, mirDC x y z d c, (mem_pick hH.1).2 ⟨mirDC_in (hH.mem hc), decide_eq_true (List.mem_map_of_mem hc)⟩, mirDC_twice⟩
theorem shift_map (p : Cell) (hH : HeapOK x y z cs) : HeapOK x y z (cs.map (shift p)) ↔ ∀ c ∈ cs, (shift p c).inBox x y z := by
  constructor
  · intro h c hc
    exact h.mem (List.mem_map_of_mem hc)
  · intro h
    refine HeapOK.of hH.1 ?_ fun c hc => ?_
    · rw [List.pairwise_map]
      refine hH.sorted.imp fun {a b} hab => ?_
      unfold Cell.lt shift at *; simp only; omega
    · obtain ⟨d, hd, rfl⟩ := List.mem_map.1 hc
      exact h d hd
theorem shift_back {p : Cell} {l : List Cell} : (l.map (shift p)).map (shift ⟨-p.a, -p.b, -p.c⟩) = l := by
  rw [List.map_map]
  have : (shift ⟨-p.a, -p.b, -p.c⟩ ∘ shift p) = id := by
    funext c
    obtain ⟨a, b, e⟩ := c
    simp only [Function.comp, shift, id, cell_eq]
    omega
  rw [this, List.map_id]
end
section
variable (x y z : Int) (cs : List Cell)
noncomputable def swpOf (a b : Int) : Option Hp := by
  classical
  exact if HeapOK x y z cs ∧ Dir a ∧ Dir b then some (swX a b x y z cs) else none
/-- Both are heaps, in the same box. -/
def Alike (x' y' z' : Int) (ds : List Cell) : Prop := HeapOK x y z cs ∧ HeapOK x' y' z' ds ∧ x = x' ∧ y = y' ∧ z = z'
noncomputable instance {x y z : Int} {cs : List Cell} {x' y' z' : Int} {ds : List Cell} : Decidable (Alike x y z cs x' y' z' ds) := Classical.propDecidable _
noncomputable def jnOf (x' y' z' : Int) (ds : List Cell) : Option Hp := if Alike x y z cs x' y' z' ds then some ⟨x, y, z, pick x y z fun c => decide (c ∈ cs) || decide (c ∈ ds)⟩ else none
noncomputable def cmOf (x' y' z' : Int) (ds : List Cell) : Option Hp := if Alike x y z cs x' y' z' ds then some ⟨x, y, z, pick x y z fun c => decide (c ∈ cs) && decide (c ∈ ds)⟩ else none
/-- A shift that is not too far. -/
def Near4 (p : Cell) : Prop := (-4 ≤ p.a ∧ p.a ≤ 4) ∧ (-4 ≤ p.b ∧ p.b ≤ 4) ∧ (-4 ≤ p.c ∧ p.c ≤ 4)
noncomputable def shOf (p : Cell) : Option Hp := by
  classical
  exact if HeapOK x y z cs ∧ Near4 p ∧ HeapOK x y z (cs.map (shift p)) then some ⟨x, y, z, cs.map (shift p)⟩ else none
noncomputable def crOf : Option Hp := by
  classical
  exact if HeapOK x y z cs ∧ 0 < cs.length then some (cropHp cs) else none
noncomputable def wdOf (X Y Z : Int) : Option Hp := by
  classical
  exact if HeapOK x y z cs ∧ HeapOK X Y Z cs then some ⟨X, Y, Z, cs⟩ else none
end
theorem or_and_len {p q : Cell → Bool} : ∀ l : List Cell, (l.filter fun c => p c || q c).length + (l.filter fun c => p c && q c).length = (l.filter p).length + (l.filter q).length
  | [] => rfl
  | a :: l => by
    have ih := or_and_len (p := p) (q := q) l
    simp only [List.filter_cons]
    cases p a <;> cases q a <;> simp <;> omega
theorem join_len {x y z : Int} {cs ds : List Cell} (hC : HeapOK x y z cs) (hD : HeapOK x y z ds) : (pick x y z fun c => decide (c ∈ cs) || decide (c ∈ ds)).length + (pick x y z fun c => decide (c ∈ cs) && decide (c ∈ ds)).length = cs.length + ds.length := by
  have := or_and_len (p := fun c => decide (c ∈ cs)) (q := fun c => decide (c ∈ ds)) (cellsOf x y z)
  have e1 : ((cellsOf x y z).filter fun c => decide (c ∈ cs)).length = cs.length := congrArg List.length hC.pick.symm
  have e2 : ((cellsOf x y z).filter fun c => decide (c ∈ ds)).length = ds.length := congrArg List.length hD.pick.symm
  unfold Go.Ab.pick
  omega
theorem part_len {p : Cell → Bool} : ∀ l : List Cell, (l.filter p).length + (l.filter fun c => !p c).length = l.length
  | [] => rfl
  | a :: l => by
    have ih := part_len (p := p) l
    simp only [List.filter_cons]
    cases p a <;> simp <;> omega
theorem free_len {x y z : Int} {cs : List Cell} (hH : HeapOK x y z cs) : ((pick x y z (freeP cs)).length : Int) + cs.length = x * y * z := by
  have := part_len (p := fun c => decide (c ∈ cs)) (cellsOf x y z)
  have e1 : ((cellsOf x y z).filter fun c => decide (c ∈ cs)).length = cs.length := congrArg List.length hH.pick.symm
  have e2 : ((cellsOf x y z).filter fun c => !decide (c ∈ cs)) = pick x y z (freeP cs) := rfl
  have hcl : (cellsOf x y z).length = vol x y z := by simp [cellsOf]
  have hv := vol_cast hH.1
  rw [e2] at this
  omega
end Go.Ab

/- Contracts: the reference's mirrored, other, cropped, widened and shifted heaps. -/
namespace Go.Ab
open Go
set_option linter.unusedSimpArgs false
set_option linter.unusedVariables false
set_option maxRecDepth 20000

theorem dir_in {d : Int} : Dir d ↔ (0 ≤ d ∧ d ≤ 2) := by unfold Dir; omega
theorem heapX_box {M N : Mem} {q u : Nat} {g : Hp} {A : Mem → Prop} {old : List LV} (hq : Live N q (.row old true 0)) (ho : old.length = 4) (hu : Live N u (.row (triL g.cs) true 3)) (hql : M.length ≤ q) (hul : M.length ≤ u) (hp : Pre M N)
    (hA : ∀ N', Live N' q (.row [.I g.x, .I g.y, .I g.z, .ref u 0 g.cs.length] true 0) → HeapT M g (.tup [.agg [.I g.x, .I g.y, .I g.z, .ref u 0 g.cs.length], .B true]) N' → Pre M N' → A N') : memK (setCells N q 0 [.I g.x, .I g.y, .I g.z, .ref u 0 g.cs.length]) A := by
  have hne : u ≠ q := by
    rintro rfl
    exact hu.ne_esz hq (by decide) rfl
  refine memK_box hq (by rw [ho]; rfl) fun N3 k1 k2 k3 => hA N3 k2 ⟨u, rfl, live_step hu hne k3, hul⟩ (pre_step hp hql (j := 0) k1 k3)
section
variable {x y z : Int} {t : Nat} {w : Bool} {cs : List Cell} {M : Mem} (h : Live M t (.row (triL cs) w 3)) (hn : cs.length ≤ 1000000000)
include h hn
theorem h_sMirrorHeap {d : Int} : CallsR PG F.spec_MirrorHeap [.agg [.I x, .I y, .I z, .ref t 0 cs.length], .I d] M (HeapX M (mirOf x y z cs d)) := by
  refine heapX_of ?_
  refine callsR_run K.spec_MirrorHeap rfl ?_
  simp (disch := omega) only [C.spec_MirrorHeap, ↓SXd, SXu, slBounds, ↓sop, ↓aop, ↓reduceIte, LV.cells, AOp.dst, LV.I, LV.B, LV.U, LV.S, LV.nil, Nat.reduceEqDiff, Nat.reduceAdd, Nat.reduceMul, Nat.reduceSub, Nat.reduceLeDiff, Nat.reduceBEq, Nat.reduceDiv, Nat.reduceMod, Int.reduceToNat, Int.reduceLT, Int.reduceLE, Int.reduceAdd, Int.reduceSub, Int.reduceMul, Int.reduceEq, Int.reduceNeg, reduceCtorEq, resV, resAll, ARes.ev, LV.flat, ite_true, ite_false, exists_eq_left', exists_eq_left, keyOf, implies_true, fillC, capOf]
  refine callK_of (h_l2Heap (Has.app h.has) hn) ?_
  simp (disch := omega) only [↓SXd, SXu, slBounds, ↓sop, ↓aop, ↓reduceIte, LV.cells, AOp.dst, LV.I, LV.B, LV.U, LV.S, LV.nil, Nat.reduceEqDiff, Nat.reduceAdd, Nat.reduceMul, Nat.reduceSub, Nat.reduceLeDiff, Nat.reduceBEq, Nat.reduceDiv, Nat.reduceMod, Int.reduceToNat, Int.reduceLT, Int.reduceLE, Int.reduceAdd, Int.reduceSub, Int.reduceMul, Int.reduceEq, Int.reduceNeg, reduceCtorEq, resV, resAll, ARes.ev, LV.flat, ite_true, ite_false, exists_eq_left', exists_eq_left, keyOf, implies_true, fillC, capOf]
  by_cases hH : HeapOK x y z cs
  rotate_left
  · simp (disch := omega) only [hH, splice, ↓SXd, SXu, slBounds, ↓sop, ↓aop, ↓reduceIte, LV.cells, AOp.dst, LV.I, LV.B, LV.U, LV.S, LV.nil, Nat.reduceEqDiff, Nat.reduceAdd, Nat.reduceMul, Nat.reduceSub, Nat.reduceLeDiff, Nat.reduceBEq, Nat.reduceDiv, Nat.reduceMod, Int.reduceToNat, Int.reduceLT, Int.reduceLE, Int.reduceAdd, Int.reduceSub, Int.reduceMul, Int.reduceEq, Int.reduceNeg, reduceCtorEq, resV, resAll, ARes.ev, LV.flat, ite_true, ite_false, exists_eq_left', exists_eq_left, keyOf, implies_true, fillC, capOf]
    exact heapX_no (if_neg fun e => hH e.1) rfl (Pre.app _ _)
  simp (disch := omega) only [hH, ↓SXd, SXu, slBounds, ↓sop, ↓aop, ↓reduceIte, LV.cells, AOp.dst, LV.I, LV.B, LV.U, LV.S, LV.nil, Nat.reduceEqDiff, Nat.reduceAdd, Nat.reduceMul, Nat.reduceSub, Nat.reduceLeDiff, Nat.reduceBEq, Nat.reduceDiv, Nat.reduceMod, Int.reduceToNat, Int.reduceLT, Int.reduceLE, Int.reduceAdd, Int.reduceSub, Int.reduceMul, Int.reduceEq, Int.reduceNeg, reduceCtorEq, resV, resAll, ARes.ev, LV.flat, ite_true, ite_false, exists_eq_left', exists_eq_left, keyOf, implies_true, fillC, capOf]
  refine callK_of (h_l1In) ?_
  simp (disch := omega) only [↓SXd, SXu, slBounds, ↓sop, ↓aop, ↓reduceIte, LV.cells, AOp.dst, LV.I, LV.B, LV.U, LV.S, LV.nil, Nat.reduceEqDiff, Nat.reduceAdd, Nat.reduceMul, Nat.reduceSub, Nat.reduceLeDiff, Nat.reduceBEq, Nat.reduceDiv, Nat.reduceMod, Int.reduceToNat, Int.reduceLT, Int.reduceLE, Int.reduceAdd, Int.reduceSub, Int.reduceMul, Int.reduceEq, Int.reduceNeg, reduceCtorEq, resV, resAll, ARes.ev, LV.flat, ite_true, ite_false, exists_eq_left', exists_eq_left, keyOf, implies_true, fillC, capOf]
  by_cases hd : 0 ≤ d ∧ d ≤ 2
  rotate_left
  · simp (disch := omega) only [hd, splice, ↓SXd, SXu, slBounds, ↓sop, ↓aop, ↓reduceIte, LV.cells, AOp.dst, LV.I, LV.B, LV.U, LV.S, LV.nil, Nat.reduceEqDiff, Nat.reduceAdd, Nat.reduceMul, Nat.reduceSub, Nat.reduceLeDiff, Nat.reduceBEq, Nat.reduceDiv, Nat.reduceMod, Int.reduceToNat, Int.reduceLT, Int.reduceLE, Int.reduceAdd, Int.reduceSub, Int.reduceMul, Int.reduceEq, Int.reduceNeg, reduceCtorEq, resV, resAll, ARes.ev, LV.flat, ite_true, ite_false, exists_eq_left', exists_eq_left, keyOf, implies_true, fillC, capOf]
    exact heapX_no (if_neg fun e => hd (dir_in.1 e.2)) rfl (Pre.app _ _)
  simp (disch := omega) only [hd, ↓SXd, SXu, slBounds, ↓sop, ↓aop, ↓reduceIte, LV.cells, AOp.dst, LV.I, LV.B, LV.U, LV.S, LV.nil, Nat.reduceEqDiff, Nat.reduceAdd, Nat.reduceMul, Nat.reduceSub, Nat.reduceLeDiff, Nat.reduceBEq, Nat.reduceDiv, Nat.reduceMod, Int.reduceToNat, Int.reduceLT, Int.reduceLE, Int.reduceAdd, Int.reduceSub, Int.reduceMul, Int.reduceEq, Int.reduceNeg, reduceCtorEq, resV, resAll, ARes.ev, LV.flat, ite_true, ite_false, exists_eq_left', exists_eq_left, keyOf, implies_true, fillC, capOf]
  have hD := dir_in.2 hd
  refine callR_of (h_l2MirrorD hD h.app hH) ?_
  rintro _ N ⟨⟨u, rfl, hu, hul⟩, hp⟩
  rw [List.length_append] at hul
  simp only [List.length_cons, List.length_nil] at hul
  simp (disch := omega) only [↓SXd, SXu, slBounds, ↓sop, ↓aop, ↓reduceIte, LV.cells, AOp.dst, LV.I, LV.B, LV.U, LV.S, LV.nil, Nat.reduceEqDiff, Nat.reduceAdd, Nat.reduceMul, Nat.reduceSub, Nat.reduceLeDiff, Nat.reduceBEq, Nat.reduceDiv, Nat.reduceMod, Int.reduceToNat, Int.reduceLT, Int.reduceLE, Int.reduceAdd, Int.reduceSub, Int.reduceMul, Int.reduceEq, Int.reduceNeg, reduceCtorEq, resV, resAll, ARes.ev, LV.flat, ite_true, ite_false, exists_eq_left', exists_eq_left, keyOf, implies_true, fillC, capOf]
  refine heapX_box (g := ⟨x, y, z, mirD x y z d cs⟩) ((Live.newj (j := 1) rfl).pre hp) rfl hu (by omega) (by omega) ((Pre.app _ _).trans hp) fun N' e1 e2 e3 => ?_
  simp (disch := omega) only [e1.cells, ↓SXd, SXu, slBounds, ↓sop, ↓aop, ↓reduceIte, LV.cells, AOp.dst, LV.I, LV.B, LV.U, LV.S, LV.nil, Nat.reduceEqDiff, Nat.reduceAdd, Nat.reduceMul, Nat.reduceSub, Nat.reduceLeDiff, Nat.reduceBEq, Nat.reduceDiv, Nat.reduceMod, Int.reduceToNat, Int.reduceLT, Int.reduceLE, Int.reduceAdd, Int.reduceSub, Int.reduceMul, Int.reduceEq, Int.reduceNeg, reduceCtorEq, resV, resAll, ARes.ev, LV.flat, ite_true, ite_false, exists_eq_left', exists_eq_left, keyOf, implies_true, fillC, capOf]
  exact heapX_yes (if_pos ⟨hH, hD⟩) e2 e3
theorem h_sOtherCells : CallsR PG F.spec_OtherCells [.agg [.I x, .I y, .I z, .ref t 0 cs.length]] M (HeapX M (othOf x y z cs)) := by
  refine heapX_of ((h_OtherCells h.has hn).mono ?_)
  rintro v N ⟨h1, h2, hp⟩
  by_cases hH : HeapOK x y z cs
  · exact heapX_yes (g := ⟨x, y, z, pick x y z (freeP cs)⟩) (if_pos hH) (h1 hH) hp
  · exact heapX_no (if_neg hH) (h2 hH) hp
theorem h_sCropHeap : CallsR PG F.spec_CropHeap [.agg [.I x, .I y, .I z, .ref t 0 cs.length]] M (HeapX M (crOf x y z cs)) := by
  refine heapX_of ?_
  refine callsR_run K.spec_CropHeap rfl ?_
  simp (disch := omega) only [C.spec_CropHeap, ↓SXd, SXu, slBounds, ↓sop, ↓aop, ↓reduceIte, LV.cells, AOp.dst, LV.I, LV.B, LV.U, LV.S, LV.nil, Nat.reduceEqDiff, Nat.reduceAdd, Nat.reduceMul, Nat.reduceSub, Nat.reduceLeDiff, Nat.reduceBEq, Nat.reduceDiv, Nat.reduceMod, Int.reduceToNat, Int.reduceLT, Int.reduceLE, Int.reduceAdd, Int.reduceSub, Int.reduceMul, Int.reduceEq, Int.reduceNeg, reduceCtorEq, resV, resAll, ARes.ev, LV.flat, ite_true, ite_false, exists_eq_left', exists_eq_left, keyOf, implies_true, fillC, capOf]
  refine callK_of (h_l2Heap (Has.app h.has) hn) ?_
  simp (disch := omega) only [↓SXd, SXu, slBounds, ↓sop, ↓aop, ↓reduceIte, LV.cells, AOp.dst, LV.I, LV.B, LV.U, LV.S, LV.nil, Nat.reduceEqDiff, Nat.reduceAdd, Nat.reduceMul, Nat.reduceSub, Nat.reduceLeDiff, Nat.reduceBEq, Nat.reduceDiv, Nat.reduceMod, Int.reduceToNat, Int.reduceLT, Int.reduceLE, Int.reduceAdd, Int.reduceSub, Int.reduceMul, Int.reduceEq, Int.reduceNeg, reduceCtorEq, resV, resAll, ARes.ev, LV.flat, ite_true, ite_false, exists_eq_left', exists_eq_left, keyOf, implies_true, fillC, capOf]
  by_cases hH : HeapOK x y z cs
  rotate_left
  · simp (disch := omega) only [hH, splice, ↓SXd, SXu, slBounds, ↓sop, ↓aop, ↓reduceIte, LV.cells, AOp.dst, LV.I, LV.B, LV.U, LV.S, LV.nil, Nat.reduceEqDiff, Nat.reduceAdd, Nat.reduceMul, Nat.reduceSub, Nat.reduceLeDiff, Nat.reduceBEq, Nat.reduceDiv, Nat.reduceMod, Int.reduceToNat, Int.reduceLT, Int.reduceLE, Int.reduceAdd, Int.reduceSub, Int.reduceMul, Int.reduceEq, Int.reduceNeg, reduceCtorEq, resV, resAll, ARes.ev, LV.flat, ite_true, ite_false, exists_eq_left', exists_eq_left, keyOf, implies_true, fillC, capOf]
    exact heapX_no (if_neg fun e => hH e.1) rfl (Pre.app _ _)
  by_cases h0 : ((cs.length : Nat) : Int) = 0
  · simp (disch := omega) only [hH, h0, splice, ↓SXd, SXu, slBounds, ↓sop, ↓aop, ↓reduceIte, LV.cells, AOp.dst, LV.I, LV.B, LV.U, LV.S, LV.nil, Nat.reduceEqDiff, Nat.reduceAdd, Nat.reduceMul, Nat.reduceSub, Nat.reduceLeDiff, Nat.reduceBEq, Nat.reduceDiv, Nat.reduceMod, Int.reduceToNat, Int.reduceLT, Int.reduceLE, Int.reduceAdd, Int.reduceSub, Int.reduceMul, Int.reduceEq, Int.reduceNeg, reduceCtorEq, resV, resAll, ARes.ev, LV.flat, ite_true, ite_false, exists_eq_left', exists_eq_left, keyOf, implies_true, fillC, capOf]
    exact heapX_no (if_neg fun e => by have := e.2; omega) rfl (Pre.app _ _)
  simp (disch := omega) only [hH, h0, ↓SXd, SXu, slBounds, ↓sop, ↓aop, ↓reduceIte, LV.cells, AOp.dst, LV.I, LV.B, LV.U, LV.S, LV.nil, Nat.reduceEqDiff, Nat.reduceAdd, Nat.reduceMul, Nat.reduceSub, Nat.reduceLeDiff, Nat.reduceBEq, Nat.reduceDiv, Nat.reduceMod, Int.reduceToNat, Int.reduceLT, Int.reduceLE, Int.reduceAdd, Int.reduceSub, Int.reduceMul, Int.reduceEq, Int.reduceNeg, reduceCtorEq, resV, resAll, ARes.ev, LV.flat, ite_true, ite_false, exists_eq_left', exists_eq_left, keyOf, implies_true, fillC, capOf]
  have hlen := hH.len
  refine callH_of (h_l2Cropped h.has.app (by omega) (by omega) (cells_small hH)) ?_
  intro u N hu hp hb
  simp only [List.length_append, List.length_cons, List.length_nil] at hu
  simp (disch := omega) only [↓SXd, SXu, slBounds, ↓sop, ↓aop, ↓reduceIte, LV.cells, AOp.dst, LV.I, LV.B, LV.U, LV.S, LV.nil, Nat.reduceEqDiff, Nat.reduceAdd, Nat.reduceMul, Nat.reduceSub, Nat.reduceLeDiff, Nat.reduceBEq, Nat.reduceDiv, Nat.reduceMod, Int.reduceToNat, Int.reduceLT, Int.reduceLE, Int.reduceAdd, Int.reduceSub, Int.reduceMul, Int.reduceEq, Int.reduceNeg, reduceCtorEq, resV, resAll, ARes.ev, LV.flat, ite_true, ite_false, exists_eq_left', exists_eq_left, keyOf, implies_true, fillC, capOf]
  refine heapX_box (g := cropHp cs) ((Live.newj (j := 1) rfl).pre hp) rfl hb (by omega) (by omega) ((Pre.app _ _).trans hp) fun N' e1 e2 e3 => ?_
  simp (disch := omega) only [e1.cells, ↓SXd, SXu, slBounds, ↓sop, ↓aop, ↓reduceIte, LV.cells, AOp.dst, LV.I, LV.B, LV.U, LV.S, LV.nil, Nat.reduceEqDiff, Nat.reduceAdd, Nat.reduceMul, Nat.reduceSub, Nat.reduceLeDiff, Nat.reduceBEq, Nat.reduceDiv, Nat.reduceMod, Int.reduceToNat, Int.reduceLT, Int.reduceLE, Int.reduceAdd, Int.reduceSub, Int.reduceMul, Int.reduceEq, Int.reduceNeg, reduceCtorEq, resV, resAll, ARes.ev, LV.flat, ite_true, ite_false, exists_eq_left', exists_eq_left, keyOf, implies_true, fillC, capOf]
  exact heapX_yes (if_pos ⟨hH, by omega⟩) e2 e3
theorem h_l2Kept : CallsR PG F.spec_l2Kept [.agg [.I x, .I y, .I z, .ref t 0 cs.length]] M fun v N => (HeapOK x y z cs → v = .tup [.agg [.I x, .I y, .I z, .ref t 0 cs.length], .B true]) ∧ (¬ HeapOK x y z cs → v = .tup [.agg [.I 0, .I 0, .I 0, .nil], .B false]) ∧ Pre M N := by
  refine callsR_run K.spec_l2Kept rfl ?_
  simp (disch := omega) only [C.spec_l2Kept, ↓SXd, SXu, slBounds, ↓sop, ↓aop, ↓reduceIte, LV.cells, AOp.dst, LV.I, LV.B, LV.U, LV.S, LV.nil, Nat.reduceEqDiff, Nat.reduceAdd, Nat.reduceMul, Nat.reduceSub, Nat.reduceLeDiff, Nat.reduceBEq, Nat.reduceDiv, Nat.reduceMod, Int.reduceToNat, Int.reduceLT, Int.reduceLE, Int.reduceAdd, Int.reduceSub, Int.reduceMul, Int.reduceEq, Int.reduceNeg, reduceCtorEq, resV, resAll, ARes.ev, LV.flat, ite_true, ite_false, exists_eq_left', exists_eq_left, keyOf, implies_true, fillC, capOf]
  refine callK_of (h_l2Heap (Has.app h.has) hn) ?_
  simp (disch := omega) only [↓SXd, SXu, slBounds, ↓sop, ↓aop, ↓reduceIte, LV.cells, AOp.dst, LV.I, LV.B, LV.U, LV.S, LV.nil, Nat.reduceEqDiff, Nat.reduceAdd, Nat.reduceMul, Nat.reduceSub, Nat.reduceLeDiff, Nat.reduceBEq, Nat.reduceDiv, Nat.reduceMod, Int.reduceToNat, Int.reduceLT, Int.reduceLE, Int.reduceAdd, Int.reduceSub, Int.reduceMul, Int.reduceEq, Int.reduceNeg, reduceCtorEq, resV, resAll, ARes.ev, LV.flat, ite_true, ite_false, exists_eq_left', exists_eq_left, keyOf, implies_true, fillC, capOf]
  by_cases hH : HeapOK x y z cs
  · simp (disch := omega) only [hH, splice, ↓SXd, SXu, slBounds, ↓sop, ↓aop, ↓reduceIte, LV.cells, AOp.dst, LV.I, LV.B, LV.U, LV.S, LV.nil, Nat.reduceEqDiff, Nat.reduceAdd, Nat.reduceMul, Nat.reduceSub, Nat.reduceLeDiff, Nat.reduceBEq, Nat.reduceDiv, Nat.reduceMod, Int.reduceToNat, Int.reduceLT, Int.reduceLE, Int.reduceAdd, Int.reduceSub, Int.reduceMul, Int.reduceEq, Int.reduceNeg, reduceCtorEq, resV, resAll, ARes.ev, LV.flat, ite_true, ite_false, exists_eq_left', exists_eq_left, keyOf, implies_true, fillC, capOf]
    exact ⟨fun _ => rfl, fun e => (e trivial).elim, Pre.app _ _⟩
  · simp (disch := omega) only [hH, splice, ↓SXd, SXu, slBounds, ↓sop, ↓aop, ↓reduceIte, LV.cells, AOp.dst, LV.I, LV.B, LV.U, LV.S, LV.nil, Nat.reduceEqDiff, Nat.reduceAdd, Nat.reduceMul, Nat.reduceSub, Nat.reduceLeDiff, Nat.reduceBEq, Nat.reduceDiv, Nat.reduceMod, Int.reduceToNat, Int.reduceLT, Int.reduceLE, Int.reduceAdd, Int.reduceSub, Int.reduceMul, Int.reduceEq, Int.reduceNeg, reduceCtorEq, resV, resAll, ARes.ev, LV.flat, ite_true, ite_false, exists_eq_left', exists_eq_left, keyOf, implies_true, fillC, capOf]
    exact ⟨fun e => e.elim, fun _ => rfl, Pre.app _ _⟩
theorem h_sWidenHeap {X Y Z : Int} : CallsR PG F.spec_WidenHeap [.agg [.I x, .I y, .I z, .ref t 0 cs.length], .I X, .I Y, .I Z] M (HeapX M (wdOf x y z cs X Y Z)) := by
  have ht := h.lt
  refine heapX_of ?_
  refine callsR_run K.spec_WidenHeap rfl ?_
  simp (disch := omega) only [C.spec_WidenHeap, ↓SXd, SXu, slBounds, ↓sop, ↓aop, ↓reduceIte, LV.cells, AOp.dst, LV.I, LV.B, LV.U, LV.S, LV.nil, Nat.reduceEqDiff, Nat.reduceAdd, Nat.reduceMul, Nat.reduceSub, Nat.reduceLeDiff, Nat.reduceBEq, Nat.reduceDiv, Nat.reduceMod, Int.reduceToNat, Int.reduceLT, Int.reduceLE, Int.reduceAdd, Int.reduceSub, Int.reduceMul, Int.reduceEq, Int.reduceNeg, reduceCtorEq, resV, resAll, ARes.ev, LV.flat, ite_true, ite_false, exists_eq_left', exists_eq_left, keyOf, implies_true, fillC, capOf]
  refine callK_of (h_l2Heap (Has.app h.has) hn) ?_
  simp (disch := omega) only [↓SXd, SXu, slBounds, ↓sop, ↓aop, ↓reduceIte, LV.cells, AOp.dst, LV.I, LV.B, LV.U, LV.S, LV.nil, Nat.reduceEqDiff, Nat.reduceAdd, Nat.reduceMul, Nat.reduceSub, Nat.reduceLeDiff, Nat.reduceBEq, Nat.reduceDiv, Nat.reduceMod, Int.reduceToNat, Int.reduceLT, Int.reduceLE, Int.reduceAdd, Int.reduceSub, Int.reduceMul, Int.reduceEq, Int.reduceNeg, reduceCtorEq, resV, resAll, ARes.ev, LV.flat, ite_true, ite_false, exists_eq_left', exists_eq_left, keyOf, implies_true, fillC, capOf]
  by_cases hH : HeapOK x y z cs
  rotate_left
  · simp (disch := omega) only [hH, splice, ↓SXd, SXu, slBounds, ↓sop, ↓aop, ↓reduceIte, LV.cells, AOp.dst, LV.I, LV.B, LV.U, LV.S, LV.nil, Nat.reduceEqDiff, Nat.reduceAdd, Nat.reduceMul, Nat.reduceSub, Nat.reduceLeDiff, Nat.reduceBEq, Nat.reduceDiv, Nat.reduceMod, Int.reduceToNat, Int.reduceLT, Int.reduceLE, Int.reduceAdd, Int.reduceSub, Int.reduceMul, Int.reduceEq, Int.reduceNeg, reduceCtorEq, resV, resAll, ARes.ev, LV.flat, ite_true, ite_false, exists_eq_left', exists_eq_left, keyOf, implies_true, fillC, capOf]
    exact heapX_no (if_neg fun e => hH e.1) rfl (Pre.app _ _)
  simp (disch := omega) only [hH, ↓SXd, SXu, slBounds, ↓sop, ↓aop, ↓reduceIte, LV.cells, AOp.dst, LV.I, LV.B, LV.U, LV.S, LV.nil, Nat.reduceEqDiff, Nat.reduceAdd, Nat.reduceMul, Nat.reduceSub, Nat.reduceLeDiff, Nat.reduceBEq, Nat.reduceDiv, Nat.reduceMod, Int.reduceToNat, Int.reduceLT, Int.reduceLE, Int.reduceAdd, Int.reduceSub, Int.reduceMul, Int.reduceEq, Int.reduceNeg, reduceCtorEq, resV, resAll, ARes.ev, LV.flat, ite_true, ite_false, exists_eq_left', exists_eq_left, keyOf, implies_true, fillC, capOf]
  refine callK_of (h_l2Sides) ?_
  simp (disch := omega) only [↓SXd, SXu, slBounds, ↓sop, ↓aop, ↓reduceIte, LV.cells, AOp.dst, LV.I, LV.B, LV.U, LV.S, LV.nil, Nat.reduceEqDiff, Nat.reduceAdd, Nat.reduceMul, Nat.reduceSub, Nat.reduceLeDiff, Nat.reduceBEq, Nat.reduceDiv, Nat.reduceMod, Int.reduceToNat, Int.reduceLT, Int.reduceLE, Int.reduceAdd, Int.reduceSub, Int.reduceMul, Int.reduceEq, Int.reduceNeg, reduceCtorEq, resV, resAll, ARes.ev, LV.flat, ite_true, ite_false, exists_eq_left', exists_eq_left, keyOf, implies_true, fillC, capOf]
  by_cases hS : Sides X Y Z
  rotate_left
  · simp (disch := omega) only [hS, splice, ↓SXd, SXu, slBounds, ↓sop, ↓aop, ↓reduceIte, LV.cells, AOp.dst, LV.I, LV.B, LV.U, LV.S, LV.nil, Nat.reduceEqDiff, Nat.reduceAdd, Nat.reduceMul, Nat.reduceSub, Nat.reduceLeDiff, Nat.reduceBEq, Nat.reduceDiv, Nat.reduceMod, Int.reduceToNat, Int.reduceLT, Int.reduceLE, Int.reduceAdd, Int.reduceSub, Int.reduceMul, Int.reduceEq, Int.reduceNeg, reduceCtorEq, resV, resAll, ARes.ev, LV.flat, ite_true, ite_false, exists_eq_left', exists_eq_left, keyOf, implies_true, fillC, capOf]
    exact heapX_no (if_neg fun e => hS e.2.1) rfl (Pre.app _ _)
  simp (disch := omega) only [hS, ↓SXd, SXu, slBounds, ↓sop, ↓aop, ↓reduceIte, LV.cells, AOp.dst, LV.I, LV.B, LV.U, LV.S, LV.nil, Nat.reduceEqDiff, Nat.reduceAdd, Nat.reduceMul, Nat.reduceSub, Nat.reduceLeDiff, Nat.reduceBEq, Nat.reduceDiv, Nat.reduceMod, Int.reduceToNat, Int.reduceLT, Int.reduceLE, Int.reduceAdd, Int.reduceSub, Int.reduceMul, Int.reduceEq, Int.reduceNeg, reduceCtorEq, resV, resAll, ARes.ev, LV.flat, ite_true, ite_false, exists_eq_left', exists_eq_left, keyOf, implies_true, fillC, capOf]
  refine callK_of (h_l2Empty) ?_
  simp (disch := omega) only [splice, ↓SXd, SXu, slBounds, ↓sop, ↓aop, ↓reduceIte, LV.cells, AOp.dst, LV.I, LV.B, LV.U, LV.S, LV.nil, Nat.reduceEqDiff, Nat.reduceAdd, Nat.reduceMul, Nat.reduceSub, Nat.reduceLeDiff, Nat.reduceBEq, Nat.reduceDiv, Nat.reduceMod, Int.reduceToNat, Int.reduceLT, Int.reduceLE, Int.reduceAdd, Int.reduceSub, Int.reduceMul, Int.reduceEq, Int.reduceNeg, reduceCtorEq, resV, resAll, ARes.ev, LV.flat, ite_true, ite_false, exists_eq_left', exists_eq_left, keyOf, implies_true, fillC, capOf]
  refine appendK_list (acc := []) (new := triL cs) (n := 0) (n2 := cs.length) (Live.newj (j := 2) rfl) rfl (Has.app h.has) (by rw [triL_len]) (by omega) (by omega) fun u N1 hN1 hu hu2 hk => ?_
  rw [List.nil_append] at hu
  rw [Nat.zero_add]
  simp only [List.length_append, List.length_cons, List.length_nil] at hN1 hu2 hk
  have c5 : Live N1 (M.length + 1) (.row [.I 0, .I 0, .I 0, .nil] true 0) := by
    unfold Live
    rw [hk _ (by omega) (by omega)]
    exact Live.newj (j := 1) rfl
  have c10 : Live N1 (M.length + 3) (.row [.I X, .I Y, .I Z, .ref (M.length + 2) 0 0] true 0) := by
    unfold Live
    rw [hk _ (by omega) (by omega)]
    exact Live.newj (j := 3) rfl
  have hul := hu.lt
  have hP : Pre M N1 := ⟨by omega, fun q hq => by rw [hk q (by omega) (by omega)]; exact List.getElem?_append_left hq⟩
  simp (disch := omega) only [↓SXd, SXu, slBounds, ↓sop, ↓aop, ↓reduceIte, LV.cells, AOp.dst, LV.I, LV.B, LV.U, LV.S, LV.nil, Nat.reduceEqDiff, Nat.reduceAdd, Nat.reduceMul, Nat.reduceSub, Nat.reduceLeDiff, Nat.reduceBEq, Nat.reduceDiv, Nat.reduceMod, Int.reduceToNat, Int.reduceLT, Int.reduceLE, Int.reduceAdd, Int.reduceSub, Int.reduceMul, Int.reduceEq, Int.reduceNeg, reduceCtorEq, resV, resAll, ARes.ev, LV.flat, ite_true, ite_false, exists_eq_left', exists_eq_left, keyOf, implies_true, fillC, capOf]
  refine memK_at c10 (show 3 < 4 by omega) fun N2 k1 k2 k3 => ?_
  have d5 := live_step c5 (by omega) k3
  have du : Live N2 u (.row (triL cs) true 3) := live_step hu (by omega) k3
  have hP2 : Pre M N2 := pre_step hP (by omega) (j := 0) k1 k3
  simp (disch := omega) only [k2.cells, ↓SXd, SXu, slBounds, ↓sop, ↓aop, ↓reduceIte, LV.cells, AOp.dst, LV.I, LV.B, LV.U, LV.S, LV.nil, Nat.reduceEqDiff, Nat.reduceAdd, Nat.reduceMul, Nat.reduceSub, Nat.reduceLeDiff, Nat.reduceBEq, Nat.reduceDiv, Nat.reduceMod, Int.reduceToNat, Int.reduceLT, Int.reduceLE, Int.reduceAdd, Int.reduceSub, Int.reduceMul, Int.reduceEq, Int.reduceNeg, reduceCtorEq, resV, resAll, ARes.ev, LV.flat, ite_true, ite_false, exists_eq_left', exists_eq_left, keyOf, implies_true, fillC, capOf]
  refine callR_of (h_l2Kept (x := X) (y := Y) (z := Z) du hn) ?_
  rintro v N3 ⟨e1, e2, hp3⟩
  by_cases hW : HeapOK X Y Z cs
  · rw [e1 hW]
    simp (disch := omega) only [↓SXd, SXu, slBounds, ↓sop, ↓aop, ↓reduceIte, LV.cells, AOp.dst, LV.I, LV.B, LV.U, LV.S, LV.nil, Nat.reduceEqDiff, Nat.reduceAdd, Nat.reduceMul, Nat.reduceSub, Nat.reduceLeDiff, Nat.reduceBEq, Nat.reduceDiv, Nat.reduceMod, Int.reduceToNat, Int.reduceLT, Int.reduceLE, Int.reduceAdd, Int.reduceSub, Int.reduceMul, Int.reduceEq, Int.reduceNeg, reduceCtorEq, resV, resAll, ARes.ev, LV.flat, ite_true, ite_false, exists_eq_left', exists_eq_left, keyOf, implies_true, fillC, capOf]
    refine heapX_box (g := ⟨X, Y, Z, cs⟩) (d5.pre hp3) rfl (du.pre hp3) (by omega) (by omega) (hP2.trans hp3) fun N' e1 e2 e3 => ?_
    simp (disch := omega) only [e1.cells, ↓SXd, SXu, slBounds, ↓sop, ↓aop, ↓reduceIte, LV.cells, AOp.dst, LV.I, LV.B, LV.U, LV.S, LV.nil, Nat.reduceEqDiff, Nat.reduceAdd, Nat.reduceMul, Nat.reduceSub, Nat.reduceLeDiff, Nat.reduceBEq, Nat.reduceDiv, Nat.reduceMod, Int.reduceToNat, Int.reduceLT, Int.reduceLE, Int.reduceAdd, Int.reduceSub, Int.reduceMul, Int.reduceEq, Int.reduceNeg, reduceCtorEq, resV, resAll, ARes.ev, LV.flat, ite_true, ite_false, exists_eq_left', exists_eq_left, keyOf, implies_true, fillC, capOf]
    exact heapX_yes (if_pos ⟨hH, hW⟩) e2 e3
  · rw [e2 hW]
    simp (disch := omega) only [↓SXd, SXu, slBounds, ↓sop, ↓aop, ↓reduceIte, LV.cells, AOp.dst, LV.I, LV.B, LV.U, LV.S, LV.nil, Nat.reduceEqDiff, Nat.reduceAdd, Nat.reduceMul, Nat.reduceSub, Nat.reduceLeDiff, Nat.reduceBEq, Nat.reduceDiv, Nat.reduceMod, Int.reduceToNat, Int.reduceLT, Int.reduceLE, Int.reduceAdd, Int.reduceSub, Int.reduceMul, Int.reduceEq, Int.reduceNeg, reduceCtorEq, resV, resAll, ARes.ev, LV.flat, ite_true, ite_false, exists_eq_left', exists_eq_left, keyOf, implies_true, fillC, capOf]
    refine memK_box (d5.pre hp3) (by simp) fun N4 r1 r2 r3 => ?_
    simp (disch := omega) only [r2.cells, ↓SXd, SXu, slBounds, ↓sop, ↓aop, ↓reduceIte, LV.cells, AOp.dst, LV.I, LV.B, LV.U, LV.S, LV.nil, Nat.reduceEqDiff, Nat.reduceAdd, Nat.reduceMul, Nat.reduceSub, Nat.reduceLeDiff, Nat.reduceBEq, Nat.reduceDiv, Nat.reduceMod, Int.reduceToNat, Int.reduceLT, Int.reduceLE, Int.reduceAdd, Int.reduceSub, Int.reduceMul, Int.reduceEq, Int.reduceNeg, reduceCtorEq, resV, resAll, ARes.ev, LV.flat, ite_true, ite_false, exists_eq_left', exists_eq_left, keyOf, implies_true, fillC, capOf]
    exact heapX_no (if_neg fun e => hW e.2) rfl (pre_step (hP2.trans hp3) (by omega) (j := 0) r1 r3)
theorem h_sShiftHeap {p : Cell} : CallsR PG F.spec_ShiftHeap [.agg [.I x, .I y, .I z, .ref t 0 cs.length], .agg [.I p.a, .I p.b, .I p.c]] M (HeapX M (shOf x y z cs p)) := by
  have ht := h.lt
  refine heapX_of ?_
  refine callsR_run K.spec_ShiftHeap rfl ?_
  simp (disch := omega) only [C.spec_ShiftHeap, ↓SXd, SXu, slBounds, ↓sop, ↓aop, ↓reduceIte, LV.cells, AOp.dst, LV.I, LV.B, LV.U, LV.S, LV.nil, Nat.reduceEqDiff, Nat.reduceAdd, Nat.reduceMul, Nat.reduceSub, Nat.reduceLeDiff, Nat.reduceBEq, Nat.reduceDiv, Nat.reduceMod, Int.reduceToNat, Int.reduceLT, Int.reduceLE, Int.reduceAdd, Int.reduceSub, Int.reduceMul, Int.reduceEq, Int.reduceNeg, reduceCtorEq, resV, resAll, ARes.ev, LV.flat, ite_true, ite_false, exists_eq_left', exists_eq_left, keyOf, implies_true, fillC, capOf]
  refine ev_loop (fun m fr M' => ∃ d : Nat, d + m = 3 ∧ M' = M ++ [some (.row [.I x, .I y, .I z, .ref t 0 cs.length] true 0), some (.row [.I p.a, .I p.b, .I p.c] true 0), some (.row [.I 0, .I 0, .I 0, .nil] true 0)] ∧ fr 2 = .ptr M.length 0 ∧ fr 3 = .ptr (M.length + 1) 0 ∧ fr 4 = .ptr (M.length + 2) 0 ∧ fr 6 = .I d ∧ ∀ j : Nat, j < d → -4 ≤ p.at j ∧ p.at j ≤ 4) 3
    ⟨0, rfl, rfl, rfl, rfl, rfl, rfl, by omega⟩ ?_
  rintro m fr M' ⟨d, hd, rfl, f2, f3, f4, f6, hj⟩
  simp (disch := omega) only [f2, f3, f4, f6, ↓SXd, SXu, slBounds, ↓sop, ↓aop, ↓reduceIte, LV.cells, AOp.dst, LV.I, LV.B, LV.U, LV.S, LV.nil, Nat.reduceEqDiff, Nat.reduceAdd, Nat.reduceMul, Nat.reduceSub, Nat.reduceLeDiff, Nat.reduceBEq, Nat.reduceDiv, Nat.reduceMod, Int.reduceToNat, Int.reduceLT, Int.reduceLE, Int.reduceAdd, Int.reduceSub, Int.reduceMul, Int.reduceEq, Int.reduceNeg, reduceCtorEq, resV, resAll, ARes.ev, LV.flat, ite_true, ite_false, exists_eq_left', exists_eq_left, keyOf, implies_true, fillC, capOf]
  refine condC_dec (fun hlt => ?_) (fun hlt => ?_)
  · have hd3 : d < 3 := by omega
    have e3 : [LV.I p.a, .I p.b, .I p.c][d]? = some (.I (p.at d)) := Cell.row_at hd3
    simp (disch := omega) only [f2, f3, f4, f6, e3, Nat.mul_one, Nat.zero_add, ↓SXd, SXu, slBounds, ↓sop, ↓aop, ↓reduceIte, LV.cells, AOp.dst, LV.I, LV.B, LV.U, LV.S, LV.nil, Nat.reduceEqDiff, Nat.reduceAdd, Nat.reduceMul, Nat.reduceSub, Nat.reduceLeDiff, Nat.reduceBEq, Nat.reduceDiv, Nat.reduceMod, Int.reduceToNat, Int.reduceLT, Int.reduceLE, Int.reduceAdd, Int.reduceSub, Int.reduceMul, Int.reduceEq, Int.reduceNeg, reduceCtorEq, resV, resAll, ARes.ev, LV.flat, ite_true, ite_false, exists_eq_left', exists_eq_left, keyOf, implies_true, fillC, capOf]
    refine callK_of (h_l1In) ?_
    simp (disch := omega) only [f2, f3, f4, f6, ↓SXd, SXu, slBounds, ↓sop, ↓aop, ↓reduceIte, LV.cells, AOp.dst, LV.I, LV.B, LV.U, LV.S, LV.nil, Nat.reduceEqDiff, Nat.reduceAdd, Nat.reduceMul, Nat.reduceSub, Nat.reduceLeDiff, Nat.reduceBEq, Nat.reduceDiv, Nat.reduceMod, Int.reduceToNat, Int.reduceLT, Int.reduceLE, Int.reduceAdd, Int.reduceSub, Int.reduceMul, Int.reduceEq, Int.reduceNeg, reduceCtorEq, resV, resAll, ARes.ev, LV.flat, ite_true, ite_false, exists_eq_left', exists_eq_left, keyOf, implies_true, fillC, capOf]
    by_cases hp : -4 ≤ p.at d ∧ p.at d ≤ 4
    · simp (disch := omega) only [f2, f3, f4, f6, hp, ↓SXd, SXu, slBounds, ↓sop, ↓aop, ↓reduceIte, LV.cells, AOp.dst, LV.I, LV.B, LV.U, LV.S, LV.nil, Nat.reduceEqDiff, Nat.reduceAdd, Nat.reduceMul, Nat.reduceSub, Nat.reduceLeDiff, Nat.reduceBEq, Nat.reduceDiv, Nat.reduceMod, Int.reduceToNat, Int.reduceLT, Int.reduceLE, Int.reduceAdd, Int.reduceSub, Int.reduceMul, Int.reduceEq, Int.reduceNeg, reduceCtorEq, resV, resAll, ARes.ev, LV.flat, ite_true, ite_false, exists_eq_left', exists_eq_left, keyOf, implies_true, fillC, capOf]
      exact ⟨m - 1, by omega, d + 1, by omega, rfl, f2, f3, f4, eqI (natI _), fun j hj1 => by
        rcases Nat.lt_or_ge j d with h2 | h2
        · exact hj j h2
        · rw [show j = d by omega]; exact hp⟩
    · simp (disch := omega) only [f2, f3, f4, f6, hp, splice, ↓SXd, SXu, slBounds, ↓sop, ↓aop, ↓reduceIte, LV.cells, AOp.dst, LV.I, LV.B, LV.U, LV.S, LV.nil, Nat.reduceEqDiff, Nat.reduceAdd, Nat.reduceMul, Nat.reduceSub, Nat.reduceLeDiff, Nat.reduceBEq, Nat.reduceDiv, Nat.reduceMod, Int.reduceToNat, Int.reduceLT, Int.reduceLE, Int.reduceAdd, Int.reduceSub, Int.reduceMul, Int.reduceEq, Int.reduceNeg, reduceCtorEq, resV, resAll, ARes.ev, LV.flat, ite_true, ite_false, exists_eq_left', exists_eq_left, keyOf, implies_true, fillC, capOf]
      refine heapX_no (if_neg fun e => hp ?_) rfl (Pre.app _ _)
      obtain ⟨q1, q2, q3⟩ := e.2.1
      rcases (show d = 0 ∨ d = 1 ∨ d = 2 by omega) with rfl | rfl | rfl
      · exact q1
      · exact q2
      · exact q3
  · have hd3 : d = 3 := by omega
    subst hd3
    have hP4 : Near4 p := ⟨hj 0 (by omega), hj 1 (by omega), hj 2 (by omega)⟩
    simp (disch := omega) only [f2, f3, f4, f6, ↓SXd, SXu, slBounds, ↓sop, ↓aop, ↓reduceIte, LV.cells, AOp.dst, LV.I, LV.B, LV.U, LV.S, LV.nil, Nat.reduceEqDiff, Nat.reduceAdd, Nat.reduceMul, Nat.reduceSub, Nat.reduceLeDiff, Nat.reduceBEq, Nat.reduceDiv, Nat.reduceMod, Int.reduceToNat, Int.reduceLT, Int.reduceLE, Int.reduceAdd, Int.reduceSub, Int.reduceMul, Int.reduceEq, Int.reduceNeg, reduceCtorEq, resV, resAll, ARes.ev, LV.flat, ite_true, ite_false, exists_eq_left', exists_eq_left, keyOf, implies_true, fillC, capOf]
    refine callK_of (h_l2Heap (Has.app h.has) hn) ?_
    simp (disch := omega) only [f2, f3, f4, f6, ↓SXd, SXu, slBounds, ↓sop, ↓aop, ↓reduceIte, LV.cells, AOp.dst, LV.I, LV.B, LV.U, LV.S, LV.nil, Nat.reduceEqDiff, Nat.reduceAdd, Nat.reduceMul, Nat.reduceSub, Nat.reduceLeDiff, Nat.reduceBEq, Nat.reduceDiv, Nat.reduceMod, Int.reduceToNat, Int.reduceLT, Int.reduceLE, Int.reduceAdd, Int.reduceSub, Int.reduceMul, Int.reduceEq, Int.reduceNeg, reduceCtorEq, resV, resAll, ARes.ev, LV.flat, ite_true, ite_false, exists_eq_left', exists_eq_left, keyOf, implies_true, fillC, capOf]
    by_cases hH : HeapOK x y z cs
    rotate_left
    · simp (disch := omega) only [f2, f3, f4, f6, hH, splice, ↓SXd, SXu, slBounds, ↓sop, ↓aop, ↓reduceIte, LV.cells, AOp.dst, LV.I, LV.B, LV.U, LV.S, LV.nil, Nat.reduceEqDiff, Nat.reduceAdd, Nat.reduceMul, Nat.reduceSub, Nat.reduceLeDiff, Nat.reduceBEq, Nat.reduceDiv, Nat.reduceMod, Int.reduceToNat, Int.reduceLT, Int.reduceLE, Int.reduceAdd, Int.reduceSub, Int.reduceMul, Int.reduceEq, Int.reduceNeg, reduceCtorEq, resV, resAll, ARes.ev, LV.flat, ite_true, ite_false, exists_eq_left', exists_eq_left, keyOf, implies_true, fillC, capOf]
      exact heapX_no (if_neg fun e => hH e.1) rfl (Pre.app _ _)
    have hlen := hH.len
    simp (disch := omega) only [f2, f3, f4, f6, hH, ↓SXd, SXu, slBounds, ↓sop, ↓aop, ↓reduceIte, LV.cells, AOp.dst, LV.I, LV.B, LV.U, LV.S, LV.nil, Nat.reduceEqDiff, Nat.reduceAdd, Nat.reduceMul, Nat.reduceSub, Nat.reduceLeDiff, Nat.reduceBEq, Nat.reduceDiv, Nat.reduceMod, Int.reduceToNat, Int.reduceLT, Int.reduceLE, Int.reduceAdd, Int.reduceSub, Int.reduceMul, Int.reduceEq, Int.reduceNeg, reduceCtorEq, resV, resAll, ARes.ev, LV.flat, ite_true, ite_false, exists_eq_left', exists_eq_left, keyOf, implies_true, fillC, capOf]
    have hmv := h_l2Moved (x := x) (y := y) (z := z) (p := p) (cs := cs) (t := t) (o := 0) (M := M ++ [some (.row [.I x, .I y, .I z, .ref t 0 cs.length] true 0), some (.row [.I p.a, .I p.b, .I p.c] true 0), some (.row [.I 0, .I 0, .I 0, .nil] true 0)]) (Has.app h.has) (by omega) (by obtain ⟨⟨_, _⟩, ⟨_, _⟩, ⟨_, _⟩⟩ := hP4; unfold Small; omega) (cells_small hH)
    have hml : (cs.map (shift p)).length = cs.length := List.length_map ..
    have hif := show shOf x y z cs p = if HeapOK x y z (cs.map (shift p)) then some ⟨x, y, z, cs.map (shift p)⟩ else none from by
      unfold shOf
      by_cases e : HeapOK x y z (cs.map (shift p))
      · rw [if_pos ⟨hH, hP4, e⟩, if_pos e]
      · rw [if_neg (fun q => e q.2.2), if_neg e]
    generalize cs.map (shift p) = L at hmv hml hif
    refine callN_of hmv ?_
    intro tl N3 htl hp23 hL3
    simp only [List.length_append, List.length_cons, List.length_nil] at htl
    have b4 : Live N3 (M.length + 2) (.row [.I 0, .I 0, .I 0, .nil] true 0) := (Live.newj (j := 2) rfl).pre hp23
    have hP3 : Pre M N3 := (Pre.app _ _).trans hp23
    have hLl := hL3.lt
    simp (disch := omega) only [f2, f3, f4, f6, ↓SXd, SXu, slBounds, ↓sop, ↓aop, ↓reduceIte, LV.cells, AOp.dst, LV.I, LV.B, LV.U, LV.S, LV.nil, Nat.reduceEqDiff, Nat.reduceAdd, Nat.reduceMul, Nat.reduceSub, Nat.reduceLeDiff, Nat.reduceBEq, Nat.reduceDiv, Nat.reduceMod, Int.reduceToNat, Int.reduceLT, Int.reduceLE, Int.reduceAdd, Int.reduceSub, Int.reduceMul, Int.reduceEq, Int.reduceNeg, reduceCtorEq, resV, resAll, ARes.ev, LV.flat, ite_true, ite_false, exists_eq_left', exists_eq_left, keyOf, implies_true, fillC, capOf]
    refine ⟨fun b hb => by subst hb; exact (Live.new).pre hp23, ?_⟩
    refine callK_of (h_l2Made hLl) ?_
    simp (disch := omega) only [f2, f3, f4, f6, ↓SXd, SXu, slBounds, ↓sop, ↓aop, ↓reduceIte, LV.cells, AOp.dst, LV.I, LV.B, LV.U, LV.S, LV.nil, Nat.reduceEqDiff, Nat.reduceAdd, Nat.reduceMul, Nat.reduceSub, Nat.reduceLeDiff, Nat.reduceBEq, Nat.reduceDiv, Nat.reduceMod, Int.reduceToNat, Int.reduceLT, Int.reduceLE, Int.reduceAdd, Int.reduceSub, Int.reduceMul, Int.reduceEq, Int.reduceNeg, reduceCtorEq, resV, resAll, ARes.ev, LV.flat, ite_true, ite_false, exists_eq_left', exists_eq_left, keyOf, implies_true, fillC, capOf]
    refine callR_of (h_l2Kept (x := x) (y := y) (z := z) hL3 (by omega)) ?_
    rintro v N4 ⟨e1, e2, hp4⟩
    by_cases hW : HeapOK x y z L
    · rw [e1 hW]
      simp (disch := omega) only [f2, f3, f4, f6, ↓SXd, SXu, slBounds, ↓sop, ↓aop, ↓reduceIte, LV.cells, AOp.dst, LV.I, LV.B, LV.U, LV.S, LV.nil, Nat.reduceEqDiff, Nat.reduceAdd, Nat.reduceMul, Nat.reduceSub, Nat.reduceLeDiff, Nat.reduceBEq, Nat.reduceDiv, Nat.reduceMod, Int.reduceToNat, Int.reduceLT, Int.reduceLE, Int.reduceAdd, Int.reduceSub, Int.reduceMul, Int.reduceEq, Int.reduceNeg, reduceCtorEq, resV, resAll, ARes.ev, LV.flat, ite_true, ite_false, exists_eq_left', exists_eq_left, keyOf, implies_true, fillC, capOf]
      refine heapX_box (g := ⟨x, y, z, L⟩) (b4.pre hp4) rfl (hL3.pre hp4) (by omega) (by omega) (hP3.trans hp4) fun N' e1 e2 e3 => ?_
      simp (disch := omega) only [f2, f3, f4, f6, e1.cells, ↓SXd, SXu, slBounds, ↓sop, ↓aop, ↓reduceIte, LV.cells, AOp.dst, LV.I, LV.B, LV.U, LV.S, LV.nil, Nat.reduceEqDiff, Nat.reduceAdd, Nat.reduceMul, Nat.reduceSub, Nat.reduceLeDiff, Nat.reduceBEq, Nat.reduceDiv, Nat.reduceMod, Int.reduceToNat, Int.reduceLT, Int.reduceLE, Int.reduceAdd, Int.reduceSub, Int.reduceMul, Int.reduceEq, Int.reduceNeg, reduceCtorEq, resV, resAll, ARes.ev, LV.flat, ite_true, ite_false, exists_eq_left', exists_eq_left, keyOf, implies_true, fillC, capOf]
      exact heapX_yes (hif.trans (if_pos hW)) e2 e3
    · rw [e2 hW]
      simp (disch := omega) only [f2, f3, f4, f6, ↓SXd, SXu, slBounds, ↓sop, ↓aop, ↓reduceIte, LV.cells, AOp.dst, LV.I, LV.B, LV.U, LV.S, LV.nil, Nat.reduceEqDiff, Nat.reduceAdd, Nat.reduceMul, Nat.reduceSub, Nat.reduceLeDiff, Nat.reduceBEq, Nat.reduceDiv, Nat.reduceMod, Int.reduceToNat, Int.reduceLT, Int.reduceLE, Int.reduceAdd, Int.reduceSub, Int.reduceMul, Int.reduceEq, Int.reduceNeg, reduceCtorEq, resV, resAll, ARes.ev, LV.flat, ite_true, ite_false, exists_eq_left', exists_eq_left, keyOf, implies_true, fillC, capOf]
      refine memK_box (b4.pre hp4) (by simp) fun N5 r1 r2 r3 => ?_
      simp (disch := omega) only [f2, f3, f4, f6, r2.cells, ↓SXd, SXu, slBounds, ↓sop, ↓aop, ↓reduceIte, LV.cells, AOp.dst, LV.I, LV.B, LV.U, LV.S, LV.nil, Nat.reduceEqDiff, Nat.reduceAdd, Nat.reduceMul, Nat.reduceSub, Nat.reduceLeDiff, Nat.reduceBEq, Nat.reduceDiv, Nat.reduceMod, Int.reduceToNat, Int.reduceLT, Int.reduceLE, Int.reduceAdd, Int.reduceSub, Int.reduceMul, Int.reduceEq, Int.reduceNeg, reduceCtorEq, resV, resAll, ARes.ev, LV.flat, ite_true, ite_false, exists_eq_left', exists_eq_left, keyOf, implies_true, fillC, capOf]
      exact heapX_no (hif.trans (if_neg hW)) rfl (pre_step (hP3.trans hp4) (by omega) (j := 0) r1 r3)
end
end Go.Ab

/- Contracts: the reference's joined, common and swapped heaps. -/
namespace Go.Ab
open Go
set_option linter.unusedSimpArgs false
set_option linter.unusedVariables false
set_option maxRecDepth 20000

section
variable {x y z x' y' z' : Int} {t t' : Nat} {w w' : Bool} {cs ds : List Cell} {M : Mem} (h : Live M t (.row (triL cs) w 3)) (hn : cs.length ≤ 1000000000) (h' : Live M t' (.row (triL ds) w' 3)) (hn' : ds.length ≤ 1000000000)
include h hn h' hn'
theorem h_l2Alike : CallsTo PG F.spec_l2Alike [.agg [.I x, .I y, .I z, .ref t 0 cs.length], .agg [.I x', .I y', .I z', .ref t' 0 ds.length]] M (.B (decide (Alike x y z cs x' y' z' ds))) M := by
  have ht := h.lt
  have ht' := h'.lt
  refine calls_run K.spec_l2Alike rfl ?_
  simp (disch := omega) only [C.spec_l2Alike, ↓SXd, SXu, slBounds, ↓sop, ↓aop, ↓reduceIte, LV.cells, AOp.dst, LV.I, LV.B, LV.U, LV.S, LV.nil, Nat.reduceEqDiff, Nat.reduceAdd, Nat.reduceMul, Nat.reduceSub, Nat.reduceLeDiff, Nat.reduceBEq, Nat.reduceDiv, Nat.reduceMod, Int.reduceToNat, Int.reduceLT, Int.reduceLE, Int.reduceAdd, Int.reduceSub, Int.reduceMul, Int.reduceEq, Int.reduceNeg, reduceCtorEq, resV, resAll, ARes.ev, LV.flat, ite_true, ite_false, exists_eq_left', exists_eq_left, keyOf, implies_true, fillC, capOf]
  refine callK_of (h_l2Heap (Has.app h.has) hn) ?_
  simp (disch := omega) only [↓SXd, SXu, slBounds, ↓sop, ↓aop, ↓reduceIte, LV.cells, AOp.dst, LV.I, LV.B, LV.U, LV.S, LV.nil, Nat.reduceEqDiff, Nat.reduceAdd, Nat.reduceMul, Nat.reduceSub, Nat.reduceLeDiff, Nat.reduceBEq, Nat.reduceDiv, Nat.reduceMod, Int.reduceToNat, Int.reduceLT, Int.reduceLE, Int.reduceAdd, Int.reduceSub, Int.reduceMul, Int.reduceEq, Int.reduceNeg, reduceCtorEq, resV, resAll, ARes.ev, LV.flat, ite_true, ite_false, exists_eq_left', exists_eq_left, keyOf, implies_true, fillC, capOf]
  by_cases hH : HeapOK x y z cs
  rotate_left
  · rw [decide_eq_false (show ¬ Alike x y z cs x' y' z' ds from fun e => hH e.1)]
    simp (disch := omega) only [hH, ↓SXd, SXu, slBounds, ↓sop, ↓aop, ↓reduceIte, LV.cells, AOp.dst, LV.I, LV.B, LV.U, LV.S, LV.nil, Nat.reduceEqDiff, Nat.reduceAdd, Nat.reduceMul, Nat.reduceSub, Nat.reduceLeDiff, Nat.reduceBEq, Nat.reduceDiv, Nat.reduceMod, Int.reduceToNat, Int.reduceLT, Int.reduceLE, Int.reduceAdd, Int.reduceSub, Int.reduceMul, Int.reduceEq, Int.reduceNeg, reduceCtorEq, resV, resAll, ARes.ev, LV.flat, ite_true, ite_false, exists_eq_left', exists_eq_left, keyOf, implies_true, fillC, capOf]
    exact cmp_drop rfl
  simp (disch := omega) only [hH, ↓SXd, SXu, slBounds, ↓sop, ↓aop, ↓reduceIte, LV.cells, AOp.dst, LV.I, LV.B, LV.U, LV.S, LV.nil, Nat.reduceEqDiff, Nat.reduceAdd, Nat.reduceMul, Nat.reduceSub, Nat.reduceLeDiff, Nat.reduceBEq, Nat.reduceDiv, Nat.reduceMod, Int.reduceToNat, Int.reduceLT, Int.reduceLE, Int.reduceAdd, Int.reduceSub, Int.reduceMul, Int.reduceEq, Int.reduceNeg, reduceCtorEq, resV, resAll, ARes.ev, LV.flat, ite_true, ite_false, exists_eq_left', exists_eq_left, keyOf, implies_true, fillC, capOf]
  refine callK_of (h_l2Heap (Has.app h'.has) hn') ?_
  simp (disch := omega) only [↓SXd, SXu, slBounds, ↓sop, ↓aop, ↓reduceIte, LV.cells, AOp.dst, LV.I, LV.B, LV.U, LV.S, LV.nil, Nat.reduceEqDiff, Nat.reduceAdd, Nat.reduceMul, Nat.reduceSub, Nat.reduceLeDiff, Nat.reduceBEq, Nat.reduceDiv, Nat.reduceMod, Int.reduceToNat, Int.reduceLT, Int.reduceLE, Int.reduceAdd, Int.reduceSub, Int.reduceMul, Int.reduceEq, Int.reduceNeg, reduceCtorEq, resV, resAll, ARes.ev, LV.flat, ite_true, ite_false, exists_eq_left', exists_eq_left, keyOf, implies_true, fillC, capOf]
  by_cases hD : HeapOK x' y' z' ds
  rotate_left
  · rw [decide_eq_false (show ¬ Alike x y z cs x' y' z' ds from fun e => hD e.2.1)]
    simp (disch := omega) only [hD, ↓SXd, SXu, slBounds, ↓sop, ↓aop, ↓reduceIte, LV.cells, AOp.dst, LV.I, LV.B, LV.U, LV.S, LV.nil, Nat.reduceEqDiff, Nat.reduceAdd, Nat.reduceMul, Nat.reduceSub, Nat.reduceLeDiff, Nat.reduceBEq, Nat.reduceDiv, Nat.reduceMod, Int.reduceToNat, Int.reduceLT, Int.reduceLE, Int.reduceAdd, Int.reduceSub, Int.reduceMul, Int.reduceEq, Int.reduceNeg, reduceCtorEq, resV, resAll, ARes.ev, LV.flat, ite_true, ite_false, exists_eq_left', exists_eq_left, keyOf, implies_true, fillC, capOf]
    exact cmp_drop rfl
  by_cases e1 : x = x'
  rotate_left
  · rw [decide_eq_false (show ¬ Alike x y z cs x' y' z' ds from fun e => e1 e.2.2.1)]
    simp (disch := omega) only [hD, e1, ↓SXd, SXu, slBounds, ↓sop, ↓aop, ↓reduceIte, LV.cells, AOp.dst, LV.I, LV.B, LV.U, LV.S, LV.nil, Nat.reduceEqDiff, Nat.reduceAdd, Nat.reduceMul, Nat.reduceSub, Nat.reduceLeDiff, Nat.reduceBEq, Nat.reduceDiv, Nat.reduceMod, Int.reduceToNat, Int.reduceLT, Int.reduceLE, Int.reduceAdd, Int.reduceSub, Int.reduceMul, Int.reduceEq, Int.reduceNeg, reduceCtorEq, resV, resAll, ARes.ev, LV.flat, ite_true, ite_false, exists_eq_left', exists_eq_left, keyOf, implies_true, fillC, capOf]
    exact cmp_drop rfl
  by_cases e2 : y = y'
  rotate_left
  · rw [decide_eq_false (show ¬ Alike x y z cs x' y' z' ds from fun e => e2 e.2.2.2.1)]
    simp (disch := omega) only [hD, e1, e2, ↓SXd, SXu, slBounds, ↓sop, ↓aop, ↓reduceIte, LV.cells, AOp.dst, LV.I, LV.B, LV.U, LV.S, LV.nil, Nat.reduceEqDiff, Nat.reduceAdd, Nat.reduceMul, Nat.reduceSub, Nat.reduceLeDiff, Nat.reduceBEq, Nat.reduceDiv, Nat.reduceMod, Int.reduceToNat, Int.reduceLT, Int.reduceLE, Int.reduceAdd, Int.reduceSub, Int.reduceMul, Int.reduceEq, Int.reduceNeg, reduceCtorEq, resV, resAll, ARes.ev, LV.flat, ite_true, ite_false, exists_eq_left', exists_eq_left, keyOf, implies_true, fillC, capOf]
    exact cmp_drop rfl
  by_cases e3 : z = z'
  rotate_left
  · rw [decide_eq_false (show ¬ Alike x y z cs x' y' z' ds from fun e => e3 e.2.2.2.2)]
    simp (disch := omega) only [hD, e1, e2, e3, ↓SXd, SXu, slBounds, ↓sop, ↓aop, ↓reduceIte, LV.cells, AOp.dst, LV.I, LV.B, LV.U, LV.S, LV.nil, Nat.reduceEqDiff, Nat.reduceAdd, Nat.reduceMul, Nat.reduceSub, Nat.reduceLeDiff, Nat.reduceBEq, Nat.reduceDiv, Nat.reduceMod, Int.reduceToNat, Int.reduceLT, Int.reduceLE, Int.reduceAdd, Int.reduceSub, Int.reduceMul, Int.reduceEq, Int.reduceNeg, reduceCtorEq, resV, resAll, ARes.ev, LV.flat, ite_true, ite_false, exists_eq_left', exists_eq_left, keyOf, implies_true, fillC, capOf]
    exact cmp_drop rfl
  rw [decide_eq_true (show Alike x y z cs x' y' z' ds from ⟨hH, hD, e1, e2, e3⟩)]
  simp (disch := omega) only [hD, e1, e2, e3, ↓SXd, SXu, slBounds, ↓sop, ↓aop, ↓reduceIte, LV.cells, AOp.dst, LV.I, LV.B, LV.U, LV.S, LV.nil, Nat.reduceEqDiff, Nat.reduceAdd, Nat.reduceMul, Nat.reduceSub, Nat.reduceLeDiff, Nat.reduceBEq, Nat.reduceDiv, Nat.reduceMod, Int.reduceToNat, Int.reduceLT, Int.reduceLE, Int.reduceAdd, Int.reduceSub, Int.reduceMul, Int.reduceEq, Int.reduceNeg, reduceCtorEq, resV, resAll, ARes.ev, LV.flat, ite_true, ite_false, exists_eq_left', exists_eq_left, keyOf, implies_true, fillC, capOf]
  exact cmp_drop rfl
theorem h_sJoinHeaps : CallsR PG F.spec_JoinHeaps [.agg [.I x, .I y, .I z, .ref t 0 cs.length], .agg [.I x', .I y', .I z', .ref t' 0 ds.length]] M (HeapX M (jnOf x y z cs x' y' z' ds)) := by
  have ht := h.lt
  have ht' := h'.lt
  refine heapX_of ?_
  refine callsR_run K.spec_JoinHeaps rfl ?_
  simp (disch := omega) only [C.spec_JoinHeaps, ↓SXd, SXu, slBounds, ↓sop, ↓aop, ↓reduceIte, LV.cells, AOp.dst, LV.I, LV.B, LV.U, LV.S, LV.nil, Nat.reduceEqDiff, Nat.reduceAdd, Nat.reduceMul, Nat.reduceSub, Nat.reduceLeDiff, Nat.reduceBEq, Nat.reduceDiv, Nat.reduceMod, Int.reduceToNat, Int.reduceLT, Int.reduceLE, Int.reduceAdd, Int.reduceSub, Int.reduceMul, Int.reduceEq, Int.reduceNeg, reduceCtorEq, resV, resAll, ARes.ev, LV.flat, ite_true, ite_false, exists_eq_left', exists_eq_left, keyOf, implies_true, fillC, capOf]
  refine callK_of (h_l2Alike h.app hn h'.app hn') ?_
  simp (disch := omega) only [↓SXd, SXu, slBounds, ↓sop, ↓aop, ↓reduceIte, LV.cells, AOp.dst, LV.I, LV.B, LV.U, LV.S, LV.nil, Nat.reduceEqDiff, Nat.reduceAdd, Nat.reduceMul, Nat.reduceSub, Nat.reduceLeDiff, Nat.reduceBEq, Nat.reduceDiv, Nat.reduceMod, Int.reduceToNat, Int.reduceLT, Int.reduceLE, Int.reduceAdd, Int.reduceSub, Int.reduceMul, Int.reduceEq, Int.reduceNeg, reduceCtorEq, resV, resAll, ARes.ev, LV.flat, ite_true, ite_false, exists_eq_left', exists_eq_left, keyOf, implies_true, fillC, capOf]
  by_cases hA : Alike x y z cs x' y' z' ds
  rotate_left
  · simp (disch := omega) only [hA, splice, ↓SXd, SXu, slBounds, ↓sop, ↓aop, ↓reduceIte, LV.cells, AOp.dst, LV.I, LV.B, LV.U, LV.S, LV.nil, Nat.reduceEqDiff, Nat.reduceAdd, Nat.reduceMul, Nat.reduceSub, Nat.reduceLeDiff, Nat.reduceBEq, Nat.reduceDiv, Nat.reduceMod, Int.reduceToNat, Int.reduceLT, Int.reduceLE, Int.reduceAdd, Int.reduceSub, Int.reduceMul, Int.reduceEq, Int.reduceNeg, reduceCtorEq, resV, resAll, ARes.ev, LV.flat, ite_true, ite_false, exists_eq_left', exists_eq_left, keyOf, implies_true, fillC, capOf]
    exact heapX_no (if_neg hA) rfl (Pre.app _ _)
  obtain ⟨hH, hD, rfl, rfl, rfl⟩ := id hA
  have hlen := hH.len
  have hlen' := hD.len
  simp (disch := omega) only [hA, ↓SXd, SXu, slBounds, ↓sop, ↓aop, ↓reduceIte, LV.cells, AOp.dst, LV.I, LV.B, LV.U, LV.S, LV.nil, Nat.reduceEqDiff, Nat.reduceAdd, Nat.reduceMul, Nat.reduceSub, Nat.reduceLeDiff, Nat.reduceBEq, Nat.reduceDiv, Nat.reduceMod, Int.reduceToNat, Int.reduceLT, Int.reduceLE, Int.reduceAdd, Int.reduceSub, Int.reduceMul, Int.reduceEq, Int.reduceNeg, reduceCtorEq, resV, resAll, ARes.ev, LV.flat, ite_true, ite_false, exists_eq_left', exists_eq_left, keyOf, implies_true, fillC, capOf]
  have hif : jnOf x y z cs x y z ds = some ⟨x, y, z, pick x y z fun d => decide (d ∈ cs) || decide (d ∈ ds)⟩ := if_pos hA
  rw [hif]
  clear hif hA
  refine callH_of (h_l2Own (Has.app h.has) hn) ?_
  intro u0 N0 hu0 hp0 hb0
  simp only [List.length_append, List.length_cons, List.length_nil] at hu0
  have b3 : Live N0 (M.length + 1) (.row [.I x, .I y, .I z, .ref t' 0 ds.length] true 0) := (Live.newj (j := 1) rfl).pre hp0
  have b4 : Live N0 (M.length + 2) (.row [.I 0, .I 0, .I 0, .nil] true 0) := (Live.newj (j := 2) rfl).pre hp0
  have hP0 : Pre M N0 := (Pre.app _ _).trans hp0
  have hN0 := hp0.1
  simp only [List.length_append, List.length_cons, List.length_nil] at hN0
  simp (disch := omega) only [splice, ↓SXd, SXu, slBounds, ↓sop, ↓aop, ↓reduceIte, LV.cells, AOp.dst, LV.I, LV.B, LV.U, LV.S, LV.nil, Nat.reduceEqDiff, Nat.reduceAdd, Nat.reduceMul, Nat.reduceSub, Nat.reduceLeDiff, Nat.reduceBEq, Nat.reduceDiv, Nat.reduceMod, Int.reduceToNat, Int.reduceLT, Int.reduceLE, Int.reduceAdd, Int.reduceSub, Int.reduceMul, Int.reduceEq, Int.reduceNeg, reduceCtorEq, resV, resAll, ARes.ev, LV.flat, ite_true, ite_false, exists_eq_left', exists_eq_left, keyOf, implies_true, fillC, capOf]
  have b6 : Live (N0 ++ [some (.row [.I x, .I y, .I z, .ref u0 0 cs.length] true 0)]) N0.length (.row [.I x, .I y, .I z, .ref u0 0 cs.length] true 0) := Live.new
  have b3 := b3.app (L := [some (.row [.I x, .I y, .I z, .ref u0 0 cs.length] true 0)])
  have b4 := b4.app (L := [some (.row [.I x, .I y, .I z, .ref u0 0 cs.length] true 0)])
  have bu := hb0.app (L := [some (.row [.I x, .I y, .I z, .ref u0 0 cs.length] true 0)])
  have hP1 : Pre M (N0 ++ [some (.row [.I x, .I y, .I z, .ref u0 0 cs.length] true 0)]) := hP0.trans (Pre.app _ _)
  generalize N0.length = m6 at b6 hN0 ⊢
  generalize N0 ++ [some (Blk.row [.I x, .I y, .I z, .ref u0 0 cs.length] true 0)] = N1 at b6 b3 b4 bu hP1 ⊢
  have hst : ∀ i, i < ds.length → pick x y z (fun d => decide (d ∈ pick x y z fun d => decide (d ∈ cs) || decide (d ∈ ds.take i)) || decide (d = ds.getD i default)) = pick x y z fun d => decide (d ∈ cs) || decide (d ∈ ds.take (i + 1)) := fun i hi => by
    refine pick_congr hH.1 fun d hd => ?_
    rw [← take_dec hi, ← Bool.or_assoc]
    congr 1
    by_cases e : (decide (d ∈ cs) || decide (d ∈ ds.take i)) = true
    · rw [e, decide_eq_true ((mem_pick hH.1).2 ⟨hd, e⟩)]
    · rw [decide_eq_false (fun q => e ((mem_pick hH.1).1 q).2)]
      simpa using e
  have h00 : (pick x y z fun d => decide (d ∈ cs) || decide (d ∈ ds.take 0)) = cs := by
    rw [show (fun d => decide (d ∈ cs) || decide (d ∈ ds.take 0)) = fun d => decide (d ∈ cs) by funext d; simp]
    exact hH.pick.symm
  refine ev_loop (fun m fr M' => ∃ i u : Nat, i + m = ds.length ∧ Pre M M' ∧ Live M' (M.length + 1) (.row [.I x, .I y, .I z, .ref t' 0 ds.length] true 0) ∧ Live M' (M.length + 2) (.row [.I 0, .I 0, .I 0, .nil] true 0) ∧
    Live M' m6 (.row [.I x, .I y, .I z, .ref u 0 (pick x y z fun d => decide (d ∈ cs) || decide (d ∈ ds.take i)).length] true 0) ∧ Live M' u (.row (triL (pick x y z fun d => decide (d ∈ cs) || decide (d ∈ ds.take i))) true 3) ∧ M.length ≤ u ∧
    fr 3 = .ptr (M.length + 1) 0 ∧ fr 4 = .ptr (M.length + 2) 0 ∧ fr 6 = .ptr m6 0 ∧ fr 7 = .I i) ds.length
    ⟨0, u0, by omega, hP1, b3, b4, by rw [h00]; exact b6, by rw [h00]; exact bu, by omega, rfl, rfl, rfl, rfl⟩ ?_
  clear b3 b4 b6 bu hP1
  rintro m fr M' ⟨i, u, hi, hpre, b3, b4, b6, bu, hu, f3, f4, f6, f7⟩
  simp (disch := omega) only [f3, f4, f6, f7, b3.cell, ↓SXd, SXu, slBounds, ↓sop, ↓aop, ↓reduceIte, LV.cells, AOp.dst, LV.I, LV.B, LV.U, LV.S, LV.nil, Nat.reduceEqDiff, Nat.reduceAdd, Nat.reduceMul, Nat.reduceSub, Nat.reduceLeDiff, Nat.reduceBEq, Nat.reduceDiv, Nat.reduceMod, Int.reduceToNat, Int.reduceLT, Int.reduceLE, Int.reduceAdd, Int.reduceSub, Int.reduceMul, Int.reduceEq, Int.reduceNeg, reduceCtorEq, resV, resAll, ARes.ev, LV.flat, ite_true, ite_false, exists_eq_left', exists_eq_left, keyOf, implies_true, fillC, capOf]
  refine condC_dec (fun hlt => ?_) (fun hlt => ?_)
  · have hil : i < ds.length := by omega
    have hg := Tri.get (h'.pre hpre).has hil
    have hci := hD.mem (getD_mem' (d := default) hil)
    have hsti := hst i hil
    rw [Nat.zero_add] at hg
    generalize ds.getD i default = c at hg hci hsti
    simp (disch := omega) only [f3, f4, f6, f7, b3.cell, b6.cells, hg, Cell.row, Nat.mul_one, ↓SXd, SXu, slBounds, ↓sop, ↓aop, ↓reduceIte, LV.cells, AOp.dst, LV.I, LV.B, LV.U, LV.S, LV.nil, Nat.reduceEqDiff, Nat.reduceAdd, Nat.reduceMul, Nat.reduceSub, Nat.reduceLeDiff, Nat.reduceBEq, Nat.reduceDiv, Nat.reduceMod, Int.reduceToNat, Int.reduceLT, Int.reduceLE, Int.reduceAdd, Int.reduceSub, Int.reduceMul, Int.reduceEq, Int.reduceNeg, reduceCtorEq, resV, resAll, ARes.ev, LV.flat, ite_true, ite_false, exists_eq_left', exists_eq_left, keyOf, implies_true, fillC, capOf]
    refine callH_of (h_l2With (c := c) bu (pick_ok hH.1 _) hci) ?_
    intro sn N3 hsn hp3 hsr
    rw [hsti] at hsr ⊢
    have hN3 := hp3.1
    have hp0 := hpre.1
    have hb6l := b6.lt
    simp (disch := omega) only [f3, f4, f6, f7, ↓SXd, SXu, slBounds, ↓sop, ↓aop, ↓reduceIte, LV.cells, AOp.dst, LV.I, LV.B, LV.U, LV.S, LV.nil, Nat.reduceEqDiff, Nat.reduceAdd, Nat.reduceMul, Nat.reduceSub, Nat.reduceLeDiff, Nat.reduceBEq, Nat.reduceDiv, Nat.reduceMod, Int.reduceToNat, Int.reduceLT, Int.reduceLE, Int.reduceAdd, Int.reduceSub, Int.reduceMul, Int.reduceEq, Int.reduceNeg, reduceCtorEq, resV, resAll, ARes.ev, LV.flat, ite_true, ite_false, exists_eq_left', exists_eq_left, keyOf, implies_true, fillC, capOf]
    refine memK_box (b6.pre hp3) (by simp) fun N4 q1 q2 q3 => ?_
    simp (disch := omega) only [f3, f4, f6, f7, ↓SXd, SXu, slBounds, ↓sop, ↓aop, ↓reduceIte, LV.cells, AOp.dst, LV.I, LV.B, LV.U, LV.S, LV.nil, Nat.reduceEqDiff, Nat.reduceAdd, Nat.reduceMul, Nat.reduceSub, Nat.reduceLeDiff, Nat.reduceBEq, Nat.reduceDiv, Nat.reduceMod, Int.reduceToNat, Int.reduceLT, Int.reduceLE, Int.reduceAdd, Int.reduceSub, Int.reduceMul, Int.reduceEq, Int.reduceNeg, reduceCtorEq, resV, resAll, ARes.ev, LV.flat, ite_true, ite_false, exists_eq_left', exists_eq_left, keyOf, implies_true, fillC, capOf]
    exact ⟨m - 1, by omega, i + 1, sn, by omega, pre_step (hpre.trans hp3) (by omega) (j := 0) q1 q3, live_step (b3.pre hp3) (by omega) q3, live_step (b4.pre hp3) (by omega) q3, q2, live_step hsr (by omega) q3, by omega, f3, f4, f6, eqI (natI _)⟩
  · have : i = ds.length := by omega
    subst this
    rw [List.take_length] at b6 bu
    have hl6 := b6.lt
    simp (disch := omega) only [f3, f4, f6, f7, b6.cells, ↓SXd, SXu, slBounds, ↓sop, ↓aop, ↓reduceIte, LV.cells, AOp.dst, LV.I, LV.B, LV.U, LV.S, LV.nil, Nat.reduceEqDiff, Nat.reduceAdd, Nat.reduceMul, Nat.reduceSub, Nat.reduceLeDiff, Nat.reduceBEq, Nat.reduceDiv, Nat.reduceMod, Int.reduceToNat, Int.reduceLT, Int.reduceLE, Int.reduceAdd, Int.reduceSub, Int.reduceMul, Int.reduceEq, Int.reduceNeg, reduceCtorEq, resV, resAll, ARes.ev, LV.flat, ite_true, ite_false, exists_eq_left', exists_eq_left, keyOf, implies_true, fillC, capOf]
    refine heapX_box (g := ⟨x, y, z, pick x y z fun d => decide (d ∈ cs) || decide (d ∈ ds)⟩) b4 rfl bu (by omega) (by omega) hpre fun N' e1 e2 e3 => ?_
    simp (disch := omega) only [f3, f4, f6, f7, e1.cells, ↓SXd, SXu, slBounds, ↓sop, ↓aop, ↓reduceIte, LV.cells, AOp.dst, LV.I, LV.B, LV.U, LV.S, LV.nil, Nat.reduceEqDiff, Nat.reduceAdd, Nat.reduceMul, Nat.reduceSub, Nat.reduceLeDiff, Nat.reduceBEq, Nat.reduceDiv, Nat.reduceMod, Int.reduceToNat, Int.reduceLT, Int.reduceLE, Int.reduceAdd, Int.reduceSub, Int.reduceMul, Int.reduceEq, Int.reduceNeg, reduceCtorEq, resV, resAll, ARes.ev, LV.flat, ite_true, ite_false, exists_eq_left', exists_eq_left, keyOf, implies_true, fillC, capOf]
    exact .inl ⟨e2, e3⟩
theorem h_sCommonCubes : CallsR PG F.spec_CommonCubes [.agg [.I x, .I y, .I z, .ref t 0 cs.length], .agg [.I x', .I y', .I z', .ref t' 0 ds.length]] M (HeapX M (cmOf x y z cs x' y' z' ds)) := by
  have ht := h.lt
  have ht' := h'.lt
  refine heapX_of ?_
  refine callsR_run K.spec_CommonCubes rfl ?_
  simp (disch := omega) only [C.spec_CommonCubes, ↓SXd, SXu, slBounds, ↓sop, ↓aop, ↓reduceIte, LV.cells, AOp.dst, LV.I, LV.B, LV.U, LV.S, LV.nil, Nat.reduceEqDiff, Nat.reduceAdd, Nat.reduceMul, Nat.reduceSub, Nat.reduceLeDiff, Nat.reduceBEq, Nat.reduceDiv, Nat.reduceMod, Int.reduceToNat, Int.reduceLT, Int.reduceLE, Int.reduceAdd, Int.reduceSub, Int.reduceMul, Int.reduceEq, Int.reduceNeg, reduceCtorEq, resV, resAll, ARes.ev, LV.flat, ite_true, ite_false, exists_eq_left', exists_eq_left, keyOf, implies_true, fillC, capOf]
  refine callK_of (h_l2Alike h.app hn h'.app hn') ?_
  simp (disch := omega) only [↓SXd, SXu, slBounds, ↓sop, ↓aop, ↓reduceIte, LV.cells, AOp.dst, LV.I, LV.B, LV.U, LV.S, LV.nil, Nat.reduceEqDiff, Nat.reduceAdd, Nat.reduceMul, Nat.reduceSub, Nat.reduceLeDiff, Nat.reduceBEq, Nat.reduceDiv, Nat.reduceMod, Int.reduceToNat, Int.reduceLT, Int.reduceLE, Int.reduceAdd, Int.reduceSub, Int.reduceMul, Int.reduceEq, Int.reduceNeg, reduceCtorEq, resV, resAll, ARes.ev, LV.flat, ite_true, ite_false, exists_eq_left', exists_eq_left, keyOf, implies_true, fillC, capOf]
  by_cases hA : Alike x y z cs x' y' z' ds
  rotate_left
  · simp (disch := omega) only [hA, splice, ↓SXd, SXu, slBounds, ↓sop, ↓aop, ↓reduceIte, LV.cells, AOp.dst, LV.I, LV.B, LV.U, LV.S, LV.nil, Nat.reduceEqDiff, Nat.reduceAdd, Nat.reduceMul, Nat.reduceSub, Nat.reduceLeDiff, Nat.reduceBEq, Nat.reduceDiv, Nat.reduceMod, Int.reduceToNat, Int.reduceLT, Int.reduceLE, Int.reduceAdd, Int.reduceSub, Int.reduceMul, Int.reduceEq, Int.reduceNeg, reduceCtorEq, resV, resAll, ARes.ev, LV.flat, ite_true, ite_false, exists_eq_left', exists_eq_left, keyOf, implies_true, fillC, capOf]
    exact heapX_no (if_neg hA) rfl (Pre.app _ _)
  obtain ⟨hH, hD, rfl, rfl, rfl⟩ := id hA
  have hlen := hH.len
  have hlen' := hD.len
  simp (disch := omega) only [hA, ↓SXd, SXu, slBounds, ↓sop, ↓aop, ↓reduceIte, LV.cells, AOp.dst, LV.I, LV.B, LV.U, LV.S, LV.nil, Nat.reduceEqDiff, Nat.reduceAdd, Nat.reduceMul, Nat.reduceSub, Nat.reduceLeDiff, Nat.reduceBEq, Nat.reduceDiv, Nat.reduceMod, Int.reduceToNat, Int.reduceLT, Int.reduceLE, Int.reduceAdd, Int.reduceSub, Int.reduceMul, Int.reduceEq, Int.reduceNeg, reduceCtorEq, resV, resAll, ARes.ev, LV.flat, ite_true, ite_false, exists_eq_left', exists_eq_left, keyOf, implies_true, fillC, capOf]
  have hif : cmOf x y z cs x y z ds = some ⟨x, y, z, pick x y z fun d => decide (d ∈ cs) && decide (d ∈ ds)⟩ := if_pos hA
  have hpk : (pick x y z fun d => decide (d ∈ cs) && decide (d ∈ ds)) = cs.filter fun d => decide (d ∈ ds) := by
    refine sorted_ext (pick_sorted hH.1 _) (hH.sorted.filter _) fun d => ?_
    rw [mem_pick hH.1, List.mem_filter]
    simp only [Bool.and_eq_true, decide_eq_true_eq]
    exact ⟨fun e => e.2, fun e => ⟨hH.mem e.1, e⟩⟩
  rw [hif, hpk]
  clear hif hA hpk
  refine callK_of (h_l2Empty) ?_
  simp (disch := omega) only [splice, ↓SXd, SXu, slBounds, ↓sop, ↓aop, ↓reduceIte, LV.cells, AOp.dst, LV.I, LV.B, LV.U, LV.S, LV.nil, Nat.reduceEqDiff, Nat.reduceAdd, Nat.reduceMul, Nat.reduceSub, Nat.reduceLeDiff, Nat.reduceBEq, Nat.reduceDiv, Nat.reduceMod, Int.reduceToNat, Int.reduceLT, Int.reduceLE, Int.reduceAdd, Int.reduceSub, Int.reduceMul, Int.reduceEq, Int.reduceNeg, reduceCtorEq, resV, resAll, ARes.ev, LV.flat, ite_true, ite_false, exists_eq_left', exists_eq_left, keyOf, implies_true, fillC, capOf]
  refine ev_loop (fun m fr1 M' => ∃ i u : Nat, i + m = cs.length ∧ Pre M M' ∧ Live M' M.length (.row [.I x, .I y, .I z, .ref t 0 cs.length] true 0) ∧ Live M' (M.length + 1) (.row [.I x, .I y, .I z, .ref t' 0 ds.length] true 0) ∧ Live M' (M.length + 2) (.row [.I 0, .I 0, .I 0, .nil] true 0) ∧
    Live M' (M.length + 4) (.row [.I x, .I y, .I z, .ref u 0 ((cs.take i).filter fun d => decide (d ∈ ds)).length] true 0) ∧ Live M' u (.row (triL ((cs.take i).filter fun d => decide (d ∈ ds))) true 3) ∧ (u = M.length + 3 ∨ M.length + 4 < u) ∧
    fr1 2 = .ptr M.length 0 ∧ fr1 3 = .ptr (M.length + 1) 0 ∧ fr1 4 = .ptr (M.length + 2) 0 ∧ fr1 6 = .ptr (M.length + 4) 0 ∧ fr1 7 = .I i) cs.length
    ⟨0, M.length + 3, by omega, Pre.app _ _, Live.new, Live.newj rfl, Live.newj rfl, Live.newj (j := 4) rfl, Live.newj (j := 3) rfl, .inl rfl, rfl, rfl, rfl, rfl, rfl⟩ ?_
  rintro m fr1 M' ⟨i, u, hi, hpre, b2, b3, b4, b6, bu, hu, f2, f3, f4, f6, f7⟩
  simp (disch := omega) only [f2, f3, f4, f6, f7, b2.cell, ↓SXd, SXu, slBounds, ↓sop, ↓aop, ↓reduceIte, LV.cells, AOp.dst, LV.I, LV.B, LV.U, LV.S, LV.nil, Nat.reduceEqDiff, Nat.reduceAdd, Nat.reduceMul, Nat.reduceSub, Nat.reduceLeDiff, Nat.reduceBEq, Nat.reduceDiv, Nat.reduceMod, Int.reduceToNat, Int.reduceLT, Int.reduceLE, Int.reduceAdd, Int.reduceSub, Int.reduceMul, Int.reduceEq, Int.reduceNeg, reduceCtorEq, resV, resAll, ARes.ev, LV.flat, ite_true, ite_false, exists_eq_left', exists_eq_left, keyOf, implies_true, fillC, capOf]
  refine condC_dec (fun hlt => ?_) (fun hlt => ?_)
  · have hil : i < cs.length := by omega
    have hci := (h.pre hpre).tri0 hil
    have hts := take_snoc' (d := default) hil
    have hal : ((cs.take i).filter fun d => decide (d ∈ ds)).length ≤ 64 := by
      have q1 := List.length_filter_le (fun d => decide (d ∈ ds)) (cs.take i)
      have q2 := List.length_take_le i cs
      omega
    generalize cs.getD i default = c at hci hts
    have hstep : (cs.take (i + 1)).filter (fun d => decide (d ∈ ds)) = ((cs.take i).filter fun d => decide (d ∈ ds)) ++ (if decide (c ∈ ds) then [c] else []) := by
      rw [hts, List.filter_append, List.filter_cons, List.filter_nil]
    simp (disch := omega) only [f2, f3, f4, f6, f7, b2.cell, b3.cells, hci, Cell.row, Nat.mul_one, Nat.zero_add, ↓SXd, SXu, slBounds, ↓sop, ↓aop, ↓reduceIte, LV.cells, AOp.dst, LV.I, LV.B, LV.U, LV.S, LV.nil, Nat.reduceEqDiff, Nat.reduceAdd, Nat.reduceMul, Nat.reduceSub, Nat.reduceLeDiff, Nat.reduceBEq, Nat.reduceDiv, Nat.reduceMod, Int.reduceToNat, Int.reduceLT, Int.reduceLE, Int.reduceAdd, Int.reduceSub, Int.reduceMul, Int.reduceEq, Int.reduceNeg, reduceCtorEq, resV, resAll, ARes.ev, LV.flat, ite_true, ite_false, exists_eq_left', exists_eq_left, keyOf, implies_true, fillC, capOf]
    refine callK_of (h_l2Has ((h'.pre hpre).has) hn') ?_
    simp (disch := omega) only [f2, f3, f4, f6, f7, ↓SXd, SXu, slBounds, ↓sop, ↓aop, ↓reduceIte, LV.cells, AOp.dst, LV.I, LV.B, LV.U, LV.S, LV.nil, Nat.reduceEqDiff, Nat.reduceAdd, Nat.reduceMul, Nat.reduceSub, Nat.reduceLeDiff, Nat.reduceBEq, Nat.reduceDiv, Nat.reduceMod, Int.reduceToNat, Int.reduceLT, Int.reduceLE, Int.reduceAdd, Int.reduceSub, Int.reduceMul, Int.reduceEq, Int.reduceNeg, reduceCtorEq, resV, resAll, ARes.ev, LV.flat, ite_true, ite_false, exists_eq_left', exists_eq_left, keyOf, implies_true, fillC, capOf]
    rw [cell_eta]
    by_cases hm : c ∈ ds
    · rw [decide_eq_true hm] at hstep ⊢
      rw [if_pos rfl] at hstep
      simp (disch := omega) only [f2, f3, f4, f6, f7, b2.cell, b6.cell, hci, Cell.row, splice, ↓SXd, SXu, slBounds, ↓sop, ↓aop, ↓reduceIte, LV.cells, AOp.dst, LV.I, LV.B, LV.U, LV.S, LV.nil, Nat.reduceEqDiff, Nat.reduceAdd, Nat.reduceMul, Nat.reduceSub, Nat.reduceLeDiff, Nat.reduceBEq, Nat.reduceDiv, Nat.reduceMod, Int.reduceToNat, Int.reduceLT, Int.reduceLE, Int.reduceAdd, Int.reduceSub, Int.reduceMul, Int.reduceEq, Int.reduceNeg, reduceCtorEq, resV, resAll, ARes.ev, LV.flat, ite_true, ite_false, exists_eq_left', exists_eq_left, keyOf, implies_true, fillC, capOf]
      refine appendK_cell bu (by omega) fun N' l1 l2 l3 => ?_
      have d6 := live_step b6 (by omega) l3
      simp (disch := omega) only [f2, f3, f4, f6, f7, ↓SXd, SXu, slBounds, ↓sop, ↓aop, ↓reduceIte, LV.cells, AOp.dst, LV.I, LV.B, LV.U, LV.S, LV.nil, Nat.reduceEqDiff, Nat.reduceAdd, Nat.reduceMul, Nat.reduceSub, Nat.reduceLeDiff, Nat.reduceBEq, Nat.reduceDiv, Nat.reduceMod, Int.reduceToNat, Int.reduceLT, Int.reduceLE, Int.reduceAdd, Int.reduceSub, Int.reduceMul, Int.reduceEq, Int.reduceNeg, reduceCtorEq, resV, resAll, ARes.ev, LV.flat, ite_true, ite_false, exists_eq_left', exists_eq_left, keyOf, implies_true, fillC, capOf]
      refine memK_at d6 (show 3 < 4 by omega) fun N3 j1 j2 j3 => ?_
      simp (disch := omega) only [f2, f3, f4, f6, f7, ↓SXd, SXu, slBounds, ↓sop, ↓aop, ↓reduceIte, LV.cells, AOp.dst, LV.I, LV.B, LV.U, LV.S, LV.nil, Nat.reduceEqDiff, Nat.reduceAdd, Nat.reduceMul, Nat.reduceSub, Nat.reduceLeDiff, Nat.reduceBEq, Nat.reduceDiv, Nat.reduceMod, Int.reduceToNat, Int.reduceLT, Int.reduceLE, Int.reduceAdd, Int.reduceSub, Int.reduceMul, Int.reduceEq, Int.reduceNeg, reduceCtorEq, resV, resAll, ARes.ev, LV.flat, ite_true, ite_false, exists_eq_left', exists_eq_left, keyOf, implies_true, fillC, capOf]
      rw [cell_eta, ← hstep] at l2 j2
      have hpM := hpre.1
      have hb6l := b6.lt
      exact ⟨m - 1, by omega, i + 1, M'.length + 1, by omega, pre_step (pre_step hpre (by omega) l1 l3) (by omega) (j := 0) j1 j3, live_step (live_step b2 (by omega) l3) (by omega) j3, live_step (live_step b3 (by omega) l3) (by omega) j3, live_step (live_step b4 (by omega) l3) (by omega) j3, j2, live_step l2 (by omega) j3, by omega, f2, f3, f4, f6, eqI (natI _)⟩
    · rw [decide_eq_false hm] at hstep ⊢
      rw [if_neg (by simp), List.append_nil] at hstep
      simp (disch := omega) only [f2, f3, f4, f6, f7, ↓SXd, SXu, slBounds, ↓sop, ↓aop, ↓reduceIte, LV.cells, AOp.dst, LV.I, LV.B, LV.U, LV.S, LV.nil, Nat.reduceEqDiff, Nat.reduceAdd, Nat.reduceMul, Nat.reduceSub, Nat.reduceLeDiff, Nat.reduceBEq, Nat.reduceDiv, Nat.reduceMod, Int.reduceToNat, Int.reduceLT, Int.reduceLE, Int.reduceAdd, Int.reduceSub, Int.reduceMul, Int.reduceEq, Int.reduceNeg, reduceCtorEq, resV, resAll, ARes.ev, LV.flat, ite_true, ite_false, exists_eq_left', exists_eq_left, keyOf, implies_true, fillC, capOf]
      rw [← hstep] at b6 bu
      exact ⟨m - 1, by omega, i + 1, u, by omega, hpre, b2, b3, b4, b6, bu, hu, f2, f3, f4, f6, eqI (natI _)⟩
  · have : i = cs.length := by omega
    subst this
    rw [List.take_length] at b6 bu
    have hl6 := b6.lt
    simp (disch := omega) only [f2, f3, f4, f6, f7, b6.cells, ↓SXd, SXu, slBounds, ↓sop, ↓aop, ↓reduceIte, LV.cells, AOp.dst, LV.I, LV.B, LV.U, LV.S, LV.nil, Nat.reduceEqDiff, Nat.reduceAdd, Nat.reduceMul, Nat.reduceSub, Nat.reduceLeDiff, Nat.reduceBEq, Nat.reduceDiv, Nat.reduceMod, Int.reduceToNat, Int.reduceLT, Int.reduceLE, Int.reduceAdd, Int.reduceSub, Int.reduceMul, Int.reduceEq, Int.reduceNeg, reduceCtorEq, resV, resAll, ARes.ev, LV.flat, ite_true, ite_false, exists_eq_left', exists_eq_left, keyOf, implies_true, fillC, capOf]
    refine heapX_box (g := ⟨x, y, z, cs.filter fun d => decide (d ∈ ds)⟩) b4 rfl bu (by omega) (by omega) hpre fun N' e1 e2 e3 => ?_
    simp (disch := omega) only [f2, f3, f4, f6, f7, e1.cells, ↓SXd, SXu, slBounds, ↓sop, ↓aop, ↓reduceIte, LV.cells, AOp.dst, LV.I, LV.B, LV.U, LV.S, LV.nil, Nat.reduceEqDiff, Nat.reduceAdd, Nat.reduceMul, Nat.reduceSub, Nat.reduceLeDiff, Nat.reduceBEq, Nat.reduceDiv, Nat.reduceMod, Int.reduceToNat, Int.reduceLT, Int.reduceLE, Int.reduceAdd, Int.reduceSub, Int.reduceMul, Int.reduceEq, Int.reduceNeg, reduceCtorEq, resV, resAll, ARes.ev, LV.flat, ite_true, ite_false, exists_eq_left', exists_eq_left, keyOf, implies_true, fillC, capOf]
    exact .inl ⟨e2, e3⟩
end
theorem swC_set {a b : Int} {c : Cell} (ha : Dir a) (hb : Dir b) : (c.row.set a.toNat (.I (c.at b))).set b.toNat (.I (c.at a)) = (swC a b c).row := by
  rcases ha with rfl | rfl | rfl <;> rcases hb with rfl | rfl | rfl <;> rfl
section
variable {x y z a b : Int} {t : Nat} {w : Bool} {cs : List Cell} {M : Mem} (h : Live M t (.row (triL cs) w 3))
include h
theorem h_l2Swapped (hH : HeapOK x y z cs) (ha : Dir a) (hb : Dir b) : CallsR PG F.spec_l2Swapped [.agg [.I x, .I y, .I z, .ref t 0 cs.length], .I a, .I b] M fun v N => HeapV M (swX a b x y z cs).x (swX a b x y z cs).y (swX a b x y z cs).z (swX a b x y z cs).cs v N ∧ Pre M N := by
  have hlen := hH.len
  have ht := h.lt
  have ha0 : 0 ≤ a ∧ a < 3 := by rcases ha with h | h | h <;> omega
  have hb0 : 0 ≤ b ∧ b < 3 := by rcases hb with h | h | h <;> omega
  refine callsR_run K.spec_l2Swapped rfl ?_
  have e1 : [LV.I x, LV.I y, LV.I z][b.toNat]? = some (.I ((⟨x, y, z⟩ : Cell).at b)) := Cell.row_dir (c := ⟨x, y, z⟩) hb
  have e2 : [LV.I x, LV.I y, LV.I z][a.toNat]? = some (.I ((⟨x, y, z⟩ : Cell).at a)) := Cell.row_dir (c := ⟨x, y, z⟩) ha
  have hSS := swC_sides ha hb hH.1
  have hset := swC_set (c := ⟨x, y, z⟩) ha hb
  have hX : (swX a b x y z cs).x = (swC a b ⟨x, y, z⟩).a := rfl
  have hY : (swX a b x y z cs).y = (swC a b ⟨x, y, z⟩).b := rfl
  have hZ : (swX a b x y z cs).z = (swC a b ⟨x, y, z⟩).c := rfl
  have hC : (swX a b x y z cs).cs = pick (swC a b ⟨x, y, z⟩).a (swC a b ⟨x, y, z⟩).b (swC a b ⟨x, y, z⟩).c fun d => decide (d ∈ cs.map (swC a b)) := rfl
  have hin : ∀ c, c ∈ cs → (swC a b c).inBox (swC a b ⟨x, y, z⟩).a (swC a b ⟨x, y, z⟩).b (swC a b ⟨x, y, z⟩).c := fun c hc => swC_in ha hb (hH.mem hc)
  rw [hX, hY, hZ, hC]
  generalize swC a b ⟨x, y, z⟩ = S at hSS hset hin ⊢
  have hset' : ([LV.I x, LV.I y, LV.I z].set a.toNat (.I ((⟨x, y, z⟩ : Cell).at b))).set b.toNat (.I ((⟨x, y, z⟩ : Cell).at a)) = S.row := hset
  have e0 : splice [LV.I 0, LV.I 0, LV.I 0] 0 [LV.I x, LV.I y, LV.I z] = [LV.I x, LV.I y, LV.I z] := rfl
  obtain ⟨R1, hR1, hR1l, hR2⟩ : ∃ R1, splice [LV.I x, LV.I y, LV.I z] a.toNat [.I ((⟨x, y, z⟩ : Cell).at b)] = R1 ∧ R1.length = 3 ∧ splice R1 b.toNat [.I ((⟨x, y, z⟩ : Cell).at a)] = S.row := by
    refine ⟨_, rfl, ?_, ?_⟩
    · rw [splice_1 (by show a.toNat < 3; omega)]; simp
    · have e9 : splice [LV.I x, LV.I y, LV.I z] a.toNat [.I ((⟨x, y, z⟩ : Cell).at b)] = [LV.I x, LV.I y, LV.I z].set a.toNat (.I ((⟨x, y, z⟩ : Cell).at b)) := splice_1 (by show a.toNat < 3; omega)
      rw [e9, splice_1 (by rw [List.length_set]; show b.toNat < 3; omega)]
      exact hset'
  have hA1 : a.toNat + 1 ≤ 3 := by omega
  have hB1 : b.toNat + 1 ≤ 3 := by omega
  simp (disch := omega) only [C.spec_l2Swapped, e0, hR1, hR1l, hR2, hA1, hB1, ha0, hb0, e1, e2, Nat.mul_one, Nat.zero_add, List.length_cons, List.length_nil, ↓SXd, SXu, slBounds, ↓sop, ↓aop, ↓reduceIte, LV.cells, AOp.dst, LV.I, LV.B, LV.U, LV.S, LV.nil, Nat.reduceEqDiff, Nat.reduceAdd, Nat.reduceMul, Nat.reduceSub, Nat.reduceLeDiff, Nat.reduceBEq, Nat.reduceDiv, Nat.reduceMod, Int.reduceToNat, Int.reduceLT, Int.reduceLE, Int.reduceAdd, Int.reduceSub, Int.reduceMul, Int.reduceEq, Int.reduceNeg, reduceCtorEq, resV, resAll, ARes.ev, LV.flat, ite_true, ite_false, exists_eq_left', exists_eq_left, keyOf, implies_true, fillC, capOf]
  simp (disch := omega) only [Cell.row, ↓SXd, SXu, slBounds, ↓sop, ↓aop, ↓reduceIte, LV.cells, AOp.dst, LV.I, LV.B, LV.U, LV.S, LV.nil, Nat.reduceEqDiff, Nat.reduceAdd, Nat.reduceMul, Nat.reduceSub, Nat.reduceLeDiff, Nat.reduceBEq, Nat.reduceDiv, Nat.reduceMod, Int.reduceToNat, Int.reduceLT, Int.reduceLE, Int.reduceAdd, Int.reduceSub, Int.reduceMul, Int.reduceEq, Int.reduceNeg, reduceCtorEq, resV, resAll, ARes.ev, LV.flat, ite_true, ite_false, exists_eq_left', exists_eq_left, keyOf, implies_true, fillC, capOf]
  refine callK_of (h_l2Empty) ?_
  simp (disch := omega) only [splice, ↓SXd, SXu, slBounds, ↓sop, ↓aop, ↓reduceIte, LV.cells, AOp.dst, LV.I, LV.B, LV.U, LV.S, LV.nil, Nat.reduceEqDiff, Nat.reduceAdd, Nat.reduceMul, Nat.reduceSub, Nat.reduceLeDiff, Nat.reduceBEq, Nat.reduceDiv, Nat.reduceMod, Int.reduceToNat, Int.reduceLT, Int.reduceLE, Int.reduceAdd, Int.reduceSub, Int.reduceMul, Int.reduceEq, Int.reduceNeg, reduceCtorEq, resV, resAll, ARes.ev, LV.flat, ite_true, ite_false, exists_eq_left', exists_eq_left, keyOf, implies_true, fillC, capOf]
  have hLl : (cs.map (swC a b)).length = cs.length := List.length_map ..
  have hLg : ∀ i, i < cs.length → (cs.map (swC a b)).getD i default = swC a b (cs.getD i default) := fun i hi => by simp [hi]
  generalize cs.map (swC a b) = L at hLl hLg ⊢
  refine ev_loop (fun m fr M' => ∃ i u : Nat, i + m = cs.length ∧ Pre M M' ∧ Live M' M.length (.row [.I x, .I y, .I z, .ref t 0 cs.length] true 0) ∧ Live M' (M.length + 1) (.row [.I 0, .I 0, .I 0, .nil] true 0) ∧
    Live M' (M.length + 5) (.row [.I S.a, .I S.b, .I S.c, .ref u 0 (pick S.a S.b S.c fun d => decide (d ∈ L.take i)).length] true 0) ∧ Live M' u (.row (triL (pick S.a S.b S.c fun d => decide (d ∈ L.take i))) true 3) ∧ M.length ≤ u ∧
    fr 1 = .I a ∧ fr 2 = .I b ∧ fr 3 = .ptr M.length 0 ∧ fr 6 = .ptr (M.length + 1) 0 ∧ fr 9 = .ptr (M.length + 5) 0 ∧ fr 10 = .I i) cs.length
    ⟨0, M.length + 4, by omega, Pre.app _ _, Live.new, Live.newj rfl, ?_, ?_, by omega, rfl, rfl, rfl, rfl, rfl, rfl⟩ ?_
  · rw [show (pick S.a S.b S.c fun d => decide (d ∈ L.take 0)) = [] by unfold pick; rw [List.filter_eq_nil_iff]; simp]; exact Live.newj (j := 5) rfl
  · rw [show (pick S.a S.b S.c fun d => decide (d ∈ L.take 0)) = [] by unfold pick; rw [List.filter_eq_nil_iff]; simp]; exact Live.newj (j := 4) rfl
  rintro m fr M' ⟨i, u, hi, hpre, b3, b6, b9, bu, hu, f1, f2, f3, f6, f9, f10⟩
  simp (disch := omega) only [f1, f2, f3, f6, f9, f10, b3.cell, ↓SXd, SXu, slBounds, ↓sop, ↓aop, ↓reduceIte, LV.cells, AOp.dst, LV.I, LV.B, LV.U, LV.S, LV.nil, Nat.reduceEqDiff, Nat.reduceAdd, Nat.reduceMul, Nat.reduceSub, Nat.reduceLeDiff, Nat.reduceBEq, Nat.reduceDiv, Nat.reduceMod, Int.reduceToNat, Int.reduceLT, Int.reduceLE, Int.reduceAdd, Int.reduceSub, Int.reduceMul, Int.reduceEq, Int.reduceNeg, reduceCtorEq, resV, resAll, ARes.ev, LV.flat, ite_true, ite_false, exists_eq_left', exists_eq_left, keyOf, implies_true, fillC, capOf]
  refine condC_dec (fun hlt => ?_) (fun hlt => ?_)
  · have hil : i < cs.length := by omega
    have hTr := (h.pre hpre).has
    have hg := Tri.get hTr hil
    have ga := Tri.gets_at hTr hil ha
    have gb := Tri.gets_at hTr hil hb
    have hmi := hin _ (getD_mem' (d := default) hil)
    have hci := hH.mem (getD_mem' (d := default) hil)
    have hLi := hLg i hil
    rw [Nat.zero_add] at hg ga gb
    have kg : ∀ N, Pre M N → getCell N t (i * 3 + a.toNat) = some (.I ((cs.getD i default).at a)) := fun N hp => by
      have := Tri.gets_at (h.pre hp).has hil ha
      rwa [Nat.zero_add] at this
    have kb : ∀ N, Pre M N → getCell N t (i * 3 + b.toNat) = some (.I ((cs.getD i default).at b)) := fun N hp => by
      have := Tri.gets_at (h.pre hp).has hil hb
      rwa [Nat.zero_add] at this
    have hsw := swC_set (c := cs.getD i default) ha hb
    generalize cs.getD i default = c at hg hmi hLi ga gb kg kb hsw hci
    have hca := at_in hci a
    have hcb := at_in hci b
    have hlb := b9.lt
    have hp0 := hpre.1
    have hbul := bu.lt
    simp (disch := omega) only [f1, f2, f3, f6, f9, f10, b3.cell, hg, Cell.row, splice, b3.app.cell, List.getElem?_append_left, ha0, hb0, gb, Nat.mul_one, Nat.zero_add, ↓SXd, SXu, slBounds, ↓sop, ↓aop, ↓reduceIte, LV.cells, AOp.dst, LV.I, LV.B, LV.U, LV.S, LV.nil, Nat.reduceEqDiff, Nat.reduceAdd, Nat.reduceMul, Nat.reduceSub, Nat.reduceLeDiff, Nat.reduceBEq, Nat.reduceDiv, Nat.reduceMod, Int.reduceToNat, Int.reduceLT, Int.reduceLE, Int.reduceAdd, Int.reduceSub, Int.reduceMul, Int.reduceEq, Int.reduceNeg, reduceCtorEq, resV, resAll, ARes.ev, LV.flat, ite_true, ite_false, exists_eq_left', exists_eq_left, keyOf, implies_true, fillC, capOf]
    have b11 : Live (M' ++ [some (.row [.I c.a, .I c.b, .I c.c] true 0)]) M'.length (.row c.row true 0) := Live.new
    have b3a := b3.app (L := [some (.row [.I c.a, .I c.b, .I c.c] true 0)])
    have b6a := b6.app (L := [some (.row [.I c.a, .I c.b, .I c.c] true 0)])
    have b9a := b9.app (L := [some (.row [.I c.a, .I c.b, .I c.c] true 0)])
    have bua := bu.app (L := [some (.row [.I c.a, .I c.b, .I c.c] true 0)])
    have hpa : Pre M (M' ++ [some (.row [.I c.a, .I c.b, .I c.c] true 0)]) := hpre.trans (Pre.app _ _)
    have hMM : (M' ++ [some (Blk.row [.I c.a, .I c.b, .I c.c] true 0)]).length = M'.length + 1 := by simp
    generalize M' ++ [some (Blk.row [.I c.a, .I c.b, .I c.c] true 0)] = Q1 at b11 b3a b6a b9a bua hpa hMM ⊢
    simp (disch := omega) only [f1, f2, f3, f6, f9, f10, (kb Q1 hpa), ↓SXd, SXu, slBounds, ↓sop, ↓aop, ↓reduceIte, LV.cells, AOp.dst, LV.I, LV.B, LV.U, LV.S, LV.nil, Nat.reduceEqDiff, Nat.reduceAdd, Nat.reduceMul, Nat.reduceSub, Nat.reduceLeDiff, Nat.reduceBEq, Nat.reduceDiv, Nat.reduceMod, Int.reduceToNat, Int.reduceLT, Int.reduceLE, Int.reduceAdd, Int.reduceSub, Int.reduceMul, Int.reduceEq, Int.reduceNeg, reduceCtorEq, resV, resAll, ARes.ev, LV.flat, ite_true, ite_false, exists_eq_left', exists_eq_left, keyOf, implies_true, fillC, capOf]
    refine memK_at b11 (show a.toNat < 3 by omega) fun Q2 k1 k2 k3 => ?_
    have c3 := live_step b3a (by omega) k3
    have c6 := live_step b6a (by omega) k3
    have c9 := live_step b9a (by omega) k3
    have cu := live_step bua (by omega) k3
    have hpc : Pre M Q2 := pre_step hpa (by omega) (j := 0) k1 k3
    simp (disch := omega) only [f1, f2, f3, f6, f9, f10, c3.cell, ha0, hb0, (kg Q2 hpc), Nat.mul_one, Nat.zero_add, ↓SXd, SXu, slBounds, ↓sop, ↓aop, ↓reduceIte, LV.cells, AOp.dst, LV.I, LV.B, LV.U, LV.S, LV.nil, Nat.reduceEqDiff, Nat.reduceAdd, Nat.reduceMul, Nat.reduceSub, Nat.reduceLeDiff, Nat.reduceBEq, Nat.reduceDiv, Nat.reduceMod, Int.reduceToNat, Int.reduceLT, Int.reduceLE, Int.reduceAdd, Int.reduceSub, Int.reduceMul, Int.reduceEq, Int.reduceNeg, reduceCtorEq, resV, resAll, ARes.ev, LV.flat, ite_true, ite_false, exists_eq_left', exists_eq_left, keyOf, implies_true, fillC, capOf]
    refine memK_at k2 (show b.toNat < _ by rw [List.length_set]; show b.toNat < 3; omega) fun Q3 l1 l2 l3 => ?_
    rw [hsw] at l2
    have e3 := live_step c3 (by omega) l3
    have e6 := live_step c6 (by omega) l3
    have e9 := live_step c9 (by omega) l3
    have eu := live_step cu (by omega) l3
    have hpe : Pre M Q3 := pre_step hpc (by omega) (j := 0) l1 l3
    simp (disch := omega) only [f1, f2, f3, f6, f9, f10, e9.cells, l2.cells, Cell.row, ↓SXd, SXu, slBounds, ↓sop, ↓aop, ↓reduceIte, LV.cells, AOp.dst, LV.I, LV.B, LV.U, LV.S, LV.nil, Nat.reduceEqDiff, Nat.reduceAdd, Nat.reduceMul, Nat.reduceSub, Nat.reduceLeDiff, Nat.reduceBEq, Nat.reduceDiv, Nat.reduceMod, Int.reduceToNat, Int.reduceLT, Int.reduceLE, Int.reduceAdd, Int.reduceSub, Int.reduceMul, Int.reduceEq, Int.reduceNeg, reduceCtorEq, resV, resAll, ARes.ev, LV.flat, ite_true, ite_false, exists_eq_left', exists_eq_left, keyOf, implies_true, fillC, capOf]
    refine callH_of (h_l2With (c := swC a b c) eu (pick_ok hSS _) hmi) ?_
    intro sn Q4 hsn hp4 hsr
    rw [← hLi, pick_take_step hSS (by omega)] at hsr ⊢
    have hQ4 := hp4.1
    simp (disch := omega) only [f1, f2, f3, f6, f9, f10, ↓SXd, SXu, slBounds, ↓sop, ↓aop, ↓reduceIte, LV.cells, AOp.dst, LV.I, LV.B, LV.U, LV.S, LV.nil, Nat.reduceEqDiff, Nat.reduceAdd, Nat.reduceMul, Nat.reduceSub, Nat.reduceLeDiff, Nat.reduceBEq, Nat.reduceDiv, Nat.reduceMod, Int.reduceToNat, Int.reduceLT, Int.reduceLE, Int.reduceAdd, Int.reduceSub, Int.reduceMul, Int.reduceEq, Int.reduceNeg, reduceCtorEq, resV, resAll, ARes.ev, LV.flat, ite_true, ite_false, exists_eq_left', exists_eq_left, keyOf, implies_true, fillC, capOf]
    refine memK_box (e9.pre hp4) (by simp) fun Q5 q1 q2 q3 => ?_
    simp (disch := omega) only [f1, f2, f3, f6, f9, f10, ↓SXd, SXu, slBounds, ↓sop, ↓aop, ↓reduceIte, LV.cells, AOp.dst, LV.I, LV.B, LV.U, LV.S, LV.nil, Nat.reduceEqDiff, Nat.reduceAdd, Nat.reduceMul, Nat.reduceSub, Nat.reduceLeDiff, Nat.reduceBEq, Nat.reduceDiv, Nat.reduceMod, Int.reduceToNat, Int.reduceLT, Int.reduceLE, Int.reduceAdd, Int.reduceSub, Int.reduceMul, Int.reduceEq, Int.reduceNeg, reduceCtorEq, resV, resAll, ARes.ev, LV.flat, ite_true, ite_false, exists_eq_left', exists_eq_left, keyOf, implies_true, fillC, capOf]
    exact ⟨m - 1, by omega, i + 1, sn, by omega, pre_step (hpe.trans hp4) (by omega) (j := 0) q1 q3, live_step (e3.pre hp4) (by omega) q3, live_step (e6.pre hp4) (by omega) q3, q2, live_step hsr (by omega) q3, by omega, f1, f2, f3, f6, f9, eqI (natI _)⟩
  · have : i = cs.length := by omega
    subst this
    rw [← hLl, List.take_length] at b9 bu
    have hl9 := b9.lt
    simp (disch := omega) only [f1, f2, f3, f6, f9, f10, b9.cells, ↓SXd, SXu, slBounds, ↓sop, ↓aop, ↓reduceIte, LV.cells, AOp.dst, LV.I, LV.B, LV.U, LV.S, LV.nil, Nat.reduceEqDiff, Nat.reduceAdd, Nat.reduceMul, Nat.reduceSub, Nat.reduceLeDiff, Nat.reduceBEq, Nat.reduceDiv, Nat.reduceMod, Int.reduceToNat, Int.reduceLT, Int.reduceLE, Int.reduceAdd, Int.reduceSub, Int.reduceMul, Int.reduceEq, Int.reduceNeg, reduceCtorEq, resV, resAll, ARes.ev, LV.flat, ite_true, ite_false, exists_eq_left', exists_eq_left, keyOf, implies_true, fillC, capOf]
    refine memK_box b6 (by simp) fun N3 k1 k2 k3 => ?_
    simp (disch := omega) only [f1, f2, f3, f6, f9, f10, k2.cells, ↓SXd, SXu, slBounds, ↓sop, ↓aop, ↓reduceIte, LV.cells, AOp.dst, LV.I, LV.B, LV.U, LV.S, LV.nil, Nat.reduceEqDiff, Nat.reduceAdd, Nat.reduceMul, Nat.reduceSub, Nat.reduceLeDiff, Nat.reduceBEq, Nat.reduceDiv, Nat.reduceMod, Int.reduceToNat, Int.reduceLT, Int.reduceLE, Int.reduceAdd, Int.reduceSub, Int.reduceMul, Int.reduceEq, Int.reduceNeg, reduceCtorEq, resV, resAll, ARes.ev, LV.flat, ite_true, ite_false, exists_eq_left', exists_eq_left, keyOf, implies_true, fillC, capOf]
    exact ⟨⟨u, rfl, live_step bu (bu.ne_esz b6 (by decide)) k3, hu⟩, pre_step hpre (by omega) (j := 0) k1 k3⟩
theorem h_sSwapSides (hn : cs.length ≤ 1000000000) : CallsR PG F.spec_SwapSides [.agg [.I x, .I y, .I z, .ref t 0 cs.length], .I a, .I b] M (HeapX M (swpOf x y z cs a b)) := by
  refine heapX_of ?_
  refine callsR_run K.spec_SwapSides rfl ?_
  simp (disch := omega) only [C.spec_SwapSides, ↓SXd, SXu, slBounds, ↓sop, ↓aop, ↓reduceIte, LV.cells, AOp.dst, LV.I, LV.B, LV.U, LV.S, LV.nil, Nat.reduceEqDiff, Nat.reduceAdd, Nat.reduceMul, Nat.reduceSub, Nat.reduceLeDiff, Nat.reduceBEq, Nat.reduceDiv, Nat.reduceMod, Int.reduceToNat, Int.reduceLT, Int.reduceLE, Int.reduceAdd, Int.reduceSub, Int.reduceMul, Int.reduceEq, Int.reduceNeg, reduceCtorEq, resV, resAll, ARes.ev, LV.flat, ite_true, ite_false, exists_eq_left', exists_eq_left, keyOf, implies_true, fillC, capOf]
  refine callK_of (h_l2Heap (Has.app h.has) hn) ?_
  simp (disch := omega) only [↓SXd, SXu, slBounds, ↓sop, ↓aop, ↓reduceIte, LV.cells, AOp.dst, LV.I, LV.B, LV.U, LV.S, LV.nil, Nat.reduceEqDiff, Nat.reduceAdd, Nat.reduceMul, Nat.reduceSub, Nat.reduceLeDiff, Nat.reduceBEq, Nat.reduceDiv, Nat.reduceMod, Int.reduceToNat, Int.reduceLT, Int.reduceLE, Int.reduceAdd, Int.reduceSub, Int.reduceMul, Int.reduceEq, Int.reduceNeg, reduceCtorEq, resV, resAll, ARes.ev, LV.flat, ite_true, ite_false, exists_eq_left', exists_eq_left, keyOf, implies_true, fillC, capOf]
  by_cases hH : HeapOK x y z cs
  rotate_left
  · simp (disch := omega) only [hH, splice, ↓SXd, SXu, slBounds, ↓sop, ↓aop, ↓reduceIte, LV.cells, AOp.dst, LV.I, LV.B, LV.U, LV.S, LV.nil, Nat.reduceEqDiff, Nat.reduceAdd, Nat.reduceMul, Nat.reduceSub, Nat.reduceLeDiff, Nat.reduceBEq, Nat.reduceDiv, Nat.reduceMod, Int.reduceToNat, Int.reduceLT, Int.reduceLE, Int.reduceAdd, Int.reduceSub, Int.reduceMul, Int.reduceEq, Int.reduceNeg, reduceCtorEq, resV, resAll, ARes.ev, LV.flat, ite_true, ite_false, exists_eq_left', exists_eq_left, keyOf, implies_true, fillC, capOf]
    exact heapX_no (if_neg fun e => hH e.1) rfl (Pre.app _ _)
  simp (disch := omega) only [hH, ↓SXd, SXu, slBounds, ↓sop, ↓aop, ↓reduceIte, LV.cells, AOp.dst, LV.I, LV.B, LV.U, LV.S, LV.nil, Nat.reduceEqDiff, Nat.reduceAdd, Nat.reduceMul, Nat.reduceSub, Nat.reduceLeDiff, Nat.reduceBEq, Nat.reduceDiv, Nat.reduceMod, Int.reduceToNat, Int.reduceLT, Int.reduceLE, Int.reduceAdd, Int.reduceSub, Int.reduceMul, Int.reduceEq, Int.reduceNeg, reduceCtorEq, resV, resAll, ARes.ev, LV.flat, ite_true, ite_false, exists_eq_left', exists_eq_left, keyOf, implies_true, fillC, capOf]
  refine callK_of (h_l1In) ?_
  simp (disch := omega) only [↓SXd, SXu, slBounds, ↓sop, ↓aop, ↓reduceIte, LV.cells, AOp.dst, LV.I, LV.B, LV.U, LV.S, LV.nil, Nat.reduceEqDiff, Nat.reduceAdd, Nat.reduceMul, Nat.reduceSub, Nat.reduceLeDiff, Nat.reduceBEq, Nat.reduceDiv, Nat.reduceMod, Int.reduceToNat, Int.reduceLT, Int.reduceLE, Int.reduceAdd, Int.reduceSub, Int.reduceMul, Int.reduceEq, Int.reduceNeg, reduceCtorEq, resV, resAll, ARes.ev, LV.flat, ite_true, ite_false, exists_eq_left', exists_eq_left, keyOf, implies_true, fillC, capOf]
  by_cases hd : 0 ≤ a ∧ a ≤ 2
  rotate_left
  · simp (disch := omega) only [hd, splice, ↓SXd, SXu, slBounds, ↓sop, ↓aop, ↓reduceIte, LV.cells, AOp.dst, LV.I, LV.B, LV.U, LV.S, LV.nil, Nat.reduceEqDiff, Nat.reduceAdd, Nat.reduceMul, Nat.reduceSub, Nat.reduceLeDiff, Nat.reduceBEq, Nat.reduceDiv, Nat.reduceMod, Int.reduceToNat, Int.reduceLT, Int.reduceLE, Int.reduceAdd, Int.reduceSub, Int.reduceMul, Int.reduceEq, Int.reduceNeg, reduceCtorEq, resV, resAll, ARes.ev, LV.flat, ite_true, ite_false, exists_eq_left', exists_eq_left, keyOf, implies_true, fillC, capOf]
    exact heapX_no (if_neg fun e => hd (dir_in.1 e.2.1)) rfl (Pre.app _ _)
  simp (disch := omega) only [hd, ↓SXd, SXu, slBounds, ↓sop, ↓aop, ↓reduceIte, LV.cells, AOp.dst, LV.I, LV.B, LV.U, LV.S, LV.nil, Nat.reduceEqDiff, Nat.reduceAdd, Nat.reduceMul, Nat.reduceSub, Nat.reduceLeDiff, Nat.reduceBEq, Nat.reduceDiv, Nat.reduceMod, Int.reduceToNat, Int.reduceLT, Int.reduceLE, Int.reduceAdd, Int.reduceSub, Int.reduceMul, Int.reduceEq, Int.reduceNeg, reduceCtorEq, resV, resAll, ARes.ev, LV.flat, ite_true, ite_false, exists_eq_left', exists_eq_left, keyOf, implies_true, fillC, capOf]
  refine callK_of (h_l1In) ?_
  simp (disch := omega) only [↓SXd, SXu, slBounds, ↓sop, ↓aop, ↓reduceIte, LV.cells, AOp.dst, LV.I, LV.B, LV.U, LV.S, LV.nil, Nat.reduceEqDiff, Nat.reduceAdd, Nat.reduceMul, Nat.reduceSub, Nat.reduceLeDiff, Nat.reduceBEq, Nat.reduceDiv, Nat.reduceMod, Int.reduceToNat, Int.reduceLT, Int.reduceLE, Int.reduceAdd, Int.reduceSub, Int.reduceMul, Int.reduceEq, Int.reduceNeg, reduceCtorEq, resV, resAll, ARes.ev, LV.flat, ite_true, ite_false, exists_eq_left', exists_eq_left, keyOf, implies_true, fillC, capOf]
  by_cases he : 0 ≤ b ∧ b ≤ 2
  rotate_left
  · simp (disch := omega) only [he, splice, ↓SXd, SXu, slBounds, ↓sop, ↓aop, ↓reduceIte, LV.cells, AOp.dst, LV.I, LV.B, LV.U, LV.S, LV.nil, Nat.reduceEqDiff, Nat.reduceAdd, Nat.reduceMul, Nat.reduceSub, Nat.reduceLeDiff, Nat.reduceBEq, Nat.reduceDiv, Nat.reduceMod, Int.reduceToNat, Int.reduceLT, Int.reduceLE, Int.reduceAdd, Int.reduceSub, Int.reduceMul, Int.reduceEq, Int.reduceNeg, reduceCtorEq, resV, resAll, ARes.ev, LV.flat, ite_true, ite_false, exists_eq_left', exists_eq_left, keyOf, implies_true, fillC, capOf]
    exact heapX_no (if_neg fun e => he (dir_in.1 e.2.2)) rfl (Pre.app _ _)
  simp (disch := omega) only [he, ↓SXd, SXu, slBounds, ↓sop, ↓aop, ↓reduceIte, LV.cells, AOp.dst, LV.I, LV.B, LV.U, LV.S, LV.nil, Nat.reduceEqDiff, Nat.reduceAdd, Nat.reduceMul, Nat.reduceSub, Nat.reduceLeDiff, Nat.reduceBEq, Nat.reduceDiv, Nat.reduceMod, Int.reduceToNat, Int.reduceLT, Int.reduceLE, Int.reduceAdd, Int.reduceSub, Int.reduceMul, Int.reduceEq, Int.reduceNeg, reduceCtorEq, resV, resAll, ARes.ev, LV.flat, ite_true, ite_false, exists_eq_left', exists_eq_left, keyOf, implies_true, fillC, capOf]
  have hA := dir_in.2 hd
  have hB := dir_in.2 he
  have hif : swpOf x y z cs a b = some (swX a b x y z cs) := if_pos ⟨hH, hA, hB⟩
  have hsw := h_l2Swapped (a := a) (b := b) (M := M ++ [some (.row [.I x, .I y, .I z, .ref t 0 cs.length] true 0), some (.row [.I 0, .I 0, .I 0, .nil] true 0)]) h.app hH hA hB
  rw [hif]
  generalize swX a b x y z cs = g at hsw ⊢
  refine callR_of hsw ?_
  rintro _ N ⟨⟨u, rfl, hu, hul⟩, hp⟩
  rw [List.length_append] at hul
  simp only [List.length_cons, List.length_nil] at hul
  simp (disch := omega) only [↓SXd, SXu, slBounds, ↓sop, ↓aop, ↓reduceIte, LV.cells, AOp.dst, LV.I, LV.B, LV.U, LV.S, LV.nil, Nat.reduceEqDiff, Nat.reduceAdd, Nat.reduceMul, Nat.reduceSub, Nat.reduceLeDiff, Nat.reduceBEq, Nat.reduceDiv, Nat.reduceMod, Int.reduceToNat, Int.reduceLT, Int.reduceLE, Int.reduceAdd, Int.reduceSub, Int.reduceMul, Int.reduceEq, Int.reduceNeg, reduceCtorEq, resV, resAll, ARes.ev, LV.flat, ite_true, ite_false, exists_eq_left', exists_eq_left, keyOf, implies_true, fillC, capOf]
  refine heapX_box (g := g) ((Live.newj (j := 1) rfl).pre hp) rfl hu (by omega) (by omega) ((Pre.app _ _).trans hp) fun N' e1 e2 e3 => ?_
  simp (disch := omega) only [e1.cells, ↓SXd, SXu, slBounds, ↓sop, ↓aop, ↓reduceIte, LV.cells, AOp.dst, LV.I, LV.B, LV.U, LV.S, LV.nil, Nat.reduceEqDiff, Nat.reduceAdd, Nat.reduceMul, Nat.reduceSub, Nat.reduceLeDiff, Nat.reduceBEq, Nat.reduceDiv, Nat.reduceMod, Int.reduceToNat, Int.reduceLT, Int.reduceLE, Int.reduceAdd, Int.reduceSub, Int.reduceMul, Int.reduceEq, Int.reduceNeg, reduceCtorEq, resV, resAll, ARes.ev, LV.flat, ite_true, ite_false, exists_eq_left', exists_eq_left, keyOf, implies_true, fillC, capOf]
  exact .inl ⟨e2, e3⟩
end
end Go.Ab

/- The abstract code of some functions (written by a program of mine from the translation, by way of prepF). -/
namespace Go.Ab.C
open Go.Ab
def impl_areAlike : AFn :=
  ⟨2, 18, [.tmp 4],
    .seq (.ops [(none, .box 2 (.t 0)),
       (none, .box 3 (.t 1)),
       (none, .mv 4 (.c (.B false)))])
    (.seq (.draw [⟨(none, .loadN 5 4 (.t 2)), [], []⟩,
        ⟨(none, .call (some 6) F.impl_IsHeap [(.t 5)]), [], []⟩,
        ⟨(none, .mv 7 (.t 6)), [], []⟩,
        ⟨(some (7, true), .loadN 8 4 (.t 3)), [], []⟩,
        ⟨(some (7, true), .call (some 9) F.impl_IsHeap [(.t 8)]), [], []⟩,
        ⟨(none, .pick 10 (.t 7) (.t 9) (.c (.B false))), [], []⟩,
        ⟨(none, .mv 11 (.t 10)), [], []⟩,
        ⟨(some (11, true), .loadN 12 4 (.t 2)), [], []⟩,
        ⟨(some (11, true), .loadN 14 4 (.t 3)), [], []⟩,
        ⟨(some (11, true), .call (some 13) F.impl_Heap_box [(.t 12)]), [], [8]⟩,
        ⟨(some (11, true), .call (some 15) F.impl_Heap_box [(.t 14)]), [], []⟩,
        ⟨(some (11, true), .eqs 16 false 3 (.t 13) (.t 15)), [], []⟩,
        ⟨(none, .pick 17 (.t 11) (.t 16) (.c (.B false))), [], []⟩,
        ⟨(none, .mv 4 (.t 17)), [], []⟩])
     (.ret))⟩
def impl_JoinHeaps : AFn :=
  ⟨2, 19, [.cellN 4 4, .tmp 5],
    .seq (.ops [(none, .box 2 (.t 0)),
       (none, .box 3 (.t 1)),
       (none, .alloc 4 [(.I 0), (.I 0), (.I 0), .nil]),
       (none, .mv 5 (.c (.B false)))])
    (.seq (.seq (.ops [(none, .loadN 6 4 (.t 2)),
         (none, .loadN 7 4 (.t 3)),
         (none, .call (some 8) F.impl_areAlike [(.t 6), (.t 7)]),
         (none, .un 9 .not (.t 8))])
      (.cond (.t 9) (.seq (.ops [(none, .build 10 [(.I 0), (.I 0), (.I 0), .nil] []),
           (none, .store 4 (.t 4) (.t 10)),
           (none, .mv 5 (.c (.B false)))])
        (.ret))
       (.skip)))
     (.seq (.draw [⟨(none, .loadN 11 4 (.t 2)), [], []⟩,
         ⟨(none, .loadN 13 4 (.t 2)), [], []⟩,
         ⟨(none, .loadN 15 4 (.t 3)), [], []⟩,
         ⟨(none, .call (some 12) F.impl_Heap_box [(.t 11)]), [], [1, 2]⟩,
         ⟨(none, .call (some 14) F.impl_Heap_cubes [(.t 13)]), [], [2]⟩,
         ⟨(none, .call (some 16) F.impl_Heap_cubes [(.t 15)]), [], []⟩,
         ⟨(none, .bin 17 .or (.t 14) (.t 16)), [], []⟩,
         ⟨(none, .call (some 18) F.impl_box_heap [(.t 12), (.t 17)]), [], []⟩,
         ⟨(none, .store 4 (.t 4) (.t 18)), [], []⟩,
         ⟨(none, .mv 5 (.c (.B true))), [], []⟩])
      (.ret)))⟩
def impl_CommonCubes : AFn :=
  ⟨2, 19, [.cellN 4 4, .tmp 5],
    .seq (.ops [(none, .box 2 (.t 0)),
       (none, .box 3 (.t 1)),
       (none, .alloc 4 [(.I 0), (.I 0), (.I 0), .nil]),
       (none, .mv 5 (.c (.B false)))])
    (.seq (.seq (.ops [(none, .loadN 6 4 (.t 2)),
         (none, .loadN 7 4 (.t 3)),
         (none, .call (some 8) F.impl_areAlike [(.t 6), (.t 7)]),
         (none, .un 9 .not (.t 8))])
      (.cond (.t 9) (.seq (.ops [(none, .build 10 [(.I 0), (.I 0), (.I 0), .nil] []),
           (none, .store 4 (.t 4) (.t 10)),
           (none, .mv 5 (.c (.B false)))])
        (.ret))
       (.skip)))
     (.seq (.draw [⟨(none, .loadN 11 4 (.t 2)), [], []⟩,
         ⟨(none, .loadN 13 4 (.t 2)), [], []⟩,
         ⟨(none, .loadN 15 4 (.t 3)), [], []⟩,
         ⟨(none, .call (some 12) F.impl_Heap_box [(.t 11)]), [], [1, 2]⟩,
         ⟨(none, .call (some 14) F.impl_Heap_cubes [(.t 13)]), [], [2]⟩,
         ⟨(none, .call (some 16) F.impl_Heap_cubes [(.t 15)]), [], []⟩,
         ⟨(none, .bin 17 .and (.t 14) (.t 16)), [], []⟩,
         ⟨(none, .call (some 18) F.impl_box_heap [(.t 12), (.t 17)]), [], []⟩,
         ⟨(none, .store 4 (.t 4) (.t 18)), [], []⟩,
         ⟨(none, .mv 5 (.c (.B true))), [], []⟩])
      (.ret)))⟩
def impl_ShiftHeap : AFn :=
  ⟨2, 38, [.cellN 4 4, .tmp 5],
    .seq (.ops [(none, .box 2 (.t 0)),
       (none, .box 3 (.t 1)),
       (none, .alloc 4 [(.I 0), (.I 0), (.I 0), .nil]),
       (none, .mv 5 (.c (.B false)))])
    (.seq (.seq (.ops [(none, .loadN 8 4 (.t 2)),
         (none, .call (some 9) F.impl_IsHeap [(.t 8)]),
         (none, .un 10 .not (.t 9)),
         (none, .mv 11 (.t 10)),
         (some (11, false), .slA 12 3 1 (.t 3) none none),
         (some (11, false), .call (some 13) F.impl_allWithin [(.t 12), (.c (.I (-4))), (.c (.I 4))]),
         (some (11, false), .un 14 .not (.t 13)),
         (none, .pick 15 (.t 11) (.c (.B true)) (.t 14))])
      (.cond (.t 15) (.seq (.ops [(none, .build 16 [(.I 0), (.I 0), (.I 0), .nil] []),
           (none, .store 4 (.t 4) (.t 16)),
           (none, .mv 5 (.c (.B false)))])
        (.ret))
       (.skip)))
     (.seq (.seq (.ops [(none, .fieldAddr 17 (.t 2) 3),
          (none, .load1 18 (.t 17)),
          (none, .len 19 (.t 18)),
          (none, .mv 20 (.c (.I 0)))])
       (.block 0 (.loop (.seq (.ops [(none, .bin 21 .lss (.t 20) (.t 19))])
          (.seq (.cond (.t 21) (.skip)
            (.exit 0))
           (.seq (.block 1 (.seq (.ops [(none, .idxS 22 3 (.t 18) (.t 20)),
                 (none, .loadN 23 3 (.t 22)),
                 (none, .alloc 7 [(.I 0), (.I 0), (.I 0)]),
                 (none, .store 3 (.t 7) (.t 23))])
              (.seq (.draw [⟨(none, .loadN 24 4 (.t 2)), [], []⟩,
                  ⟨(none, .loadN 26 3 (.t 7)), [], []⟩,
                  ⟨(none, .loadN 27 3 (.t 3)), [], []⟩,
                  ⟨(none, .call (some 25) F.impl_Heap_box [(.t 24)]), [], [1, 2]⟩,
                  ⟨(none, .call (some 28) F.impl_added [(.t 26), (.t 27)]), [], []⟩,
                  ⟨(none, .call (some 29) F.impl_box_has [(.t 25), (.t 28)]), [], []⟩,
                  ⟨(none, .un 30 .not (.t 29)), [], []⟩])
               (.cond (.t 30) (.seq (.ops [(none, .build 31 [(.I 0), (.I 0), (.I 0), .nil] []),
                    (none, .store 4 (.t 4) (.t 31)),
                    (none, .mv 5 (.c (.B false)))])
                 (.ret))
                (.skip)))))
            (.ops [(none, .bin 32 .add (.t 20) (.c (.I 1))),
               (none, .mv 20 (.t 32))])))))))
      (.seq (.draw [⟨(none, .loadN 33 4 (.t 2)), [], []⟩,
          ⟨(none, .loadN 34 4 (.t 2)), [], []⟩,
          ⟨(none, .mkf 36 F.impl_ShiftHeap_1 [(.t 3)]), [], []⟩,
          ⟨(none, .call (some 35) F.impl_Heap_box [(.t 34)]), [], [0, 2]⟩,
          ⟨(none, .call (some 37) F.impl_Heap_moved [(.t 33), (.t 35), (.t 36)]), [], []⟩,
          ⟨(none, .store 4 (.t 4) (.t 37)), [], []⟩,
          ⟨(none, .mv 5 (.c (.B true))), [], []⟩])
       (.ret))))⟩
def impl_ShiftHeap_1 : AFn :=
  ⟨2, 7, [.cellN 3 3],
    .seq (.ops [(none, .box 2 (.t 0)),
       (none, .alloc 3 [(.I 0), (.I 0), (.I 0)])])
    (.seq (.ops [(none, .loadN 4 3 (.t 2)),
        (none, .loadN 5 3 (.t 1)),
        (none, .call (some 6) F.impl_added [(.t 4), (.t 5)]),
        (none, .store 3 (.t 3) (.t 6))])
     (.ret))⟩
def impl_WidenHeap : AFn :=
  ⟨4, 42, [.cellN 8 4, .tmp 9],
    .seq (.ops [(none, .box 4 (.t 0)),
       (none, .alloc 8 [(.I 0), (.I 0), (.I 0), .nil]),
       (none, .mv 9 (.c (.B false)))])
    (.seq (.ops [(none, .mv 13 (.t 1)),
        (none, .mv 14 (.t 2)),
        (none, .mv 15 (.t 3)),
        (none, .build 16 [(.I 0), (.I 0), (.I 0)] [(0, 1, (.t 13)), (1, 1, (.t 14)), (2, 1, (.t 15))]),
        (none, .alloc 10 [(.I 0), (.I 0), (.I 0)]),
        (none, .store 3 (.t 10) (.t 16))])
     (.seq (.seq (.ops [(none, .loadN 17 4 (.t 4)),
          (none, .call (some 18) F.impl_IsHeap [(.t 17)]),
          (none, .un 19 .not (.t 18)),
          (none, .mv 20 (.t 19)),
          (some (20, false), .loadN 21 3 (.t 10)),
          (some (20, false), .call (some 22) F.impl_box_valid [(.t 21)]),
          (some (20, false), .un 23 .not (.t 22)),
          (none, .pick 24 (.t 20) (.c (.B true)) (.t 23))])
       (.cond (.t 24) (.seq (.ops [(none, .build 25 [(.I 0), (.I 0), (.I 0), .nil] []),
            (none, .store 4 (.t 8) (.t 25)),
            (none, .mv 9 (.c (.B false)))])
         (.ret))
        (.skip)))
      (.seq (.seq (.ops [(none, .fieldAddr 26 (.t 4) 3),
           (none, .load1 27 (.t 26)),
           (none, .len 28 (.t 27)),
           (none, .mv 29 (.c (.I 0)))])
        (.block 0 (.loop (.seq (.ops [(none, .bin 30 .lss (.t 29) (.t 28))])
           (.seq (.cond (.t 30) (.skip)
             (.exit 0))
            (.seq (.block 1 (.seq (.ops [(none, .idxS 31 3 (.t 27) (.t 29)),
                  (none, .loadN 32 3 (.t 31)),
                  (none, .alloc 12 [(.I 0), (.I 0), (.I 0)]),
                  (none, .store 3 (.t 12) (.t 32))])
               (.seq (.ops [(none, .loadN 33 3 (.t 10)),
                   (none, .loadN 34 3 (.t 12)),
                   (none, .call (some 35) F.impl_box_has [(.t 33), (.t 34)]),
                   (none, .un 36 .not (.t 35))])
                (.cond (.t 36) (.seq (.ops [(none, .build 37 [(.I 0), (.I 0), (.I 0), .nil] []),
                     (none, .store 4 (.t 8) (.t 37)),
                     (none, .mv 9 (.c (.B false)))])
                  (.ret))
                 (.skip)))))
             (.ops [(none, .bin 38 .add (.t 29) (.c (.I 1))),
                (none, .mv 29 (.t 38))])))))))
       (.seq (.ops [(none, .loadN 39 4 (.t 4)),
           (none, .loadN 40 3 (.t 10)),
           (none, .call (some 41) F.impl_Heap_moved [(.t 39), (.t 40), (.c (.clo F.impl_WidenHeap_1 []))]),
           (none, .store 4 (.t 8) (.t 41)),
           (none, .mv 9 (.c (.B true)))])
        (.ret)))))⟩
def impl_WidenHeap_1 : AFn :=
  ⟨1, 4, [.cellN 2 3],
    .seq (.ops [(none, .box 1 (.t 0)),
       (none, .alloc 2 [(.I 0), (.I 0), (.I 0)])])
    (.seq (.ops [(none, .loadN 3 3 (.t 1)),
        (none, .store 3 (.t 2) (.t 3))])
     (.ret))⟩
def impl_SwapSides : AFn :=
  ⟨3, 39, [.cellN 6 4, .tmp 7],
    .seq (.ops [(none, .box 3 (.t 0)),
       (none, .box 4 (.t 1)),
       (none, .box 5 (.t 2)),
       (none, .alloc 6 [(.I 0), (.I 0), (.I 0), .nil]),
       (none, .mv 7 (.c (.B false)))])
    (.seq (.seq (.ops [(none, .loadN 9 4 (.t 3)),
         (none, .call (some 10) F.impl_IsHeap [(.t 9)]),
         (none, .un 11 .not (.t 10)),
         (none, .mv 12 (.t 11)),
         (some (12, false), .load1 13 (.t 4)),
         (some (12, false), .call (some 14) F.impl_isDirection [(.t 13)]),
         (some (12, false), .un 15 .not (.t 14)),
         (none, .pick 16 (.t 12) (.c (.B true)) (.t 15)),
         (none, .mv 17 (.t 16)),
         (some (17, false), .load1 18 (.t 5)),
         (some (17, false), .call (some 19) F.impl_isDirection [(.t 18)]),
         (some (17, false), .un 20 .not (.t 19)),
         (none, .pick 21 (.t 17) (.c (.B true)) (.t 20))])
      (.cond (.t 21) (.seq (.ops [(none, .build 22 [(.I 0), (.I 0), (.I 0), .nil] []),
           (none, .store 4 (.t 6) (.t 22)),
           (none, .mv 7 (.c (.B false)))])
        (.ret))
       (.skip)))
     (.seq (.ops [(none, .loadN 23 4 (.t 3)),
         (none, .call (some 24) F.impl_Heap_box [(.t 23)]),
         (none, .alloc 8 [(.I 0), (.I 0), (.I 0)]),
         (none, .store 3 (.t 8) (.t 24))])
      (.seq (.draw [⟨(none, .load1 25 (.t 4)), [], []⟩,
          ⟨(none, .load1 26 (.t 5)), [], []⟩,
          ⟨(none, .load1 27 (.t 5)), [], []⟩,
          ⟨(none, .idxA 28 3 1 (.t 8) (.t 27)), [], []⟩,
          ⟨(none, .load1 29 (.t 28)), [], []⟩,
          ⟨(none, .load1 30 (.t 4)), [], []⟩,
          ⟨(none, .idxA 31 3 1 (.t 8) (.t 30)), [], []⟩,
          ⟨(none, .load1 32 (.t 31)), [], []⟩,
          ⟨(none, .idxA 33 3 1 (.t 8) (.t 25)), [], []⟩,
          ⟨(none, .store 1 (.t 33) (.t 29)), [], [1]⟩,
          ⟨(none, .idxA 34 3 1 (.t 8) (.t 26)), [], []⟩,
          ⟨(none, .store 1 (.t 34) (.t 32)), [], []⟩])
       (.seq (.ops [(none, .loadN 35 4 (.t 3)),
           (none, .loadN 36 3 (.t 8)),
           (none, .mkf 37 F.impl_SwapSides_1 [(.t 5), (.t 4)]),
           (none, .call (some 38) F.impl_Heap_moved [(.t 35), (.t 36), (.t 37)]),
           (none, .store 4 (.t 6) (.t 38)),
           (none, .mv 7 (.c (.B true)))])
        (.ret)))))⟩
def impl_SwapSides_1 : AFn :=
  ⟨3, 16, [.cellN 4 3],
    .seq (.ops [(none, .box 3 (.t 0)),
       (none, .alloc 4 [(.I 0), (.I 0), (.I 0)])])
    (.seq (.draw [⟨(none, .load1 5 (.t 2)), [], []⟩,
        ⟨(none, .load1 6 (.t 1)), [], []⟩,
        ⟨(none, .load1 7 (.t 1)), [], []⟩,
        ⟨(none, .idxA 8 3 1 (.t 3) (.t 7)), [], []⟩,
        ⟨(none, .load1 9 (.t 8)), [], []⟩,
        ⟨(none, .load1 10 (.t 2)), [], []⟩,
        ⟨(none, .idxA 11 3 1 (.t 3) (.t 10)), [], []⟩,
        ⟨(none, .load1 12 (.t 11)), [], []⟩,
        ⟨(none, .idxA 13 3 1 (.t 3) (.t 5)), [], []⟩,
        ⟨(none, .store 1 (.t 13) (.t 9)), [], [1]⟩,
        ⟨(none, .idxA 14 3 1 (.t 3) (.t 6)), [], []⟩,
        ⟨(none, .store 1 (.t 14) (.t 12)), [], []⟩])
     (.seq (.ops [(none, .loadN 15 3 (.t 3)),
         (none, .store 3 (.t 4) (.t 15))])
      (.ret)))⟩
end Go.Ab.C

/- That the program has this code. -/
namespace Go.Ab.K
open Go Go.Ab
theorem impl_areAlike : prepF Go.Proofs.Try.prog F.impl_areAlike = some C.impl_areAlike := by kernel_rfl
theorem impl_JoinHeaps : prepF Go.Proofs.Try.prog F.impl_JoinHeaps = some C.impl_JoinHeaps := by kernel_rfl
theorem impl_CommonCubes : prepF Go.Proofs.Try.prog F.impl_CommonCubes = some C.impl_CommonCubes := by kernel_rfl
theorem impl_ShiftHeap : prepF Go.Proofs.Try.prog F.impl_ShiftHeap = some C.impl_ShiftHeap := by kernel_rfl
theorem impl_ShiftHeap_1 : prepF Go.Proofs.Try.prog F.impl_ShiftHeap_1 = some C.impl_ShiftHeap_1 := by kernel_rfl
theorem impl_WidenHeap : prepF Go.Proofs.Try.prog F.impl_WidenHeap = some C.impl_WidenHeap := by kernel_rfl
theorem impl_WidenHeap_1 : prepF Go.Proofs.Try.prog F.impl_WidenHeap_1 = some C.impl_WidenHeap_1 := by kernel_rfl
theorem impl_SwapSides : prepF Go.Proofs.Try.prog F.impl_SwapSides = some C.impl_SwapSides := by kernel_rfl
theorem impl_SwapSides_1 : prepF Go.Proofs.Try.prog F.impl_SwapSides_1 = some C.impl_SwapSides_1 := by kernel_rfl
end Go.Ab.K
