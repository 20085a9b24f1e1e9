/- Parts of the proof of FnPiecesSaid: C_Jb K_Jb Jb Jc Je LFnPieces Re. -/
import Derived.Test.YthgljdbfkojpeaaA3
import Derived.Test.YthgljdbfkojpeaaA4
import Derived.Test.YthgljdbfkojpeaaProg
import Derived.KernelRfl
import Derived.Test.YthgljdbfkojpeaaA9
import Derived.Test.YthgljdbfkojpeaaA8
import Derived.Test.YthgljdbfkojpeaaA7
import Derived.Test.YthgljdbfkojpeaaA6
set_option linter.all false
/- The abstract code of some functions (written by a program of mine from the translation, by way of prepF). -/
namespace Go.Ab.C
open Go.Ab
def impl_FitsAt : AFn :=
  ⟨3, 26, [.tmp 6, .tmp 7],
    .seq (.ops [(none, .box 3 (.t 0)),
       (none, .box 5 (.t 2)),
       (none, .mv 6 (.c (.B false))),
       (none, .mv 7 (.c (.B false)))])
    (.seq (.seq (.ops [(none, .loadN 10 4 (.t 3)),
         (none, .mv 11 (.t 1)),
         (none, .buildSl 12 1 1 [.nil] [(0, 1, (.t 11))]),
         (none, .call (some 13) F.impl_isPacked [(.t 10), (.t 12)]),
         (none, .un 14 .not (.t 13))])
      (.cond (.t 14) (.seq (.ops [(none, .mv 6 (.c (.B false))),
           (none, .mv 7 (.c (.B false)))])
        (.ret))
       (.skip)))
     (.seq (.draw [⟨(none, .loadN 16 4 (.t 3)), [], []⟩,
         ⟨(none, .loadN 18 4 (.t 3)), [], []⟩,
         ⟨(none, .mv 20 (.t 1)), [], []⟩,
         ⟨(none, .loadN 21 3 (.t 5)), [], []⟩,
         ⟨(none, .call (some 17) F.impl_Heap_box [(.t 16)]), [], [1, 2, 3]⟩,
         ⟨(none, .call (some 19) F.impl_Heap_free [(.t 18)]), [], [2, 3]⟩,
         ⟨(none, .call (some 22) F.impl_box_placed [(.t 17), (.t 19), (.t 20), (.t 21)]), [], []⟩,
         ⟨(none, .mv 15 (.t 22)), [], []⟩,
         ⟨(none, .extract 23 (.t 15) 0), [], []⟩,
         ⟨(none, .extract 24 (.t 15) 1), [], []⟩,
         ⟨(none, .mv 8 (.t 23)), [], []⟩,
         ⟨(none, .mv 9 (.t 24)), [], []⟩])
      (.seq (.ops [(none, .mv 25 (.t 9)),
          (none, .mv 6 (.t 25)),
          (none, .mv 7 (.c (.B true)))])
       (.ret))))⟩
def impl_PlacesFor : AFn :=
  ⟨2, 19, [.tmp 4, .tmp 5],
    .seq (.ops [(none, .box 2 (.t 0)),
       (none, .box 3 (.t 1)),
       (none, .mv 4 (.c .nil)),
       (none, .mv 5 (.c (.B false)))])
    (.seq (.seq (.ops [(none, .loadN 7 4 (.t 2)),
         (none, .load1 8 (.t 3)),
         (none, .buildSl 9 1 1 [.nil] [(0, 1, (.t 8))]),
         (none, .call (some 10) F.impl_isPacked [(.t 7), (.t 9)]),
         (none, .un 11 .not (.t 10))])
      (.cond (.t 11) (.seq (.ops [(none, .mv 4 (.c .nil)),
           (none, .mv 5 (.c (.B false)))])
        (.ret))
       (.skip)))
     (.seq (.ops [(none, .loadN 12 4 (.t 2)),
         (none, .call (some 13) F.impl_Heap_box [(.t 12)]),
         (none, .alloc 6 [(.I 0), (.I 0), (.I 0)]),
         (none, .store 3 (.t 6) (.t 13))])
      (.seq (.draw [⟨(none, .loadN 14 3 (.t 6)), [], []⟩,
          ⟨(none, .loadN 15 3 (.t 6)), [], []⟩,
          ⟨(none, .mkf 16 F.impl_PlacesFor_1 [(.t 6), (.t 2), (.t 3)]), [], []⟩,
          ⟨(none, .call (some 17) F.impl_box_those [(.t 15), (.t 16)]), [], [0]⟩,
          ⟨(none, .call (some 18) F.impl_box_list [(.t 14), (.t 17)]), [], []⟩,
          ⟨(none, .mv 4 (.t 18)), [], []⟩,
          ⟨(none, .mv 5 (.c (.B true))), [], []⟩])
       (.ret))))⟩
def impl_PlacesFor_1 : AFn :=
  ⟨4, 18, [.tmp 5],
    .seq (.ops [(none, .box 4 (.t 0)),
       (none, .mv 5 (.c (.B false)))])
    (.seq (.draw [⟨(none, .loadN 9 3 (.t 1)), [], []⟩,
        ⟨(none, .loadN 10 4 (.t 2)), [], []⟩,
        ⟨(none, .load1 12 (.t 3)), [], []⟩,
        ⟨(none, .loadN 13 3 (.t 4)), [], []⟩,
        ⟨(none, .call (some 11) F.impl_Heap_free [(.t 10)]), [], [0, 2, 3]⟩,
        ⟨(none, .call (some 14) F.impl_box_placed [(.t 9), (.t 11), (.t 12), (.t 13)]), [], []⟩,
        ⟨(none, .mv 8 (.t 14)), [], []⟩,
        ⟨(none, .extract 15 (.t 8) 0), [], []⟩,
        ⟨(none, .extract 16 (.t 8) 1), [], []⟩,
        ⟨(none, .mv 6 (.t 15)), [], []⟩,
        ⟨(none, .mv 7 (.t 16)), [], []⟩])
     (.seq (.ops [(none, .mv 17 (.t 7)),
         (none, .mv 5 (.t 17))])
      (.ret)))⟩
def impl_BoxPiece : AFn :=
  ⟨3, 25, [.tmp 6, .tmp 7],
    .seq (.ops [(none, .mv 6 (.c .nil)),
       (none, .mv 7 (.c (.B false)))])
    (.seq (.ops [(none, .mv 9 (.t 0)),
        (none, .mv 10 (.t 1)),
        (none, .mv 11 (.t 2)),
        (none, .build 12 [(.I 0), (.I 0), (.I 0)] [(0, 1, (.t 9)), (1, 1, (.t 10)), (2, 1, (.t 11))]),
        (none, .alloc 8 [(.I 0), (.I 0), (.I 0)]),
        (none, .store 3 (.t 8) (.t 12))])
     (.seq (.seq (.ops [(none, .loadN 13 3 (.t 8)),
          (none, .call (some 14) F.impl_box_valid [(.t 13)]),
          (none, .un 15 .not (.t 14)),
          (none, .mv 16 (.t 15)),
          (some (16, false), .loadN 17 3 (.t 8)),
          (some (16, false), .call (some 18) F.impl_box_size [(.t 17)]),
          (some (16, false), .bin 19 .gtr (.t 18) (.c (.I 5))),
          (none, .pick 20 (.t 16) (.c (.B true)) (.t 19))])
       (.cond (.t 20) (.seq (.ops [(none, .mv 6 (.c .nil)),
            (none, .mv 7 (.c (.B false)))])
         (.ret))
        (.skip)))
      (.seq (.draw [⟨(none, .loadN 21 3 (.t 8)), [], []⟩,
          ⟨(none, .loadN 22 3 (.t 8)), [], []⟩,
          ⟨(none, .call (some 23) F.impl_box_full [(.t 22)]), [], [0]⟩,
          ⟨(none, .call (some 24) F.impl_box_list [(.t 21), (.t 23)]), [], []⟩,
          ⟨(none, .mv 6 (.t 24)), [], []⟩,
          ⟨(none, .mv 7 (.c (.B true))), [], []⟩])
       (.ret))))⟩
def impl_PieceParity : AFn :=
  ⟨1, 14, [.tmp 2, .tmp 3],
    .seq (.ops [(none, .mv 2 (.c (.I 0))),
       (none, .mv 3 (.c (.B false)))])
    (.seq (.seq (.ops [(none, .mv 5 (.t 0)),
         (none, .call (some 6) F.impl_IsPiece [(.t 5)]),
         (none, .un 7 .not (.t 6))])
      (.cond (.t 7) (.seq (.ops [(none, .mv 2 (.c (.I 0))),
           (none, .mv 3 (.c (.B false)))])
        (.ret))
       (.skip)))
     (.seq (.ops [(none, .mv 8 (.t 0)),
         (none, .call (some 9) F.impl_parity [(.t 8)]),
         (none, .mv 4 (.t 9))])
      (.seq (.ops [(none, .mv 10 (.t 4)),
          (none, .mv 11 (.t 4)),
          (none, .un 12 .neg (.t 11)),
          (none, .mm 13 true [(.t 10), (.t 12)]),
          (none, .mv 2 (.t 13)),
          (none, .mv 3 (.c (.B true)))])
       (.ret))))⟩
def impl_FreeParity : AFn :=
  ⟨1, 13, [.tmp 2, .tmp 3],
    .seq (.ops [(none, .box 1 (.t 0)),
       (none, .mv 2 (.c (.I 0))),
       (none, .mv 3 (.c (.B false)))])
    (.seq (.seq (.ops [(none, .loadN 4 4 (.t 1)),
         (none, .call (some 5) F.impl_IsHeap [(.t 4)]),
         (none, .un 6 .not (.t 5))])
      (.cond (.t 6) (.seq (.ops [(none, .mv 2 (.c (.I 0))),
           (none, .mv 3 (.c (.B false)))])
        (.ret))
       (.skip)))
     (.seq (.draw [⟨(none, .loadN 7 4 (.t 1)), [], []⟩,
         ⟨(none, .loadN 9 4 (.t 1)), [], []⟩,
         ⟨(none, .call (some 8) F.impl_Heap_box [(.t 7)]), [], [1]⟩,
         ⟨(none, .call (some 10) F.impl_Heap_free [(.t 9)]), [], []⟩,
         ⟨(none, .call (some 11) F.impl_box_list [(.t 8), (.t 10)]), [], []⟩,
         ⟨(none, .call (some 12) F.impl_parity [(.t 11)]), [], []⟩,
         ⟨(none, .mv 2 (.t 12)), [], []⟩,
         ⟨(none, .mv 3 (.c (.B true))), [], []⟩])
      (.ret)))⟩
def impl_isCell : AFn :=
  ⟨2, 13, [.tmp 4],
    .seq (.ops [(none, .box 2 (.t 0)),
       (none, .box 3 (.t 1)),
       (none, .mv 4 (.c (.B false)))])
    (.seq (.draw [⟨(none, .loadN 5 4 (.t 2)), [], []⟩,
        ⟨(none, .call (some 6) F.impl_IsHeap [(.t 5)]), [], []⟩,
        ⟨(none, .mv 7 (.t 6)), [], []⟩,
        ⟨(some (7, true), .loadN 8 4 (.t 2)), [], []⟩,
        ⟨(some (7, true), .loadN 10 3 (.t 3)), [], []⟩,
        ⟨(some (7, true), .call (some 9) F.impl_Heap_box [(.t 8)]), [], [4]⟩,
        ⟨(some (7, true), .call (some 11) F.impl_box_has [(.t 9), (.t 10)]), [], []⟩,
        ⟨(none, .pick 12 (.t 7) (.t 11) (.c (.B false))), [], []⟩,
        ⟨(none, .mv 4 (.t 12)), [], []⟩])
     (.ret))⟩
def impl_HasCube : AFn :=
  ⟨2, 13, [.tmp 4, .tmp 5],
    .seq (.ops [(none, .box 2 (.t 0)),
       (none, .box 3 (.t 1)),
       (none, .mv 4 (.c (.B false))),
       (none, .mv 5 (.c (.B false)))])
    (.seq (.seq (.ops [(none, .loadN 6 4 (.t 2)),
         (none, .loadN 7 3 (.t 3)),
         (none, .call (some 8) F.impl_isCell [(.t 6), (.t 7)]),
         (none, .un 9 .not (.t 8))])
      (.cond (.t 9) (.seq (.ops [(none, .mv 4 (.c (.B false))),
           (none, .mv 5 (.c (.B false)))])
        (.ret))
       (.skip)))
     (.seq (.ops [(none, .loadN 10 4 (.t 2)),
         (none, .loadN 11 3 (.t 3)),
         (none, .call (some 12) F.impl_Heap_hasCube [(.t 10), (.t 11)]),
         (none, .mv 4 (.t 12)),
         (none, .mv 5 (.c (.B true)))])
      (.ret)))⟩
def impl_OtherCells : AFn :=
  ⟨1, 17, [.cellN 2 4, .tmp 3],
    .seq (.ops [(none, .box 1 (.t 0)),
       (none, .alloc 2 [(.I 0), (.I 0), (.I 0), .nil]),
       (none, .mv 3 (.c (.B false)))])
    (.seq (.seq (.ops [(none, .loadN 4 4 (.t 1)),
         (none, .call (some 5) F.impl_IsHeap [(.t 4)]),
         (none, .un 6 .not (.t 5))])
      (.cond (.t 6) (.seq (.ops [(none, .build 7 [(.I 0), (.I 0), (.I 0), .nil] []),
           (none, .store 4 (.t 2) (.t 7)),
           (none, .mv 3 (.c (.B false)))])
        (.ret))
       (.skip)))
     (.seq (.draw [⟨(none, .loadN 8 4 (.t 1)), [], []⟩,
         ⟨(none, .loadN 10 4 (.t 1)), [], []⟩,
         ⟨(none, .loadN 13 4 (.t 1)), [], []⟩,
         ⟨(none, .call (some 9) F.impl_Heap_box [(.t 8)]), [], [1, 2]⟩,
         ⟨(none, .call (some 11) F.impl_Heap_box [(.t 10)]), [], [2]⟩,
         ⟨(none, .call (some 12) F.impl_box_full [(.t 11)]), [], [2]⟩,
         ⟨(none, .call (some 14) F.impl_Heap_cubes [(.t 13)]), [], []⟩,
         ⟨(none, .bin 15 .andNot (.t 12) (.t 14)), [], []⟩,
         ⟨(none, .call (some 16) F.impl_box_heap [(.t 9), (.t 15)]), [], []⟩,
         ⟨(none, .store 4 (.t 2) (.t 16)), [], []⟩,
         ⟨(none, .mv 3 (.c (.B true))), [], []⟩])
      (.ret)))⟩
end Go.Ab.C

/- That the program has this code. -/
namespace Go.Ab.K
open Go Go.Ab
theorem impl_FitsAt : prepF Go.Proofs.Try.prog F.impl_FitsAt = some C.impl_FitsAt := by kernel_rfl
theorem impl_PlacesFor : prepF Go.Proofs.Try.prog F.impl_PlacesFor = some C.impl_PlacesFor := by kernel_rfl
theorem impl_PlacesFor_1 : prepF Go.Proofs.Try.prog F.impl_PlacesFor_1 = some C.impl_PlacesFor_1 := by kernel_rfl
theorem impl_BoxPiece : prepF Go.Proofs.Try.prog F.impl_BoxPiece = some C.impl_BoxPiece := by kernel_rfl
theorem impl_PieceParity : prepF Go.Proofs.Try.prog F.impl_PieceParity = some C.impl_PieceParity := by kernel_rfl
theorem impl_FreeParity : prepF Go.Proofs.Try.prog F.impl_FreeParity = some C.impl_FreeParity := by kernel_rfl
theorem impl_isCell : prepF Go.Proofs.Try.prog F.impl_isCell = some C.impl_isCell := by kernel_rfl
theorem impl_HasCube : prepF Go.Proofs.Try.prog F.impl_HasCube = some C.impl_HasCube := by kernel_rfl
theorem impl_OtherCells : prepF Go.Proofs.Try.prog F.impl_OtherCells = some C.impl_OtherCells := by kernel_rfl
end Go.Ab.K

/- Contracts: pieces that fit, places, boxes, parities, other cells: the program's side. -/
namespace Go.Ab
open Go
set_option linter.unusedSimpArgs false
set_option linter.unusedVariables false
set_option maxRecDepth 20000

theorem g_isPacked {x y z : Int} {t o u : Nat} {cs : List Cell} {L : List (List Cell)} {M : Mem} (hP : Pcs M u L) (hL : L.length ≤ 1000000000) (hLs : ∀ l ∈ L, l.length ≤ 1000000000) (h : Tri M t o cs) (hn : cs.length ≤ 1000000000) :
    CallsTo PG F.impl_isPacked [.agg [.I x, .I y, .I z, .ref t o cs.length], .ref u 0 L.length] M (.B (decide (HeapOK x y z cs ∧ PcsOK L))) M := by
  refine calls_run K.impl_isPacked rfl ?_
  simp (disch := omega) only [C.impl_isPacked, ↓SXd, SXu, slBounds, ↓sop, ↓aop, ↓reduceIte, LV.cells, AOp.dst, LV.I, LV.B, LV.U, LV.S, LV.nil, Nat.reduceEqDiff, Nat.reduceAdd, Nat.reduceMul, Nat.reduceSub, Nat.reduceLeDiff, Nat.reduceBEq, Nat.reduceDiv, Nat.reduceMod, Int.reduceToNat, Int.reduceLT, Int.reduceLE, Int.reduceAdd, Int.reduceSub, Int.reduceMul, Int.reduceEq, Int.reduceNeg, reduceCtorEq, resV, resAll, ARes.ev, LV.flat, ite_true, ite_false, exists_eq_left', exists_eq_left, keyOf, implies_true, fillC, capOf]
  refine callK_of (g_IsHeap h.app hn) ?_
  simp (disch := omega) only [↓SXd, SXu, slBounds, ↓sop, ↓aop, ↓reduceIte, LV.cells, AOp.dst, LV.I, LV.B, LV.U, LV.S, LV.nil, Nat.reduceEqDiff, Nat.reduceAdd, Nat.reduceMul, Nat.reduceSub, Nat.reduceLeDiff, Nat.reduceBEq, Nat.reduceDiv, Nat.reduceMod, Int.reduceToNat, Int.reduceLT, Int.reduceLE, Int.reduceAdd, Int.reduceSub, Int.reduceMul, Int.reduceEq, Int.reduceNeg, reduceCtorEq, resV, resAll, ARes.ev, LV.flat, ite_true, ite_false, exists_eq_left', exists_eq_left, keyOf, implies_true, fillC, capOf]
  by_cases hH : HeapOK x y z cs
  · rw [decide_eq_true hH]
    simp (disch := omega) only [↓SXd, SXu, slBounds, ↓sop, ↓aop, ↓reduceIte, LV.cells, AOp.dst, LV.I, LV.B, LV.U, LV.S, LV.nil, Nat.reduceEqDiff, Nat.reduceAdd, Nat.reduceMul, Nat.reduceSub, Nat.reduceLeDiff, Nat.reduceBEq, Nat.reduceDiv, Nat.reduceMod, Int.reduceToNat, Int.reduceLT, Int.reduceLE, Int.reduceAdd, Int.reduceSub, Int.reduceMul, Int.reduceEq, Int.reduceNeg, reduceCtorEq, resV, resAll, ARes.ev, LV.flat, ite_true, ite_false, exists_eq_left', exists_eq_left, keyOf, implies_true, fillC, capOf]
    have hcf : CallsR PG F.slices_ContainsFunc_SSA3int_SA3int [.ref u 0 L.length, .clo F.impl_isPacked_1 []] (M ++ [some (.row [.I x, .I y, .I z, .ref t o cs.length] true 0)]) fun v N => N = M ++ [some (.row [.I x, .I y, .I z, .ref t o cs.length] true 0)] ∧ v = .B (!decide (PcsOK L)) := by
      refine callsR_run K.slices_ContainsFunc_SSA3int_SA3int rfl ?_
      simp (disch := omega) only [C.slices_ContainsFunc_SSA3int_SA3int, ↓SXd, SXu, slBounds, ↓sop, ↓aop, ↓reduceIte, LV.cells, AOp.dst, LV.I, LV.B, LV.U, LV.S, LV.nil, Nat.reduceEqDiff, Nat.reduceAdd, Nat.reduceMul, Nat.reduceSub, Nat.reduceLeDiff, Nat.reduceBEq, Nat.reduceDiv, Nat.reduceMod, Int.reduceToNat, Int.reduceLT, Int.reduceLE, Int.reduceAdd, Int.reduceSub, Int.reduceMul, Int.reduceEq, Int.reduceNeg, reduceCtorEq, resV, resAll, ARes.ev, LV.flat, ite_true, ite_false, exists_eq_left', exists_eq_left, keyOf, implies_true, fillC, capOf]
      refine callR_of (g_indexPcs hP.app hL hLs) ?_
      rintro _ N ⟨rfl, k, rfl, hk⟩
      simp (disch := omega) only [ge_iff_le, ↓SXd, SXu, slBounds, ↓sop, ↓aop, ↓reduceIte, LV.cells, AOp.dst, LV.I, LV.B, LV.U, LV.S, LV.nil, Nat.reduceEqDiff, Nat.reduceAdd, Nat.reduceMul, Nat.reduceSub, Nat.reduceLeDiff, Nat.reduceBEq, Nat.reduceDiv, Nat.reduceMod, Int.reduceToNat, Int.reduceLT, Int.reduceLE, Int.reduceAdd, Int.reduceSub, Int.reduceMul, Int.reduceEq, Int.reduceNeg, reduceCtorEq, resV, resAll, ARes.ev, LV.flat, ite_true, ite_false, exists_eq_left', exists_eq_left, keyOf, implies_true, fillC, capOf]
      refine ⟨rfl, eqB ?_⟩
      by_cases h0 : 0 ≤ k
      · rw [decide_eq_true h0, decide_eq_false (hk.1 h0)]; rfl
      · rw [decide_eq_false h0, decide_eq_true (Classical.byContradiction fun h => h0 (hk.2 h))]; rfl
    refine callR_of hcf ?_
    rintro _ N ⟨rfl, rfl⟩
    simp (disch := omega) only [↓SXd, SXu, slBounds, ↓sop, ↓aop, ↓reduceIte, LV.cells, AOp.dst, LV.I, LV.B, LV.U, LV.S, LV.nil, Nat.reduceEqDiff, Nat.reduceAdd, Nat.reduceMul, Nat.reduceSub, Nat.reduceLeDiff, Nat.reduceBEq, Nat.reduceDiv, Nat.reduceMod, Int.reduceToNat, Int.reduceLT, Int.reduceLE, Int.reduceAdd, Int.reduceSub, Int.reduceMul, Int.reduceEq, Int.reduceNeg, reduceCtorEq, resV, resAll, ARes.ev, LV.flat, ite_true, ite_false, exists_eq_left', exists_eq_left, keyOf, implies_true, fillC, capOf]
    rw [Bool.not_not, show decide (HeapOK x y z cs ∧ PcsOK L) = decide (PcsOK L) from decide_eq_decide.2 ⟨fun h => h.2, fun h => ⟨hH, h⟩⟩]
    exact cmp_drop rfl
  · rw [decide_eq_false hH]
    simp (disch := omega) only [↓SXd, SXu, slBounds, ↓sop, ↓aop, ↓reduceIte, LV.cells, AOp.dst, LV.I, LV.B, LV.U, LV.S, LV.nil, Nat.reduceEqDiff, Nat.reduceAdd, Nat.reduceMul, Nat.reduceSub, Nat.reduceLeDiff, Nat.reduceBEq, Nat.reduceDiv, Nat.reduceMod, Int.reduceToNat, Int.reduceLT, Int.reduceLE, Int.reduceAdd, Int.reduceSub, Int.reduceMul, Int.reduceEq, Int.reduceNeg, reduceCtorEq, resV, resAll, ARes.ev, LV.flat, ite_true, ite_false, exists_eq_left', exists_eq_left, keyOf, implies_true, fillC, capOf]
    rw [decide_eq_false (fun h => hH h.1)]
    exact cmp_drop rfl
theorem pcs_one {M : Mem} {t u q : Nat} {w : Bool} {e : Nat} {l : List Cell} (h : Live M t (.row [.ref u q l.length] w e)) (hl : Tri M u q l) : Pcs M t [l] :=
  ⟨_, h.has, rfl, fun i hi => by
    have : i = 0 := by simp at hi; omega
    subst this
    exact ⟨u, q, rfl, hl⟩⟩
theorem packed_one {x y z : Int} {cs l : List Cell} : (HeapOK x y z cs ∧ PcsOK [l]) ↔ FitQ x y z cs l := by
  unfold FitQ PcsOK
  simp
noncomputable instance {x y z : Int} {cs l : List Cell} : Decidable (FitQ x y z cs l) := Classical.propDecidable _
theorem g_isPacked1 {x y z : Int} {t o u q v : Nat} {w : Bool} {e : Nat} {cs l : List Cell} {M : Mem} (h : Tri M t o cs) (hn : cs.length ≤ 1000000000) (hl : Tri M u q l) (hln : l.length ≤ 1000000000) (hv : Live M v (.row [.ref u q l.length] w e)) :
    CallsTo PG F.impl_isPacked [.agg [.I x, .I y, .I z, .ref t o cs.length], .ref v 0 1] M (.B (decide (FitQ x y z cs l))) M := by
  have := g_isPacked (x := x) (y := y) (z := z) (pcs_one hv hl) (by simp) (by simpa using hln) h hn
  rw [show decide (HeapOK x y z cs ∧ PcsOK [l]) = decide (FitQ x y z cs l) from decide_eq_decide.2 packed_one] at this
  exact this
/-- A place at which a piece fits lies in the box. -/
theorem fits_at {x y z : Int} {cs l : List Cell} {p : Cell} (hl : PieceOK l) (h : FitsP x y z cs l p) : p.inBox x y z := by
  obtain ⟨⟨⟨a1, a2⟩, ⟨b1, b2⟩, ⟨c1, c2⟩⟩, hc⟩ := h
  obtain ⟨_, hH, hlow⟩ := id hl
  obtain ⟨c, hcm, hc0⟩ := low_ex (l := l) (s := ⟨4, 4, 4⟩) (by rw [hlow]) (by decide)
  obtain ⟨d, hdm, hd0⟩ := low_exb (l := l) (s := ⟨4, 4, 4⟩) (by rw [hlow]) (by decide)
  obtain ⟨e, hem, he0⟩ := low_exc (l := l) (s := ⟨4, 4, 4⟩) (by rw [hlow]) (by decide)
  have k1 := (hc c hcm).1.1
  have k2 := (hc d hdm).1.2.1
  have k3 := (hc e hem).1.2.2
  have m1 := (hH.mem hcm).1
  have m2 := (hH.mem hdm).2.1
  have m3 := (hH.mem hem).2.2
  unfold shift at k1 k2 k3
  simp only at k1 k2 k3
  exact ⟨by omega, by omega, by omega⟩
theorem fits_placed {x y z : Int} {cs l : List Cell} {p : Cell} (hS : Sides x y z) (hl : PieceOK l) : PlacedOK x y z (freeP cs) l p ↔ FitsP x y z cs l p := by
  unfold PlacedOK FitsP
  have hf : ∀ c, freeP cs c = true ↔ c ∉ cs := fun c => by unfold freeP; simp
  constructor
  · rintro ⟨⟨⟨a1, a2⟩, ⟨b1, b2⟩, ⟨c1, c2⟩⟩, hc⟩
    have hc' : ∀ c ∈ l, (shift p c).inBox x y z ∧ shift p c ∉ cs := fun c hcm => ⟨(hc c hcm).1, (hf _).1 (hc c hcm).2⟩
    refine ⟨?_, hc'⟩
    obtain ⟨⟨n1, n2⟩, hH, hlow⟩ := id hl
    obtain ⟨c, hcm⟩ : ∃ c, c ∈ l := ⟨l.getD 0 default, getD_mem' (by omega)⟩
    have k := (hc' c hcm).1
    have m := hH.mem hcm
    obtain ⟨⟨_, _⟩, ⟨_, _⟩, ⟨_, _⟩⟩ := hS
    obtain ⟨⟨_, _⟩, ⟨_, _⟩, ⟨_, _⟩⟩ := m
    obtain ⟨⟨_, _⟩, ⟨_, _⟩, ⟨_, _⟩⟩ := k
    unfold shift at *
    simp only at *
    exact ⟨by omega, by omega, by omega⟩
  · rintro ⟨⟨⟨a1, a2⟩, ⟨b1, b2⟩, ⟨c1, c2⟩⟩, hc⟩
    exact ⟨⟨by omega, by omega, by omega⟩, fun c hcm => ⟨(hc c hcm).1, (hf _).2 (hc c hcm).2⟩⟩
section
variable {x y z : Int} {t o u q : Nat} {cs l : List Cell} {M : Mem} (h : Tri M t o cs) (hn : cs.length ≤ 1000000000) (hl : Tri M u q l) (hln : l.length ≤ 1000000000)
include hl hln
theorem g_PieceParity : CallsTo PG F.impl_PieceParity [.ref u q l.length] M (.tup [.I ((ppOf l).getD 0), .B (ppOf l).isSome]) M := by
  refine calls_run K.impl_PieceParity rfl ?_
  simp (disch := omega) only [C.impl_PieceParity, ↓SXd, SXu, slBounds, ↓sop, ↓aop, ↓reduceIte, LV.cells, AOp.dst, LV.I, LV.B, LV.U, LV.S, LV.nil, Nat.reduceEqDiff, Nat.reduceAdd, Nat.reduceMul, Nat.reduceSub, Nat.reduceLeDiff, Nat.reduceBEq, Nat.reduceDiv, Nat.reduceMod, Int.reduceToNat, Int.reduceLT, Int.reduceLE, Int.reduceAdd, Int.reduceSub, Int.reduceMul, Int.reduceEq, Int.reduceNeg, reduceCtorEq, resV, resAll, ARes.ev, LV.flat, ite_true, ite_false, exists_eq_left', exists_eq_left, keyOf, implies_true, fillC, capOf]
  refine callK_of (g_IsPiece hl hln) ?_
  simp (disch := omega) only [↓SXd, SXu, slBounds, ↓sop, ↓aop, ↓reduceIte, LV.cells, AOp.dst, LV.I, LV.B, LV.U, LV.S, LV.nil, Nat.reduceEqDiff, Nat.reduceAdd, Nat.reduceMul, Nat.reduceSub, Nat.reduceLeDiff, Nat.reduceBEq, Nat.reduceDiv, Nat.reduceMod, Int.reduceToNat, Int.reduceLT, Int.reduceLE, Int.reduceAdd, Int.reduceSub, Int.reduceMul, Int.reduceEq, Int.reduceNeg, reduceCtorEq, resV, resAll, ARes.ev, LV.flat, ite_true, ite_false, exists_eq_left', exists_eq_left, keyOf, implies_true, fillC, capOf]
  by_cases hp : PieceOK l
  rotate_left
  · rw [show ppOf l = none from if_neg hp]
    simp (disch := omega) only [hp, ↓SXd, SXu, slBounds, ↓sop, ↓aop, ↓reduceIte, LV.cells, AOp.dst, LV.I, LV.B, LV.U, LV.S, LV.nil, Nat.reduceEqDiff, Nat.reduceAdd, Nat.reduceMul, Nat.reduceSub, Nat.reduceLeDiff, Nat.reduceBEq, Nat.reduceDiv, Nat.reduceMod, Int.reduceToNat, Int.reduceLT, Int.reduceLE, Int.reduceAdd, Int.reduceSub, Int.reduceMul, Int.reduceEq, Int.reduceNeg, reduceCtorEq, resV, resAll, ARes.ev, LV.flat, ite_true, ite_false, exists_eq_left', exists_eq_left, keyOf, implies_true, fillC, capOf]
    exact cmp_drop0 rfl
  rw [show ppOf l = some (max (parL l) (0 - parL l)) from if_pos hp]
  have h5 := hp.le
  have hpl := parL_le hp.in4
  simp (disch := omega) only [hp, ↓SXd, SXu, slBounds, ↓sop, ↓aop, ↓reduceIte, LV.cells, AOp.dst, LV.I, LV.B, LV.U, LV.S, LV.nil, Nat.reduceEqDiff, Nat.reduceAdd, Nat.reduceMul, Nat.reduceSub, Nat.reduceLeDiff, Nat.reduceBEq, Nat.reduceDiv, Nat.reduceMod, Int.reduceToNat, Int.reduceLT, Int.reduceLE, Int.reduceAdd, Int.reduceSub, Int.reduceMul, Int.reduceEq, Int.reduceNeg, reduceCtorEq, resV, resAll, ARes.ev, LV.flat, ite_true, ite_false, exists_eq_left', exists_eq_left, keyOf, implies_true, fillC, capOf]
  refine callK_of (g_parity hl (by omega) hp.in4) ?_
  simp (disch := omega) only [maxV, if_true, ite_true, ↓SXd, SXu, slBounds, ↓sop, ↓aop, ↓reduceIte, LV.cells, AOp.dst, LV.I, LV.B, LV.U, LV.S, LV.nil, Nat.reduceEqDiff, Nat.reduceAdd, Nat.reduceMul, Nat.reduceSub, Nat.reduceLeDiff, Nat.reduceBEq, Nat.reduceDiv, Nat.reduceMod, Int.reduceToNat, Int.reduceLT, Int.reduceLE, Int.reduceAdd, Int.reduceSub, Int.reduceMul, Int.reduceEq, Int.reduceNeg, reduceCtorEq, resV, resAll, ARes.ev, LV.flat, ite_true, ite_false, exists_eq_left', exists_eq_left, keyOf, implies_true, fillC, capOf]
  exact cmp_drop0 rfl
include h hn
theorem g_FitsAt {p : Cell} : CallsTo PG F.impl_FitsAt [.agg [.I x, .I y, .I z, .ref t o cs.length], .ref u q l.length, .agg [.I p.a, .I p.b, .I p.c]] M (.tup [.B ((fitOf x y z cs l p).getD false), .B (fitOf x y z cs l p).isSome]) M := by
  have ht := h.lt
  have hlt := hl.lt
  refine calls_run K.impl_FitsAt rfl ?_
  simp (disch := omega) only [C.impl_FitsAt, splice, ↓SXd, SXu, slBounds, ↓sop, ↓aop, ↓reduceIte, LV.cells, AOp.dst, LV.I, LV.B, LV.U, LV.S, LV.nil, Nat.reduceEqDiff, Nat.reduceAdd, Nat.reduceMul, Nat.reduceSub, Nat.reduceLeDiff, Nat.reduceBEq, Nat.reduceDiv, Nat.reduceMod, Int.reduceToNat, Int.reduceLT, Int.reduceLE, Int.reduceAdd, Int.reduceSub, Int.reduceMul, Int.reduceEq, Int.reduceNeg, reduceCtorEq, resV, resAll, ARes.ev, LV.flat, ite_true, ite_false, exists_eq_left', exists_eq_left, keyOf, implies_true, fillC, capOf]
  refine callK_of (g_isPacked1 h.app hn hl.app hln (Live.newj (j := 2) (b := .row [.ref u q l.length] true 1) rfl)) ?_
  simp (disch := omega) only [↓SXd, SXu, slBounds, ↓sop, ↓aop, ↓reduceIte, LV.cells, AOp.dst, LV.I, LV.B, LV.U, LV.S, LV.nil, Nat.reduceEqDiff, Nat.reduceAdd, Nat.reduceMul, Nat.reduceSub, Nat.reduceLeDiff, Nat.reduceBEq, Nat.reduceDiv, Nat.reduceMod, Int.reduceToNat, Int.reduceLT, Int.reduceLE, Int.reduceAdd, Int.reduceSub, Int.reduceMul, Int.reduceEq, Int.reduceNeg, reduceCtorEq, resV, resAll, ARes.ev, LV.flat, ite_true, ite_false, exists_eq_left', exists_eq_left, keyOf, implies_true, fillC, capOf]
  by_cases hQ : FitQ x y z cs l
  rotate_left
  · rw [show fitOf x y z cs l p = none from if_neg hQ]
    simp (disch := omega) only [hQ, ↓SXd, SXu, slBounds, ↓sop, ↓aop, ↓reduceIte, LV.cells, AOp.dst, LV.I, LV.B, LV.U, LV.S, LV.nil, Nat.reduceEqDiff, Nat.reduceAdd, Nat.reduceMul, Nat.reduceSub, Nat.reduceLeDiff, Nat.reduceBEq, Nat.reduceDiv, Nat.reduceMod, Int.reduceToNat, Int.reduceLT, Int.reduceLE, Int.reduceAdd, Int.reduceSub, Int.reduceMul, Int.reduceEq, Int.reduceNeg, reduceCtorEq, resV, resAll, ARes.ev, LV.flat, ite_true, ite_false, exists_eq_left', exists_eq_left, keyOf, implies_true, fillC, capOf]
    exact cmp_drop rfl
  obtain ⟨hH, hp⟩ := id hQ
  rw [show fitOf x y z cs l p = some (decide (FitsP x y z cs l p)) from if_pos hQ]
  have h5 := hp.le
  simp (disch := omega) only [hQ, ↓SXd, SXu, slBounds, ↓sop, ↓aop, ↓reduceIte, LV.cells, AOp.dst, LV.I, LV.B, LV.U, LV.S, LV.nil, Nat.reduceEqDiff, Nat.reduceAdd, Nat.reduceMul, Nat.reduceSub, Nat.reduceLeDiff, Nat.reduceBEq, Nat.reduceDiv, Nat.reduceMod, Int.reduceToNat, Int.reduceLT, Int.reduceLE, Int.reduceAdd, Int.reduceSub, Int.reduceMul, Int.reduceEq, Int.reduceNeg, reduceCtorEq, resV, resAll, ARes.ev, LV.flat, ite_true, ite_false, exists_eq_left', exists_eq_left, keyOf, implies_true, fillC, capOf]
  refine callK_of (g_box) ?_
  simp (disch := omega) only [↓SXd, SXu, slBounds, ↓sop, ↓aop, ↓reduceIte, LV.cells, AOp.dst, LV.I, LV.B, LV.U, LV.S, LV.nil, Nat.reduceEqDiff, Nat.reduceAdd, Nat.reduceMul, Nat.reduceSub, Nat.reduceLeDiff, Nat.reduceBEq, Nat.reduceDiv, Nat.reduceMod, Int.reduceToNat, Int.reduceLT, Int.reduceLE, Int.reduceAdd, Int.reduceSub, Int.reduceMul, Int.reduceEq, Int.reduceNeg, reduceCtorEq, resV, resAll, ARes.ev, LV.flat, ite_true, ite_false, exists_eq_left', exists_eq_left, keyOf, implies_true, fillC, capOf]
  refine callK_of (g_free h.app hH) ?_
  simp (disch := omega) only [↓SXd, SXu, slBounds, ↓sop, ↓aop, ↓reduceIte, LV.cells, AOp.dst, LV.I, LV.B, LV.U, LV.S, LV.nil, Nat.reduceEqDiff, Nat.reduceAdd, Nat.reduceMul, Nat.reduceSub, Nat.reduceLeDiff, Nat.reduceBEq, Nat.reduceDiv, Nat.reduceMod, Int.reduceToNat, Int.reduceLT, Int.reduceLE, Int.reduceAdd, Int.reduceSub, Int.reduceMul, Int.reduceEq, Int.reduceNeg, reduceCtorEq, resV, resAll, ARes.ev, LV.flat, ite_true, ite_false, exists_eq_left', exists_eq_left, keyOf, implies_true, fillC, capOf]
  refine callK_of (g_placed (at' := p) hH.1 hl.app (by omega) hp.in4) ?_
  simp (disch := omega) only [↓SXd, SXu, slBounds, ↓sop, ↓aop, ↓reduceIte, LV.cells, AOp.dst, LV.I, LV.B, LV.U, LV.S, LV.nil, Nat.reduceEqDiff, Nat.reduceAdd, Nat.reduceMul, Nat.reduceSub, Nat.reduceLeDiff, Nat.reduceBEq, Nat.reduceDiv, Nat.reduceMod, Int.reduceToNat, Int.reduceLT, Int.reduceLE, Int.reduceAdd, Int.reduceSub, Int.reduceMul, Int.reduceEq, Int.reduceNeg, reduceCtorEq, resV, resAll, ARes.ev, LV.flat, ite_true, ite_false, exists_eq_left', exists_eq_left, keyOf, implies_true, fillC, capOf]
  rw [show decide (PlacedOK x y z (freeP cs) l p) = decide (FitsP x y z cs l p) from decide_eq_decide.2 (fits_placed hH.1 hp)]
  exact cmp_drop rfl
theorem g_PlacesFor : CallsR PG F.impl_PlacesFor [.agg [.I x, .I y, .I z, .ref t o cs.length], .ref u q l.length] M (CellsRes M (placesOf x y z cs l)) := by
  have ht := h.lt
  have hlt := hl.lt
  refine callsR_run K.impl_PlacesFor rfl ?_
  simp (disch := omega) only [C.impl_PlacesFor, splice, ↓SXd, SXu, slBounds, ↓sop, ↓aop, ↓reduceIte, LV.cells, AOp.dst, LV.I, LV.B, LV.U, LV.S, LV.nil, Nat.reduceEqDiff, Nat.reduceAdd, Nat.reduceMul, Nat.reduceSub, Nat.reduceLeDiff, Nat.reduceBEq, Nat.reduceDiv, Nat.reduceMod, Int.reduceToNat, Int.reduceLT, Int.reduceLE, Int.reduceAdd, Int.reduceSub, Int.reduceMul, Int.reduceEq, Int.reduceNeg, reduceCtorEq, resV, resAll, ARes.ev, LV.flat, ite_true, ite_false, exists_eq_left', exists_eq_left, keyOf, implies_true, fillC, capOf]
  refine callK_of (g_isPacked1 h.app hn hl.app hln (Live.newj (j := 2) (b := .row [.ref u q l.length] true 1) rfl)) ?_
  simp (disch := omega) only [↓SXd, SXu, slBounds, ↓sop, ↓aop, ↓reduceIte, LV.cells, AOp.dst, LV.I, LV.B, LV.U, LV.S, LV.nil, Nat.reduceEqDiff, Nat.reduceAdd, Nat.reduceMul, Nat.reduceSub, Nat.reduceLeDiff, Nat.reduceBEq, Nat.reduceDiv, Nat.reduceMod, Int.reduceToNat, Int.reduceLT, Int.reduceLE, Int.reduceAdd, Int.reduceSub, Int.reduceMul, Int.reduceEq, Int.reduceNeg, reduceCtorEq, resV, resAll, ARes.ev, LV.flat, ite_true, ite_false, exists_eq_left', exists_eq_left, keyOf, implies_true, fillC, capOf]
  by_cases hQ : FitQ x y z cs l
  rotate_left
  · rw [show placesOf x y z cs l = none from if_neg hQ]
    simp (disch := omega) only [hQ, ↓SXd, SXu, slBounds, ↓sop, ↓aop, ↓reduceIte, LV.cells, AOp.dst, LV.I, LV.B, LV.U, LV.S, LV.nil, Nat.reduceEqDiff, Nat.reduceAdd, Nat.reduceMul, Nat.reduceSub, Nat.reduceLeDiff, Nat.reduceBEq, Nat.reduceDiv, Nat.reduceMod, Int.reduceToNat, Int.reduceLT, Int.reduceLE, Int.reduceAdd, Int.reduceSub, Int.reduceMul, Int.reduceEq, Int.reduceNeg, reduceCtorEq, resV, resAll, ARes.ev, LV.flat, ite_true, ite_false, exists_eq_left', exists_eq_left, keyOf, implies_true, fillC, capOf]
    exact ⟨_, rfl, SlC.nil, Newer.nil, Pre.app _ _⟩
  obtain ⟨hH, hp⟩ := id hQ
  rw [show placesOf x y z cs l = some (pick x y z fun c => decide (FitsP x y z cs l c)) from if_pos hQ]
  have h5 := hp.le
  simp (disch := omega) only [hQ, ↓SXd, SXu, slBounds, ↓sop, ↓aop, ↓reduceIte, LV.cells, AOp.dst, LV.I, LV.B, LV.U, LV.S, LV.nil, Nat.reduceEqDiff, Nat.reduceAdd, Nat.reduceMul, Nat.reduceSub, Nat.reduceLeDiff, Nat.reduceBEq, Nat.reduceDiv, Nat.reduceMod, Int.reduceToNat, Int.reduceLT, Int.reduceLE, Int.reduceAdd, Int.reduceSub, Int.reduceMul, Int.reduceEq, Int.reduceNeg, reduceCtorEq, resV, resAll, ARes.ev, LV.flat, ite_true, ite_false, exists_eq_left', exists_eq_left, keyOf, implies_true, fillC, capOf]
  refine callK_of (g_box) ?_
  simp (disch := omega) only [splice, ↓SXd, SXu, slBounds, ↓sop, ↓aop, ↓reduceIte, LV.cells, AOp.dst, LV.I, LV.B, LV.U, LV.S, LV.nil, Nat.reduceEqDiff, Nat.reduceAdd, Nat.reduceMul, Nat.reduceSub, Nat.reduceLeDiff, Nat.reduceBEq, Nat.reduceDiv, Nat.reduceMod, Int.reduceToNat, Int.reduceLT, Int.reduceLE, Int.reduceAdd, Int.reduceSub, Int.reduceMul, Int.reduceEq, Int.reduceNeg, reduceCtorEq, resV, resAll, ARes.ev, LV.flat, ite_true, ite_false, exists_eq_left', exists_eq_left, keyOf, implies_true, fillC, capOf]
  refine callK_of (g_those hH.1 (p := fun c => decide (FitsP x y z cs l c)) fun M' hpre i hi => ?_) ?_
  · have b1 : Live M' (M.length + 3) (.row [.I x, .I y, .I z] true 0) := (Live.newj (j := 3) rfl).pre hpre
    have b2 : Live M' M.length (.row [.I x, .I y, .I z, .ref t o cs.length] true 0) := Live.new.pre hpre
    have b3 : Live M' (M.length + 1) (.row [.ref u q l.length] true 0) := (Live.newj (j := 1) rfl).pre hpre
    have hT := h.pre ((Pre.app _ _).trans hpre)
    have hTl := hl.pre ((Pre.app _ _).trans hpre)
    generalize cellAt y z i = c
    refine calls_run K.impl_PlacesFor_1 rfl ?_
    simp (disch := omega) only [C.impl_PlacesFor_1, List.map_cons, List.map_nil, b1.app.cells, b2.app.cells, b3.app.cell, ↓SXd, SXu, slBounds, ↓sop, ↓aop, ↓reduceIte, LV.cells, AOp.dst, LV.I, LV.B, LV.U, LV.S, LV.nil, Nat.reduceEqDiff, Nat.reduceAdd, Nat.reduceMul, Nat.reduceSub, Nat.reduceLeDiff, Nat.reduceBEq, Nat.reduceDiv, Nat.reduceMod, Int.reduceToNat, Int.reduceLT, Int.reduceLE, Int.reduceAdd, Int.reduceSub, Int.reduceMul, Int.reduceEq, Int.reduceNeg, reduceCtorEq, resV, resAll, ARes.ev, LV.flat, ite_true, ite_false, exists_eq_left', exists_eq_left, keyOf, implies_true, fillC, capOf]
    refine callK_of (g_free hT.app hH) ?_
    simp (disch := omega) only [↓SXd, SXu, slBounds, ↓sop, ↓aop, ↓reduceIte, LV.cells, AOp.dst, LV.I, LV.B, LV.U, LV.S, LV.nil, Nat.reduceEqDiff, Nat.reduceAdd, Nat.reduceMul, Nat.reduceSub, Nat.reduceLeDiff, Nat.reduceBEq, Nat.reduceDiv, Nat.reduceMod, Int.reduceToNat, Int.reduceLT, Int.reduceLE, Int.reduceAdd, Int.reduceSub, Int.reduceMul, Int.reduceEq, Int.reduceNeg, reduceCtorEq, resV, resAll, ARes.ev, LV.flat, ite_true, ite_false, exists_eq_left', exists_eq_left, keyOf, implies_true, fillC, capOf]
    refine callK_of (g_placed (at' := c) hH.1 hTl.app (by omega) hp.in4) ?_
    simp (disch := omega) only [↓SXd, SXu, slBounds, ↓sop, ↓aop, ↓reduceIte, LV.cells, AOp.dst, LV.I, LV.B, LV.U, LV.S, LV.nil, Nat.reduceEqDiff, Nat.reduceAdd, Nat.reduceMul, Nat.reduceSub, Nat.reduceLeDiff, Nat.reduceBEq, Nat.reduceDiv, Nat.reduceMod, Int.reduceToNat, Int.reduceLT, Int.reduceLE, Int.reduceAdd, Int.reduceSub, Int.reduceMul, Int.reduceEq, Int.reduceNeg, reduceCtorEq, resV, resAll, ARes.ev, LV.flat, ite_true, ite_false, exists_eq_left', exists_eq_left, keyOf, implies_true, fillC, capOf]
    rw [show decide (PlacedOK x y z (freeP cs) l c) = decide (FitsP x y z cs l c) from decide_eq_decide.2 (fits_placed hH.1 hp)]
    exact cmp_drop rfl
  simp (disch := omega) only [↓SXd, SXu, slBounds, ↓sop, ↓aop, ↓reduceIte, LV.cells, AOp.dst, LV.I, LV.B, LV.U, LV.S, LV.nil, Nat.reduceEqDiff, Nat.reduceAdd, Nat.reduceMul, Nat.reduceSub, Nat.reduceLeDiff, Nat.reduceBEq, Nat.reduceDiv, Nat.reduceMod, Int.reduceToNat, Int.reduceLT, Int.reduceLE, Int.reduceAdd, Int.reduceSub, Int.reduceMul, Int.reduceEq, Int.reduceNeg, reduceCtorEq, resV, resAll, ARes.ev, LV.flat, ite_true, ite_false, exists_eq_left', exists_eq_left, keyOf, implies_true, fillC, capOf]
  refine callK_of (g_list hH.1) ?_
  simp (disch := omega) only [↓SXd, SXu, slBounds, ↓sop, ↓aop, ↓reduceIte, LV.cells, AOp.dst, LV.I, LV.B, LV.U, LV.S, LV.nil, Nat.reduceEqDiff, Nat.reduceAdd, Nat.reduceMul, Nat.reduceSub, Nat.reduceLeDiff, Nat.reduceBEq, Nat.reduceDiv, Nat.reduceMod, Int.reduceToNat, Int.reduceLT, Int.reduceLE, Int.reduceAdd, Int.reduceSub, Int.reduceMul, Int.reduceEq, Int.reduceNeg, reduceCtorEq, resV, resAll, ARes.ev, LV.flat, ite_true, ite_false, exists_eq_left', exists_eq_left, keyOf, implies_true, fillC, capOf]
  exact ⟨_, rfl, SlC.of (Live.newj (j := 4) rfl), Newer.of (by omega), Pre.app _ _⟩
end
theorem g_FreeParity {x y z : Int} {t o : Nat} {cs : List Cell} {M : Mem} (h : Tri M t o cs) (hn : cs.length ≤ 1000000000) : CallsTo PG F.impl_FreeParity [.agg [.I x, .I y, .I z, .ref t o cs.length]] M (.tup [.I ((fpOf x y z cs).getD 0), .B (fpOf x y z cs).isSome]) M := by
  refine calls_run K.impl_FreeParity rfl ?_
  simp (disch := omega) only [C.impl_FreeParity, ↓SXd, SXu, slBounds, ↓sop, ↓aop, ↓reduceIte, LV.cells, AOp.dst, LV.I, LV.B, LV.U, LV.S, LV.nil, Nat.reduceEqDiff, Nat.reduceAdd, Nat.reduceMul, Nat.reduceSub, Nat.reduceLeDiff, Nat.reduceBEq, Nat.reduceDiv, Nat.reduceMod, Int.reduceToNat, Int.reduceLT, Int.reduceLE, Int.reduceAdd, Int.reduceSub, Int.reduceMul, Int.reduceEq, Int.reduceNeg, reduceCtorEq, resV, resAll, ARes.ev, LV.flat, ite_true, ite_false, exists_eq_left', exists_eq_left, keyOf, implies_true, fillC, capOf]
  refine callK_of (g_IsHeap h.app hn) ?_
  simp (disch := omega) only [↓SXd, SXu, slBounds, ↓sop, ↓aop, ↓reduceIte, LV.cells, AOp.dst, LV.I, LV.B, LV.U, LV.S, LV.nil, Nat.reduceEqDiff, Nat.reduceAdd, Nat.reduceMul, Nat.reduceSub, Nat.reduceLeDiff, Nat.reduceBEq, Nat.reduceDiv, Nat.reduceMod, Int.reduceToNat, Int.reduceLT, Int.reduceLE, Int.reduceAdd, Int.reduceSub, Int.reduceMul, Int.reduceEq, Int.reduceNeg, reduceCtorEq, resV, resAll, ARes.ev, LV.flat, ite_true, ite_false, exists_eq_left', exists_eq_left, keyOf, implies_true, fillC, capOf]
  by_cases hH : HeapOK x y z cs
  rotate_left
  · rw [show fpOf x y z cs = none from if_neg hH]
    simp (disch := omega) only [hH, ↓SXd, SXu, slBounds, ↓sop, ↓aop, ↓reduceIte, LV.cells, AOp.dst, LV.I, LV.B, LV.U, LV.S, LV.nil, Nat.reduceEqDiff, Nat.reduceAdd, Nat.reduceMul, Nat.reduceSub, Nat.reduceLeDiff, Nat.reduceBEq, Nat.reduceDiv, Nat.reduceMod, Int.reduceToNat, Int.reduceLT, Int.reduceLE, Int.reduceAdd, Int.reduceSub, Int.reduceMul, Int.reduceEq, Int.reduceNeg, reduceCtorEq, resV, resAll, ARes.ev, LV.flat, ite_true, ite_false, exists_eq_left', exists_eq_left, keyOf, implies_true, fillC, capOf]
    exact cmp_drop rfl
  rw [show fpOf x y z cs = some (parL (pick x y z (freeP cs))) from if_pos hH]
  simp (disch := omega) only [hH, ↓SXd, SXu, slBounds, ↓sop, ↓aop, ↓reduceIte, LV.cells, AOp.dst, LV.I, LV.B, LV.U, LV.S, LV.nil, Nat.reduceEqDiff, Nat.reduceAdd, Nat.reduceMul, Nat.reduceSub, Nat.reduceLeDiff, Nat.reduceBEq, Nat.reduceDiv, Nat.reduceMod, Int.reduceToNat, Int.reduceLT, Int.reduceLE, Int.reduceAdd, Int.reduceSub, Int.reduceMul, Int.reduceEq, Int.reduceNeg, reduceCtorEq, resV, resAll, ARes.ev, LV.flat, ite_true, ite_false, exists_eq_left', exists_eq_left, keyOf, implies_true, fillC, capOf]
  refine callK_of (g_box) ?_
  simp (disch := omega) only [↓SXd, SXu, slBounds, ↓sop, ↓aop, ↓reduceIte, LV.cells, AOp.dst, LV.I, LV.B, LV.U, LV.S, LV.nil, Nat.reduceEqDiff, Nat.reduceAdd, Nat.reduceMul, Nat.reduceSub, Nat.reduceLeDiff, Nat.reduceBEq, Nat.reduceDiv, Nat.reduceMod, Int.reduceToNat, Int.reduceLT, Int.reduceLE, Int.reduceAdd, Int.reduceSub, Int.reduceMul, Int.reduceEq, Int.reduceNeg, reduceCtorEq, resV, resAll, ARes.ev, LV.flat, ite_true, ite_false, exists_eq_left', exists_eq_left, keyOf, implies_true, fillC, capOf]
  refine callK_of (g_free h.app hH) ?_
  simp (disch := omega) only [↓SXd, SXu, slBounds, ↓sop, ↓aop, ↓reduceIte, LV.cells, AOp.dst, LV.I, LV.B, LV.U, LV.S, LV.nil, Nat.reduceEqDiff, Nat.reduceAdd, Nat.reduceMul, Nat.reduceSub, Nat.reduceLeDiff, Nat.reduceBEq, Nat.reduceDiv, Nat.reduceMod, Int.reduceToNat, Int.reduceLT, Int.reduceLE, Int.reduceAdd, Int.reduceSub, Int.reduceMul, Int.reduceEq, Int.reduceNeg, reduceCtorEq, resV, resAll, ARes.ev, LV.flat, ite_true, ite_false, exists_eq_left', exists_eq_left, keyOf, implies_true, fillC, capOf]
  refine callK_of (g_list hH.1) ?_
  simp (disch := omega) only [↓SXd, SXu, slBounds, ↓sop, ↓aop, ↓reduceIte, LV.cells, AOp.dst, LV.I, LV.B, LV.U, LV.S, LV.nil, Nat.reduceEqDiff, Nat.reduceAdd, Nat.reduceMul, Nat.reduceSub, Nat.reduceLeDiff, Nat.reduceBEq, Nat.reduceDiv, Nat.reduceMod, Int.reduceToNat, Int.reduceLT, Int.reduceLE, Int.reduceAdd, Int.reduceSub, Int.reduceMul, Int.reduceEq, Int.reduceNeg, reduceCtorEq, resV, resAll, ARes.ev, LV.flat, ite_true, ite_false, exists_eq_left', exists_eq_left, keyOf, implies_true, fillC, capOf]
  have hpk := pick_ok hH.1 (freeP cs)
  have hpl := hpk.len
  refine callK_of (g_parity (Live.newj (M := M) (j := 1) (b := .row (triL (pick x y z (freeP cs))) true 3) rfl).has hpl (fun c hc => box4 hH.1 (hpk.mem hc))) ?_
  simp (disch := omega) only [↓SXd, SXu, slBounds, ↓sop, ↓aop, ↓reduceIte, LV.cells, AOp.dst, LV.I, LV.B, LV.U, LV.S, LV.nil, Nat.reduceEqDiff, Nat.reduceAdd, Nat.reduceMul, Nat.reduceSub, Nat.reduceLeDiff, Nat.reduceBEq, Nat.reduceDiv, Nat.reduceMod, Int.reduceToNat, Int.reduceLT, Int.reduceLE, Int.reduceAdd, Int.reduceSub, Int.reduceMul, Int.reduceEq, Int.reduceNeg, reduceCtorEq, resV, resAll, ARes.ev, LV.flat, ite_true, ite_false, exists_eq_left', exists_eq_left, keyOf, implies_true, fillC, capOf]
  exact cmp_drop rfl
theorem g_BoxPiece {x y z : Int} {M : Mem} : CallsR PG F.impl_BoxPiece [.I x, .I y, .I z] M (CellsRes M (boxOf x y z)) := by
  refine callsR_run K.impl_BoxPiece rfl ?_
  simp (disch := omega) only [C.impl_BoxPiece, splice, ↓SXd, SXu, slBounds, ↓sop, ↓aop, ↓reduceIte, LV.cells, AOp.dst, LV.I, LV.B, LV.U, LV.S, LV.nil, Nat.reduceEqDiff, Nat.reduceAdd, Nat.reduceMul, Nat.reduceSub, Nat.reduceLeDiff, Nat.reduceBEq, Nat.reduceDiv, Nat.reduceMod, Int.reduceToNat, Int.reduceLT, Int.reduceLE, Int.reduceAdd, Int.reduceSub, Int.reduceMul, Int.reduceEq, Int.reduceNeg, reduceCtorEq, resV, resAll, ARes.ev, LV.flat, ite_true, ite_false, exists_eq_left', exists_eq_left, keyOf, implies_true, fillC, capOf]
  refine callK_of (g_valid) ?_
  simp (disch := omega) only [↓SXd, SXu, slBounds, ↓sop, ↓aop, ↓reduceIte, LV.cells, AOp.dst, LV.I, LV.B, LV.U, LV.S, LV.nil, Nat.reduceEqDiff, Nat.reduceAdd, Nat.reduceMul, Nat.reduceSub, Nat.reduceLeDiff, Nat.reduceBEq, Nat.reduceDiv, Nat.reduceMod, Int.reduceToNat, Int.reduceLT, Int.reduceLE, Int.reduceAdd, Int.reduceSub, Int.reduceMul, Int.reduceEq, Int.reduceNeg, reduceCtorEq, resV, resAll, ARes.ev, LV.flat, ite_true, ite_false, exists_eq_left', exists_eq_left, keyOf, implies_true, fillC, capOf]
  by_cases hS : Sides x y z
  rotate_left
  · rw [show boxOf x y z = none from if_neg fun e => hS e.1]
    simp (disch := omega) only [hS, ↓SXd, SXu, slBounds, ↓sop, ↓aop, ↓reduceIte, LV.cells, AOp.dst, LV.I, LV.B, LV.U, LV.S, LV.nil, Nat.reduceEqDiff, Nat.reduceAdd, Nat.reduceMul, Nat.reduceSub, Nat.reduceLeDiff, Nat.reduceBEq, Nat.reduceDiv, Nat.reduceMod, Int.reduceToNat, Int.reduceLT, Int.reduceLE, Int.reduceAdd, Int.reduceSub, Int.reduceMul, Int.reduceEq, Int.reduceNeg, reduceCtorEq, resV, resAll, ARes.ev, LV.flat, ite_true, ite_false, exists_eq_left', exists_eq_left, keyOf, implies_true, fillC, capOf]
    exact ⟨_, rfl, SlC.nil, Newer.nil, Pre.app _ _⟩
  simp (disch := omega) only [hS, ↓SXd, SXu, slBounds, ↓sop, ↓aop, ↓reduceIte, LV.cells, AOp.dst, LV.I, LV.B, LV.U, LV.S, LV.nil, Nat.reduceEqDiff, Nat.reduceAdd, Nat.reduceMul, Nat.reduceSub, Nat.reduceLeDiff, Nat.reduceBEq, Nat.reduceDiv, Nat.reduceMod, Int.reduceToNat, Int.reduceLT, Int.reduceLE, Int.reduceAdd, Int.reduceSub, Int.reduceMul, Int.reduceEq, Int.reduceNeg, reduceCtorEq, resV, resAll, ARes.ev, LV.flat, ite_true, ite_false, exists_eq_left', exists_eq_left, keyOf, implies_true, fillC, capOf]
  refine callK_of (g_size hS) ?_
  simp (disch := omega) only [↓SXd, SXu, slBounds, ↓sop, ↓aop, ↓reduceIte, LV.cells, AOp.dst, LV.I, LV.B, LV.U, LV.S, LV.nil, Nat.reduceEqDiff, Nat.reduceAdd, Nat.reduceMul, Nat.reduceSub, Nat.reduceLeDiff, Nat.reduceBEq, Nat.reduceDiv, Nat.reduceMod, Int.reduceToNat, Int.reduceLT, Int.reduceLE, Int.reduceAdd, Int.reduceSub, Int.reduceMul, Int.reduceEq, Int.reduceNeg, reduceCtorEq, resV, resAll, ARes.ev, LV.flat, ite_true, ite_false, exists_eq_left', exists_eq_left, keyOf, implies_true, fillC, capOf]
  by_cases h5 : vol x y z ≤ 5
  rotate_left
  · rw [show boxOf x y z = none from if_neg fun e => h5 e.2]
    have h6 : ((vol x y z : Nat) : Int) > 5 := by omega
    simp (disch := omega) only [h6, ↓SXd, SXu, slBounds, ↓sop, ↓aop, ↓reduceIte, LV.cells, AOp.dst, LV.I, LV.B, LV.U, LV.S, LV.nil, Nat.reduceEqDiff, Nat.reduceAdd, Nat.reduceMul, Nat.reduceSub, Nat.reduceLeDiff, Nat.reduceBEq, Nat.reduceDiv, Nat.reduceMod, Int.reduceToNat, Int.reduceLT, Int.reduceLE, Int.reduceAdd, Int.reduceSub, Int.reduceMul, Int.reduceEq, Int.reduceNeg, reduceCtorEq, resV, resAll, ARes.ev, LV.flat, ite_true, ite_false, exists_eq_left', exists_eq_left, keyOf, implies_true, fillC, capOf]
    exact ⟨_, rfl, SlC.nil, Newer.nil, Pre.app _ _⟩
  rw [show boxOf x y z = some (cellsOf x y z) from if_pos ⟨hS, h5⟩]
  have h6 : ¬ (((vol x y z : Nat) : Int) > 5) := by omega
  have hall : pick x y z (fun _ => true) = cellsOf x y z := by unfold pick; simp
  simp (disch := omega) only [h6, ↓SXd, SXu, slBounds, ↓sop, ↓aop, ↓reduceIte, LV.cells, AOp.dst, LV.I, LV.B, LV.U, LV.S, LV.nil, Nat.reduceEqDiff, Nat.reduceAdd, Nat.reduceMul, Nat.reduceSub, Nat.reduceLeDiff, Nat.reduceBEq, Nat.reduceDiv, Nat.reduceMod, Int.reduceToNat, Int.reduceLT, Int.reduceLE, Int.reduceAdd, Int.reduceSub, Int.reduceMul, Int.reduceEq, Int.reduceNeg, reduceCtorEq, resV, resAll, ARes.ev, LV.flat, ite_true, ite_false, exists_eq_left', exists_eq_left, keyOf, implies_true, fillC, capOf]
  refine callK_of (g_full hS) ?_
  simp (disch := omega) only [↓SXd, SXu, slBounds, ↓sop, ↓aop, ↓reduceIte, LV.cells, AOp.dst, LV.I, LV.B, LV.U, LV.S, LV.nil, Nat.reduceEqDiff, Nat.reduceAdd, Nat.reduceMul, Nat.reduceSub, Nat.reduceLeDiff, Nat.reduceBEq, Nat.reduceDiv, Nat.reduceMod, Int.reduceToNat, Int.reduceLT, Int.reduceLE, Int.reduceAdd, Int.reduceSub, Int.reduceMul, Int.reduceEq, Int.reduceNeg, reduceCtorEq, resV, resAll, ARes.ev, LV.flat, ite_true, ite_false, exists_eq_left', exists_eq_left, keyOf, implies_true, fillC, capOf]
  refine callK_of (g_list hS) ?_
  simp (disch := omega) only [↓SXd, SXu, slBounds, ↓sop, ↓aop, ↓reduceIte, LV.cells, AOp.dst, LV.I, LV.B, LV.U, LV.S, LV.nil, Nat.reduceEqDiff, Nat.reduceAdd, Nat.reduceMul, Nat.reduceSub, Nat.reduceLeDiff, Nat.reduceBEq, Nat.reduceDiv, Nat.reduceMod, Int.reduceToNat, Int.reduceLT, Int.reduceLE, Int.reduceAdd, Int.reduceSub, Int.reduceMul, Int.reduceEq, Int.reduceNeg, reduceCtorEq, resV, resAll, ARes.ev, LV.flat, ite_true, ite_false, exists_eq_left', exists_eq_left, keyOf, implies_true, fillC, capOf]
  rw [hall]
  exact ⟨_, rfl, SlC.of (Live.newj (j := 1) rfl), Newer.of (by omega), Pre.app _ _⟩
theorem g_HasCube {x y z : Int} {t o : Nat} {cs : List Cell} {d : Cell} {M : Mem} (h : Tri M t o cs) (hH : HeapOK x y z cs) (hd : d.inBox x y z) :
    CallsTo PG F.impl_HasCube [.agg [.I x, .I y, .I z, .ref t o cs.length], .agg [.I d.a, .I d.b, .I d.c]] M (.tup [.B (decide (d ∈ cs)), .B true]) M := by
  have hlen := hH.len
  refine calls_run K.impl_HasCube rfl ?_
  simp (disch := omega) only [C.impl_HasCube, ↓SXd, SXu, slBounds, ↓sop, ↓aop, ↓reduceIte, LV.cells, AOp.dst, LV.I, LV.B, LV.U, LV.S, LV.nil, Nat.reduceEqDiff, Nat.reduceAdd, Nat.reduceMul, Nat.reduceSub, Nat.reduceLeDiff, Nat.reduceBEq, Nat.reduceDiv, Nat.reduceMod, Int.reduceToNat, Int.reduceLT, Int.reduceLE, Int.reduceAdd, Int.reduceSub, Int.reduceMul, Int.reduceEq, Int.reduceNeg, reduceCtorEq, resV, resAll, ARes.ev, LV.flat, ite_true, ite_false, exists_eq_left', exists_eq_left, keyOf, implies_true, fillC, capOf]
  have hic : ∀ {M : Mem}, Tri M t o cs → CallsTo PG F.impl_isCell [.agg [.I x, .I y, .I z, .ref t o cs.length], .agg [.I d.a, .I d.b, .I d.c]] M (.B true) M := fun {M} h => by
    refine calls_run K.impl_isCell rfl ?_
    simp (disch := omega) only [C.impl_isCell, ↓SXd, SXu, slBounds, ↓sop, ↓aop, ↓reduceIte, LV.cells, AOp.dst, LV.I, LV.B, LV.U, LV.S, LV.nil, Nat.reduceEqDiff, Nat.reduceAdd, Nat.reduceMul, Nat.reduceSub, Nat.reduceLeDiff, Nat.reduceBEq, Nat.reduceDiv, Nat.reduceMod, Int.reduceToNat, Int.reduceLT, Int.reduceLE, Int.reduceAdd, Int.reduceSub, Int.reduceMul, Int.reduceEq, Int.reduceNeg, reduceCtorEq, resV, resAll, ARes.ev, LV.flat, ite_true, ite_false, exists_eq_left', exists_eq_left, keyOf, implies_true, fillC, capOf]
    refine callK_of (g_IsHeap h.app (by omega)) ?_
    simp (disch := omega) only [hH, ↓SXd, SXu, slBounds, ↓sop, ↓aop, ↓reduceIte, LV.cells, AOp.dst, LV.I, LV.B, LV.U, LV.S, LV.nil, Nat.reduceEqDiff, Nat.reduceAdd, Nat.reduceMul, Nat.reduceSub, Nat.reduceLeDiff, Nat.reduceBEq, Nat.reduceDiv, Nat.reduceMod, Int.reduceToNat, Int.reduceLT, Int.reduceLE, Int.reduceAdd, Int.reduceSub, Int.reduceMul, Int.reduceEq, Int.reduceNeg, reduceCtorEq, resV, resAll, ARes.ev, LV.flat, ite_true, ite_false, exists_eq_left', exists_eq_left, keyOf, implies_true, fillC, capOf]
    refine callK_of (g_box) ?_
    simp (disch := omega) only [↓SXd, SXu, slBounds, ↓sop, ↓aop, ↓reduceIte, LV.cells, AOp.dst, LV.I, LV.B, LV.U, LV.S, LV.nil, Nat.reduceEqDiff, Nat.reduceAdd, Nat.reduceMul, Nat.reduceSub, Nat.reduceLeDiff, Nat.reduceBEq, Nat.reduceDiv, Nat.reduceMod, Int.reduceToNat, Int.reduceLT, Int.reduceLE, Int.reduceAdd, Int.reduceSub, Int.reduceMul, Int.reduceEq, Int.reduceNeg, reduceCtorEq, resV, resAll, ARes.ev, LV.flat, ite_true, ite_false, exists_eq_left', exists_eq_left, keyOf, implies_true, fillC, capOf]
    refine callK_of (g_has hH.1) ?_
    simp (disch := omega) only [↓SXd, SXu, slBounds, ↓sop, ↓aop, ↓reduceIte, LV.cells, AOp.dst, LV.I, LV.B, LV.U, LV.S, LV.nil, Nat.reduceEqDiff, Nat.reduceAdd, Nat.reduceMul, Nat.reduceSub, Nat.reduceLeDiff, Nat.reduceBEq, Nat.reduceDiv, Nat.reduceMod, Int.reduceToNat, Int.reduceLT, Int.reduceLE, Int.reduceAdd, Int.reduceSub, Int.reduceMul, Int.reduceEq, Int.reduceNeg, reduceCtorEq, resV, resAll, ARes.ev, LV.flat, ite_true, ite_false, exists_eq_left', exists_eq_left, keyOf, implies_true, fillC, capOf]
    rw [cell_eta, decide_eq_true hd]
    exact cmp_drop rfl
  refine callK_of (hic h.app) ?_
  simp (disch := omega) only [↓SXd, SXu, slBounds, ↓sop, ↓aop, ↓reduceIte, LV.cells, AOp.dst, LV.I, LV.B, LV.U, LV.S, LV.nil, Nat.reduceEqDiff, Nat.reduceAdd, Nat.reduceMul, Nat.reduceSub, Nat.reduceLeDiff, Nat.reduceBEq, Nat.reduceDiv, Nat.reduceMod, Int.reduceToNat, Int.reduceLT, Int.reduceLE, Int.reduceAdd, Int.reduceSub, Int.reduceMul, Int.reduceEq, Int.reduceNeg, reduceCtorEq, resV, resAll, ARes.ev, LV.flat, ite_true, ite_false, exists_eq_left', exists_eq_left, keyOf, implies_true, fillC, capOf]
  refine callK_of (g_hasCube h.app (by omega) hH.1 (fun c hc => hH.mem hc) hd) ?_
  simp (disch := omega) only [↓SXd, SXu, slBounds, ↓sop, ↓aop, ↓reduceIte, LV.cells, AOp.dst, LV.I, LV.B, LV.U, LV.S, LV.nil, Nat.reduceEqDiff, Nat.reduceAdd, Nat.reduceMul, Nat.reduceSub, Nat.reduceLeDiff, Nat.reduceBEq, Nat.reduceDiv, Nat.reduceMod, Int.reduceToNat, Int.reduceLT, Int.reduceLE, Int.reduceAdd, Int.reduceSub, Int.reduceMul, Int.reduceEq, Int.reduceNeg, reduceCtorEq, resV, resAll, ARes.ev, LV.flat, ite_true, ite_false, exists_eq_left', exists_eq_left, keyOf, implies_true, fillC, capOf]
  exact cmp_drop rfl
theorem g_OtherCellsV {x y z : Int} {t o : Nat} {cs : List Cell} {M : Mem} (h : Tri M t o cs) (hH : HeapOK x y z cs) :
    CallsR PG F.impl_OtherCells [.agg [.I x, .I y, .I z, .ref t o cs.length]] M fun v N => (∃ u : Nat, v = .tup [.agg [.I x, .I y, .I z, .ref u 0 (pick x y z (freeP cs)).length], .B true] ∧ Live N u (.row (triL (pick x y z (freeP cs))) true 3) ∧ M.length ≤ u) ∧ Pre M N := by
  have hlen := hH.len
  refine callsR_run K.impl_OtherCells rfl ?_
  simp (disch := omega) only [C.impl_OtherCells, ↓SXd, SXu, slBounds, ↓sop, ↓aop, ↓reduceIte, LV.cells, AOp.dst, LV.I, LV.B, LV.U, LV.S, LV.nil, Nat.reduceEqDiff, Nat.reduceAdd, Nat.reduceMul, Nat.reduceSub, Nat.reduceLeDiff, Nat.reduceBEq, Nat.reduceDiv, Nat.reduceMod, Int.reduceToNat, Int.reduceLT, Int.reduceLE, Int.reduceAdd, Int.reduceSub, Int.reduceMul, Int.reduceEq, Int.reduceNeg, reduceCtorEq, resV, resAll, ARes.ev, LV.flat, ite_true, ite_false, exists_eq_left', exists_eq_left, keyOf, implies_true, fillC, capOf]
  refine callK_of (g_IsHeap h.app (by omega)) ?_
  simp (disch := omega) only [hH, ↓SXd, SXu, slBounds, ↓sop, ↓aop, ↓reduceIte, LV.cells, AOp.dst, LV.I, LV.B, LV.U, LV.S, LV.nil, Nat.reduceEqDiff, Nat.reduceAdd, Nat.reduceMul, Nat.reduceSub, Nat.reduceLeDiff, Nat.reduceBEq, Nat.reduceDiv, Nat.reduceMod, Int.reduceToNat, Int.reduceLT, Int.reduceLE, Int.reduceAdd, Int.reduceSub, Int.reduceMul, Int.reduceEq, Int.reduceNeg, reduceCtorEq, resV, resAll, ARes.ev, LV.flat, ite_true, ite_false, exists_eq_left', exists_eq_left, keyOf, implies_true, fillC, capOf]
  refine callK_of (g_box) ?_
  simp (disch := omega) only [↓SXd, SXu, slBounds, ↓sop, ↓aop, ↓reduceIte, LV.cells, AOp.dst, LV.I, LV.B, LV.U, LV.S, LV.nil, Nat.reduceEqDiff, Nat.reduceAdd, Nat.reduceMul, Nat.reduceSub, Nat.reduceLeDiff, Nat.reduceBEq, Nat.reduceDiv, Nat.reduceMod, Int.reduceToNat, Int.reduceLT, Int.reduceLE, Int.reduceAdd, Int.reduceSub, Int.reduceMul, Int.reduceEq, Int.reduceNeg, reduceCtorEq, resV, resAll, ARes.ev, LV.flat, ite_true, ite_false, exists_eq_left', exists_eq_left, keyOf, implies_true, fillC, capOf]
  refine callK_of (g_box) ?_
  simp (disch := omega) only [↓SXd, SXu, slBounds, ↓sop, ↓aop, ↓reduceIte, LV.cells, AOp.dst, LV.I, LV.B, LV.U, LV.S, LV.nil, Nat.reduceEqDiff, Nat.reduceAdd, Nat.reduceMul, Nat.reduceSub, Nat.reduceLeDiff, Nat.reduceBEq, Nat.reduceDiv, Nat.reduceMod, Int.reduceToNat, Int.reduceLT, Int.reduceLE, Int.reduceAdd, Int.reduceSub, Int.reduceMul, Int.reduceEq, Int.reduceNeg, reduceCtorEq, resV, resAll, ARes.ev, LV.flat, ite_true, ite_false, exists_eq_left', exists_eq_left, keyOf, implies_true, fillC, capOf]
  refine callK_of (g_full hH.1) ?_
  simp (disch := omega) only [↓SXd, SXu, slBounds, ↓sop, ↓aop, ↓reduceIte, LV.cells, AOp.dst, LV.I, LV.B, LV.U, LV.S, LV.nil, Nat.reduceEqDiff, Nat.reduceAdd, Nat.reduceMul, Nat.reduceSub, Nat.reduceLeDiff, Nat.reduceBEq, Nat.reduceDiv, Nat.reduceMod, Int.reduceToNat, Int.reduceLT, Int.reduceLE, Int.reduceAdd, Int.reduceSub, Int.reduceMul, Int.reduceEq, Int.reduceNeg, reduceCtorEq, resV, resAll, ARes.ev, LV.flat, ite_true, ite_false, exists_eq_left', exists_eq_left, keyOf, implies_true, fillC, capOf]
  refine callK_of (g_cubes h.app (by omega) hH.1 (fun c hc => hH.mem hc)) ?_
  simp (disch := omega) only [↓SXd, SXu, slBounds, ↓sop, ↓aop, ↓reduceIte, LV.cells, AOp.dst, LV.I, LV.B, LV.U, LV.S, LV.nil, Nat.reduceEqDiff, Nat.reduceAdd, Nat.reduceMul, Nat.reduceSub, Nat.reduceLeDiff, Nat.reduceBEq, Nat.reduceDiv, Nat.reduceMod, Int.reduceToNat, Int.reduceLT, Int.reduceLE, Int.reduceAdd, Int.reduceSub, Int.reduceMul, Int.reduceEq, Int.reduceNeg, reduceCtorEq, resV, resAll, ARes.ev, LV.flat, ite_true, ite_false, exists_eq_left', exists_eq_left, keyOf, implies_true, fillC, capOf]
  rw [bs_diff hH.1, (bs_eq hH.1).2 fun c _ => show (true && !decide (c ∈ cs)) = freeP cs c by simp [freeP]]
  refine callK_of (g_heap hH.1) ?_
  simp (disch := omega) only [splice, ↓SXd, SXu, slBounds, ↓sop, ↓aop, ↓reduceIte, LV.cells, AOp.dst, LV.I, LV.B, LV.U, LV.S, LV.nil, Nat.reduceEqDiff, Nat.reduceAdd, Nat.reduceMul, Nat.reduceSub, Nat.reduceLeDiff, Nat.reduceBEq, Nat.reduceDiv, Nat.reduceMod, Int.reduceToNat, Int.reduceLT, Int.reduceLE, Int.reduceAdd, Int.reduceSub, Int.reduceMul, Int.reduceEq, Int.reduceNeg, reduceCtorEq, resV, resAll, ARes.ev, LV.flat, ite_true, ite_false, exists_eq_left', exists_eq_left, keyOf, implies_true, fillC, capOf]
  exact ⟨⟨M.length + 2, rfl, Live.newj (j := 2) rfl, by omega⟩, Pre.app _ _⟩
end Go.Ab

/- Plain: boxes as pieces; parities of all cells; places. -/
namespace Go.Ab
open Go
set_option linter.unusedSimpArgs false
set_option linter.unusedVariables false
set_option maxRecDepth 20000

theorem all_par : ∀ x : Fin 4, ∀ y : Fin 4, ∀ z : Fin 4, parL (cellsOf (x.val + 1 : Nat) (y.val + 1 : Nat) (z.val + 1 : Nat)) = Int.tmod (((x.val + 1 : Nat) : Int) * (y.val + 1 : Nat) * (z.val + 1 : Nat)) 2 := by decide +kernel
theorem all_low : ∀ x : Fin 4, ∀ y : Fin 4, ∀ z : Fin 4, lowC ⟨4, 4, 4⟩ (cellsOf (x.val + 1 : Nat) (y.val + 1 : Nat) (z.val + 1 : Nat)) = ⟨0, 0, 0⟩ := by decide +kernel
theorem sides_fin {x y z : Int} (hS : Sides x y z) : ∃ a b c : Fin 4, x = (a.val + 1 : Nat) ∧ y = (b.val + 1 : Nat) ∧ z = (c.val + 1 : Nat) := by
  obtain ⟨⟨_, _⟩, ⟨_, _⟩, ⟨_, _⟩⟩ := hS
  exact ⟨⟨(x - 1).toNat, by omega⟩, ⟨(y - 1).toNat, by omega⟩, ⟨(z - 1).toNat, by omega⟩, by simp only; omega, by simp only; omega, by simp only; omega⟩
theorem par_cells {x y z : Int} (hS : Sides x y z) : parL (cellsOf x y z) = Int.tmod (x * y * z) 2 := by
  obtain ⟨a, b, c, rfl, rfl, rfl⟩ := sides_fin hS
  exact all_par a b c
theorem low_cells {x y z : Int} (hS : Sides x y z) : lowC ⟨4, 4, 4⟩ (cellsOf x y z) = ⟨0, 0, 0⟩ := by
  obtain ⟨a, b, c, rfl, rfl, rfl⟩ := sides_fin hS
  exact all_low a b c
theorem parL_part {p : Cell → Bool} : ∀ l : List Cell, parL (l.filter p) + parL (l.filter fun c => !p c) = parL l
  | [] => rfl
  | a :: l => by
    have ih := parL_part (p := p) l
    rw [List.filter_cons, List.filter_cons]
    cases h : p a
    · simp only [h, Bool.not_false, if_true, parL, Bool.false_eq_true, if_false]; omega
    · simp only [h, Bool.not_true, if_true, parL, Bool.false_eq_true, if_false]; omega
/-- What the law says of boxes. -/
theorem box_law {x y z : Int} {l : List Cell} (h : boxOf x y z = some l) : PieceOK l ∧ (l.length : Int) = x * y * z ∧ ppOf l = some (Int.tmod (x * y * z) 2) ∧ 0 ≤ x * y * z ∧ x * y * z ≤ 5 ∧ Sides x y z := by
  unfold boxOf at h
  split at h
  · rename_i hv
    obtain ⟨hS, h5⟩ := hv
    cases h
    have hv := vol_cast hS
    have hcl : (cellsOf x y z).length = vol x y z := by simp [cellsOf]
    have hpos : 1 ≤ vol x y z := by
      obtain ⟨⟨_, _⟩, ⟨_, _⟩, ⟨_, _⟩⟩ := hS
      have hm : (⟨0, 0, 0⟩ : Cell) ∈ cellsOf x y z := (mem_cellsOf ⟨⟨by assumption, by assumption⟩, ⟨by assumption, by assumption⟩, ⟨by assumption, by assumption⟩⟩).2 ⟨⟨by simp, by simp only; omega⟩, ⟨by simp, by simp only; omega⟩, ⟨by simp, by simp only; omega⟩⟩
      have := List.length_pos_of_mem hm
      omega
    have hp : PieceOK (cellsOf x y z) := ⟨⟨by omega, by omega⟩, HeapOK.of sides4 (cellsOf_sorted hS) fun c hc => box4 hS ((mem_cellsOf hS).1 hc), low_cells hS⟩
    refine ⟨hp, by omega, ?_, by omega, by omega, hS⟩
    rw [show ppOf (cellsOf x y z) = some (max (parL (cellsOf x y z)) (0 - parL (cellsOf x y z))) from if_pos hp, par_cells hS]
    have h1 : 0 ≤ Int.tmod (x * y * z) 2 := Int.tmod_nonneg _ (by omega)
    congr 1; omega
  · cases h
theorem free_free {x y z : Int} {cs : List Cell} (hH : HeapOK x y z cs) : pick x y z (freeP (pick x y z (freeP cs))) = cs := by
  refine sorted_ext (pick_sorted hH.1 _) hH.sorted fun c => ?_
  rw [mem_pick hH.1]
  unfold freeP
  constructor
  · rintro ⟨hin, h⟩
    simp only [Bool.not_eq_true', decide_eq_false_iff_not] at h
    exact Classical.byContradiction fun hn => h ((mem_pick hH.1).2 ⟨hin, by simpa using hn⟩)
  · intro hc
    refine ⟨hH.mem hc, ?_⟩
    simp only [Bool.not_eq_true', decide_eq_false_iff_not]
    intro h
    have := ((mem_pick hH.1).1 h).2
    simp [hc] at this
/-- The free cells and the others together. -/
theorem free_law {x y z : Int} {cs : List Cell} (hH : HeapOK x y z cs) : fpOf x y z cs = some (parL (pick x y z (freeP cs))) ∧ fpOf x y z (pick x y z (freeP cs)) = some (parL cs) ∧ parL (pick x y z (freeP cs)) + parL cs = Int.tmod (x * y * z) 2 ∧ (-64 ≤ parL (pick x y z (freeP cs)) ∧ parL (pick x y z (freeP cs)) ≤ 64) ∧ (-64 ≤ parL cs ∧ parL cs ≤ 64) := by
  have hpk := pick_ok hH.1 (freeP cs)
  refine ⟨if_pos hH, ?_, ?_, ?_, ?_⟩
  · rw [show fpOf x y z (pick x y z (freeP cs)) = some (parL (pick x y z (freeP (pick x y z (freeP cs))))) from if_pos hpk, free_free hH]
  · rw [← par_cells hH.1, ← parL_part (p := freeP cs) (cellsOf x y z)]
    have h1 : (cellsOf x y z).filter (fun c => !freeP cs c) = (cellsOf x y z).filter fun c => decide (c ∈ cs) := List.filter_congr fun c _ => by unfold freeP; rw [Bool.not_not]
    have e : (cellsOf x y z).filter (fun c => !freeP cs c) = cs := h1.trans hH.pick.symm
    rw [e]; rfl
  · have h1 := parL_le (l := pick x y z (freeP cs)) fun c hc => box4 hH.1 (hpk.mem hc)
    have h2 := hpk.len
    omega
  · have h1 := parL_le (l := cs) fun c hc => box4 hH.1 (hH.mem hc)
    have h2 := hH.len
    omega
theorem places_mem {x y z : Int} {cs l L : List Cell} {p : Cell} (h : placesOf x y z cs l = some L) : p ∈ L ↔ FitsP x y z cs l p := by
  unfold placesOf at h
  split at h
  · rename_i hQ
    cases h
    rw [mem_pick hQ.1.1, decide_eq_true_iff]
    exact ⟨fun h => h.2, fun h => ⟨fits_at hQ.2 h, h⟩⟩
  · cases h
theorem places_len {x y z : Int} {cs l : List Cell} : ((placesOf x y z cs l).getD []).length ≤ 64 := by
  unfold placesOf
  split
  · rename_i hQ
    exact pick_len hQ.1.1 _
  · simp
theorem box_len {x y z : Int} : ((boxOf x y z).getD []).length ≤ 64 := by
  unfold boxOf
  split
  · rename_i hQ
    have hcl : (cellsOf x y z).length = vol x y z := by simp [cellsOf]
    simp only [Option.getD_some]; omega
  · simp
end Go.Ab

/- Contracts: the law of pieces' helpers. -/
namespace Go.Ab
open Go
set_option linter.unusedSimpArgs false
set_option linter.unusedVariables false
set_option maxRecDepth 20000

theorem CellsV.lenV {N : Mem} {v : LV} {l : List Cell} (h : CellsV N v l) : lenV v = some (l.length : Int) := by
  rcases h with ⟨rfl, rfl⟩ | ⟨t, o, rfl, _⟩ <;> rfl
theorem CellsV.at {N : Mem} {v : LV} {l : List Cell} {k : Nat} (h : CellsV N v l) (hk : k < l.length) : ∃ t o, v = .ref t o l.length ∧ getCells N t (o + k * 3) 3 = some (l.getD k default).row := by
  rcases h with ⟨rfl, rfl⟩ | ⟨t, o, rfl, h⟩
  · simp at hk
  · exact ⟨t, o, rfl, Tri.get h hk⟩
theorem list_ext {α : Type} {l l' : List α} {d : α} (hl : l.length = l'.length) (h : ∀ j, j < l.length → l.getD j d = l'.getD j d) : l = l' := by
  apply List.ext_getElem hl
  intro i h2 h3
  have := h i h2
  simpa [h2, h3] using this
theorem k_vCells {l l' : List Cell} {v v' : LV} {M : Mem} (h : CellsV M v l) (h' : CellsV M v' l') (hn : l.length ≤ 1000000000) (hn' : l'.length ≤ 1000000000) : CallsTo PG F.laws_vCells [v, v'] M (.B (decide (l = l'))) M := by
  refine calls_run K.laws_vCells rfl ?_
  have hv := h.lenV
  have hv' := h'.lenV
  by_cases hl : (l.length : Int) = l'.length
  rotate_left
  · rw [decide_eq_false (fun e => hl (by rw [e]))]
    simp (disch := omega) only [C.laws_vCells, hv, hv', hl, ↓SXd, SXu, slBounds, ↓sop, ↓aop, ↓reduceIte, LV.cells, AOp.dst, LV.I, LV.B, LV.U, LV.S, LV.nil, Nat.reduceEqDiff, Nat.reduceAdd, Nat.reduceMul, Nat.reduceSub, Nat.reduceLeDiff, Nat.reduceBEq, Nat.reduceDiv, Nat.reduceMod, Int.reduceToNat, Int.reduceLT, Int.reduceLE, Int.reduceAdd, Int.reduceSub, Int.reduceMul, Int.reduceEq, Int.reduceNeg, reduceCtorEq, resV, resAll, ARes.ev, LV.flat, ite_true, ite_false, exists_eq_left', exists_eq_left, keyOf, implies_true, fillC, capOf]
    exact cmp_drop0 rfl
  have hln : l.length = l'.length := by omega
  simp (disch := omega) only [C.laws_vCells, hv, hv', hl, ↓SXd, SXu, slBounds, ↓sop, ↓aop, ↓reduceIte, LV.cells, AOp.dst, LV.I, LV.B, LV.U, LV.S, LV.nil, Nat.reduceEqDiff, Nat.reduceAdd, Nat.reduceMul, Nat.reduceSub, Nat.reduceLeDiff, Nat.reduceBEq, Nat.reduceDiv, Nat.reduceMod, Int.reduceToNat, Int.reduceLT, Int.reduceLE, Int.reduceAdd, Int.reduceSub, Int.reduceMul, Int.reduceEq, Int.reduceNeg, reduceCtorEq, resV, resAll, ARes.ev, LV.flat, ite_true, ite_false, exists_eq_left', exists_eq_left, keyOf, implies_true, fillC, capOf]
  refine ev_loop (fun m fr M' => ∃ k : Nat, k + m = l.length ∧ M' = M ∧ fr 0 = v ∧ fr 1 = v' ∧ fr 5 = .I k ∧ ∀ j, j < k → l.getD j default = l'.getD j default) l.length ⟨0, by omega, rfl, rfl, rfl, rfl, by omega⟩ ?_
  rintro m fr M' ⟨k, hk, rfl, h0, h1, h5, hj⟩
  simp (disch := omega) only [h0, h1, h5, hv, ↓SXd, SXu, slBounds, ↓sop, ↓aop, ↓reduceIte, LV.cells, AOp.dst, LV.I, LV.B, LV.U, LV.S, LV.nil, Nat.reduceEqDiff, Nat.reduceAdd, Nat.reduceMul, Nat.reduceSub, Nat.reduceLeDiff, Nat.reduceBEq, Nat.reduceDiv, Nat.reduceMod, Int.reduceToNat, Int.reduceLT, Int.reduceLE, Int.reduceAdd, Int.reduceSub, Int.reduceMul, Int.reduceEq, Int.reduceNeg, reduceCtorEq, resV, resAll, ARes.ev, LV.flat, ite_true, ite_false, exists_eq_left', exists_eq_left, keyOf, implies_true, fillC, capOf]
  refine condC_dec (fun hlt => ?_) (fun hlt => ?_)
  · obtain ⟨t, o, rfl, hg⟩ := h.at (k := k) (by omega)
    obtain ⟨t', o', rfl, hg'⟩ := h'.at (k := k) (by omega)
    simp (disch := omega) only [h0, h1, h5, hg, hg', Cell.row, eqV, eqC, if_true, ite_true, Bool.and_true, ↓SXd, SXu, slBounds, ↓sop, ↓aop, ↓reduceIte, LV.cells, AOp.dst, LV.I, LV.B, LV.U, LV.S, LV.nil, Nat.reduceEqDiff, Nat.reduceAdd, Nat.reduceMul, Nat.reduceSub, Nat.reduceLeDiff, Nat.reduceBEq, Nat.reduceDiv, Nat.reduceMod, Int.reduceToNat, Int.reduceLT, Int.reduceLE, Int.reduceAdd, Int.reduceSub, Int.reduceMul, Int.reduceEq, Int.reduceNeg, reduceCtorEq, resV, resAll, ARes.ev, LV.flat, ite_true, ite_false, exists_eq_left', exists_eq_left, keyOf, implies_true, fillC, capOf]
    rw [beq3]
    by_cases he : l.getD k default = l'.getD k default
    · simp (disch := omega) only [h0, h1, h5, he, ↓SXd, SXu, slBounds, ↓sop, ↓aop, ↓reduceIte, LV.cells, AOp.dst, LV.I, LV.B, LV.U, LV.S, LV.nil, Nat.reduceEqDiff, Nat.reduceAdd, Nat.reduceMul, Nat.reduceSub, Nat.reduceLeDiff, Nat.reduceBEq, Nat.reduceDiv, Nat.reduceMod, Int.reduceToNat, Int.reduceLT, Int.reduceLE, Int.reduceAdd, Int.reduceSub, Int.reduceMul, Int.reduceEq, Int.reduceNeg, reduceCtorEq, resV, resAll, ARes.ev, LV.flat, ite_true, ite_false, exists_eq_left', exists_eq_left, keyOf, implies_true, fillC, capOf]
      exact ⟨m - 1, by omega, k + 1, by omega, rfl, h0, h1, eqI (natI _), fun j hj1 => by
        rcases Nat.lt_or_ge j k with h2 | h2
        · exact hj j h2
        · rw [show j = k by omega]; exact he⟩
    · simp (disch := omega) only [h0, h1, h5, he, ↓SXd, SXu, slBounds, ↓sop, ↓aop, ↓reduceIte, LV.cells, AOp.dst, LV.I, LV.B, LV.U, LV.S, LV.nil, Nat.reduceEqDiff, Nat.reduceAdd, Nat.reduceMul, Nat.reduceSub, Nat.reduceLeDiff, Nat.reduceBEq, Nat.reduceDiv, Nat.reduceMod, Int.reduceToNat, Int.reduceLT, Int.reduceLE, Int.reduceAdd, Int.reduceSub, Int.reduceMul, Int.reduceEq, Int.reduceNeg, reduceCtorEq, resV, resAll, ARes.ev, LV.flat, ite_true, ite_false, exists_eq_left', exists_eq_left, keyOf, implies_true, fillC, capOf]
      rw [decide_eq_false (fun e => he (by rw [e]))]
      exact cmp_drop0 rfl
  · simp (disch := omega) only [h0, h1, h5, ↓SXd, SXu, slBounds, ↓sop, ↓aop, ↓reduceIte, LV.cells, AOp.dst, LV.I, LV.B, LV.U, LV.S, LV.nil, Nat.reduceEqDiff, Nat.reduceAdd, Nat.reduceMul, Nat.reduceSub, Nat.reduceLeDiff, Nat.reduceBEq, Nat.reduceDiv, Nat.reduceMod, Int.reduceToNat, Int.reduceLT, Int.reduceLE, Int.reduceAdd, Int.reduceSub, Int.reduceMul, Int.reduceEq, Int.reduceNeg, reduceCtorEq, resV, resAll, ARes.ev, LV.flat, ite_true, ite_false, exists_eq_left', exists_eq_left, keyOf, implies_true, fillC, capOf]
    rw [decide_eq_true (list_ext hln fun j hj1 => hj j (by omega))]
    exact cmp_drop0 rfl
theorem k_vIn {l : List Cell} {v : LV} {c : Cell} {M : Mem} (h : CellsV M v l) (hn : l.length ≤ 1000000000) : CallsTo PG F.laws_vIn [v, .agg [.I c.a, .I c.b, .I c.c]] M (.B (decide (c ∈ l))) M := by
  refine calls_run K.laws_vIn rfl ?_
  have hv := h.lenV
  simp (disch := omega) only [C.laws_vIn, ↓SXd, SXu, slBounds, ↓sop, ↓aop, ↓reduceIte, LV.cells, AOp.dst, LV.I, LV.B, LV.U, LV.S, LV.nil, Nat.reduceEqDiff, Nat.reduceAdd, Nat.reduceMul, Nat.reduceSub, Nat.reduceLeDiff, Nat.reduceBEq, Nat.reduceDiv, Nat.reduceMod, Int.reduceToNat, Int.reduceLT, Int.reduceLE, Int.reduceAdd, Int.reduceSub, Int.reduceMul, Int.reduceEq, Int.reduceNeg, reduceCtorEq, resV, resAll, ARes.ev, LV.flat, ite_true, ite_false, exists_eq_left', exists_eq_left, keyOf, implies_true, fillC, capOf]
  refine ev_loop (fun m fr M' => ∃ k : Nat, k + m = l.length ∧ Pre M M' ∧ Live M' M.length (.row c.row true 0) ∧ fr 0 = v ∧ fr 3 = .ptr M.length 0 ∧ fr 5 = .I k ∧ ∀ j, j < k → l.getD j default ≠ c) l.length ⟨0, by omega, Pre.app _ _, Live.new, rfl, rfl, rfl, by omega⟩ ?_
  rintro m fr M' ⟨k, hk, hpre, b3, h0, h3, h5, hj⟩
  simp (disch := omega) only [h0, h3, h5, hv, ↓SXd, SXu, slBounds, ↓sop, ↓aop, ↓reduceIte, LV.cells, AOp.dst, LV.I, LV.B, LV.U, LV.S, LV.nil, Nat.reduceEqDiff, Nat.reduceAdd, Nat.reduceMul, Nat.reduceSub, Nat.reduceLeDiff, Nat.reduceBEq, Nat.reduceDiv, Nat.reduceMod, Int.reduceToNat, Int.reduceLT, Int.reduceLE, Int.reduceAdd, Int.reduceSub, Int.reduceMul, Int.reduceEq, Int.reduceNeg, reduceCtorEq, resV, resAll, ARes.ev, LV.flat, ite_true, ite_false, exists_eq_left', exists_eq_left, keyOf, implies_true, fillC, capOf]
  refine condC_dec (fun hlt => ?_) (fun hlt => ?_)
  · obtain ⟨t, o, rfl, hg⟩ := (h.pre hpre).at (k := k) (by omega)
    simp (disch := omega) only [h0, h3, h5, hg, b3.cells, Cell.row, eqV, eqC, if_true, ite_true, Bool.and_true, ↓SXd, SXu, slBounds, ↓sop, ↓aop, ↓reduceIte, LV.cells, AOp.dst, LV.I, LV.B, LV.U, LV.S, LV.nil, Nat.reduceEqDiff, Nat.reduceAdd, Nat.reduceMul, Nat.reduceSub, Nat.reduceLeDiff, Nat.reduceBEq, Nat.reduceDiv, Nat.reduceMod, Int.reduceToNat, Int.reduceLT, Int.reduceLE, Int.reduceAdd, Int.reduceSub, Int.reduceMul, Int.reduceEq, Int.reduceNeg, reduceCtorEq, resV, resAll, ARes.ev, LV.flat, ite_true, ite_false, exists_eq_left', exists_eq_left, keyOf, implies_true, fillC, capOf]
    rw [beq3]
    by_cases he : l.getD k default = c
    · have hin : c ∈ l := by rw [← he]; exact getD_mem' (by omega)
      simp (disch := omega) only [h0, h3, h5, he, ↓SXd, SXu, slBounds, ↓sop, ↓aop, ↓reduceIte, LV.cells, AOp.dst, LV.I, LV.B, LV.U, LV.S, LV.nil, Nat.reduceEqDiff, Nat.reduceAdd, Nat.reduceMul, Nat.reduceSub, Nat.reduceLeDiff, Nat.reduceBEq, Nat.reduceDiv, Nat.reduceMod, Int.reduceToNat, Int.reduceLT, Int.reduceLE, Int.reduceAdd, Int.reduceSub, Int.reduceMul, Int.reduceEq, Int.reduceNeg, reduceCtorEq, resV, resAll, ARes.ev, LV.flat, ite_true, ite_false, exists_eq_left', exists_eq_left, keyOf, implies_true, fillC, capOf]
      rw [decide_eq_true hin]
      exact cmp_pre hpre rfl
    · simp (disch := omega) only [h0, h3, h5, he, ↓SXd, SXu, slBounds, ↓sop, ↓aop, ↓reduceIte, LV.cells, AOp.dst, LV.I, LV.B, LV.U, LV.S, LV.nil, Nat.reduceEqDiff, Nat.reduceAdd, Nat.reduceMul, Nat.reduceSub, Nat.reduceLeDiff, Nat.reduceBEq, Nat.reduceDiv, Nat.reduceMod, Int.reduceToNat, Int.reduceLT, Int.reduceLE, Int.reduceAdd, Int.reduceSub, Int.reduceMul, Int.reduceEq, Int.reduceNeg, reduceCtorEq, resV, resAll, ARes.ev, LV.flat, ite_true, ite_false, exists_eq_left', exists_eq_left, keyOf, implies_true, fillC, capOf]
      exact ⟨m - 1, by omega, k + 1, by omega, hpre, b3, h0, h3, eqI (natI _), fun j hj1 => by
        rcases Nat.lt_or_ge j k with h2 | h2
        · exact hj j h2
        · rw [show j = k by omega]; exact he⟩
  · simp (disch := omega) only [h0, h3, h5, ↓SXd, SXu, slBounds, ↓sop, ↓aop, ↓reduceIte, LV.cells, AOp.dst, LV.I, LV.B, LV.U, LV.S, LV.nil, Nat.reduceEqDiff, Nat.reduceAdd, Nat.reduceMul, Nat.reduceSub, Nat.reduceLeDiff, Nat.reduceBEq, Nat.reduceDiv, Nat.reduceMod, Int.reduceToNat, Int.reduceLT, Int.reduceLE, Int.reduceAdd, Int.reduceSub, Int.reduceMul, Int.reduceEq, Int.reduceNeg, reduceCtorEq, resV, resAll, ARes.ev, LV.flat, ite_true, ite_false, exists_eq_left', exists_eq_left, keyOf, implies_true, fillC, capOf]
    have hno : c ∉ l := fun hin => by
      obtain ⟨j, hjl, rfl⟩ := List.getElem_of_mem hin
      exact hj j (by omega) (by simp [hjl])
    rw [decide_eq_false hno]
    exact cmp_pre hpre rfl
end Go.Ab

/- The law of pieces. -/
namespace Go.Ab
open Go
set_option linter.unusedSimpArgs false
set_option linter.unusedVariables false
set_option maxRecDepth 20000

theorem esz_pre {M N : Mem} {t : Nat} (h : getEsz M t = some 1) (ht : t < M.length) (hp : Pre M N) : getEsz N t = some 1 := by
  unfold getEsz at *
  rw [hp.2 t ht]; exact h
theorem pp_some {l : List Cell} : (ppOf l).isSome = decide (PieceOK l) := by
  by_cases hp : PieceOK l
  · rw [show ppOf l = some (max (parL l) (0 - parL l)) from if_pos hp, decide_eq_true hp]; rfl
  · rw [show ppOf l = none from if_neg hp, decide_eq_false hp]; rfl
theorem fit_some {x y z : Int} {cs l : List Cell} {p : Cell} : (fitOf x y z cs l p).isSome = (placesOf x y z cs l).isSome := by
  unfold fitOf placesOf
  split <;> rfl
theorem SlC.tri {N : Mem} {v : LV} {l : List Cell} (h : SlC N v l) (h0 : 0 < l.length) : ∃ u, v = .ref u 0 l.length ∧ Tri N u 0 l := by
  rcases h with ⟨rfl, rfl⟩ | ⟨u, ex, rfl, hu⟩
  · simp at h0
  · rw [triL_append] at hu
    exact ⟨u, rfl, hu.hasL⟩
theorem l_FnPieces {t : Nat} {bs : List Nat} {M : Mem} (hh : Bytes M t 0 bs ∧ getEsz M t = some 1) (hn : bs.length ≤ 9223372036854775807 ∧ ∀ b ∈ bs, b ≤ 255) :
    CallsR PG F.laws_FnPieces [.ref t 0 bs.length] M fun v _ => v = .B true := by
  obtain ⟨h, hesz⟩ := hh
  have htM := h.lt
  refine callsR_run K.laws_FnPieces rfl ?_
  simp (disch := omega) only [C.laws_FnPieces, ↓SXd, SXu, slBounds, ↓sop, ↓aop, ↓reduceIte, LV.cells, AOp.dst, LV.I, LV.B, LV.U, LV.S, LV.nil, Nat.reduceEqDiff, Nat.reduceAdd, Nat.reduceMul, Nat.reduceSub, Nat.reduceLeDiff, Nat.reduceBEq, Nat.reduceDiv, Nat.reduceMod, Int.reduceToNat, Int.reduceLT, Int.reduceLE, Int.reduceAdd, Int.reduceSub, Int.reduceMul, Int.reduceEq, Int.reduceNeg, reduceCtorEq, resV, resAll, ARes.ev, LV.flat, ite_true, ite_false, exists_eq_left', exists_eq_left, keyOf, implies_true, fillC, capOf]
  refine callK_of (k_vBig hn.1) ?_
  simp (disch := omega) only [↓SXd, SXu, slBounds, ↓sop, ↓aop, ↓reduceIte, LV.cells, AOp.dst, LV.I, LV.B, LV.U, LV.S, LV.nil, Nat.reduceEqDiff, Nat.reduceAdd, Nat.reduceMul, Nat.reduceSub, Nat.reduceLeDiff, Nat.reduceBEq, Nat.reduceDiv, Nat.reduceMod, Int.reduceToNat, Int.reduceLT, Int.reduceLE, Int.reduceAdd, Int.reduceSub, Int.reduceMul, Int.reduceEq, Int.reduceNeg, reduceCtorEq, resV, resAll, ARes.ev, LV.flat, ite_true, ite_false, exists_eq_left', exists_eq_left, keyOf, implies_true, fillC, capOf]
  by_cases hbig : (65536 : Int) < (bs.length : Nat)
  · simp (disch := omega) only [hbig, ↓SXd, SXu, slBounds, ↓sop, ↓aop, ↓reduceIte, LV.cells, AOp.dst, LV.I, LV.B, LV.U, LV.S, LV.nil, Nat.reduceEqDiff, Nat.reduceAdd, Nat.reduceMul, Nat.reduceSub, Nat.reduceLeDiff, Nat.reduceBEq, Nat.reduceDiv, Nat.reduceMod, Int.reduceToNat, Int.reduceLT, Int.reduceLE, Int.reduceAdd, Int.reduceSub, Int.reduceMul, Int.reduceEq, Int.reduceNeg, reduceCtorEq, resV, resAll, ARes.ev, LV.flat, ite_true, ite_false, exists_eq_left', exists_eq_left, keyOf, implies_true, fillC, capOf]
    rfl
  have hl : bs.length ≤ 1000000000 := by omega
  have hl6 : bs.length ≤ 1000000 := by omega
  simp (disch := omega) only [hbig, ↓SXd, SXu, slBounds, ↓sop, ↓aop, ↓reduceIte, LV.cells, AOp.dst, LV.I, LV.B, LV.U, LV.S, LV.nil, Nat.reduceEqDiff, Nat.reduceAdd, Nat.reduceMul, Nat.reduceSub, Nat.reduceLeDiff, Nat.reduceBEq, Nat.reduceDiv, Nat.reduceMod, Int.reduceToNat, Int.reduceLT, Int.reduceLE, Int.reduceAdd, Int.reduceSub, Int.reduceMul, Int.reduceEq, Int.reduceNeg, reduceCtorEq, resV, resAll, ARes.ev, LV.flat, ite_true, ite_false, exists_eq_left', exists_eq_left, keyOf, implies_true, fillC, capOf]
  refine callR_of (d_DrawFitsAt h hn.2 hl) ?_
  rintro _ N1 ⟨⟨_, _, c, rfl, ⟨x, y, z, cs, u, rfl, hu, hul, hcl⟩, ⟨lp, u4, rfl, hu4, hu4l, hlp⟩⟩, hp1⟩
  simp (disch := omega) only [splice, ↓SXd, SXu, slBounds, ↓sop, ↓aop, ↓reduceIte, LV.cells, AOp.dst, LV.I, LV.B, LV.U, LV.S, LV.nil, Nat.reduceEqDiff, Nat.reduceAdd, Nat.reduceMul, Nat.reduceSub, Nat.reduceLeDiff, Nat.reduceBEq, Nat.reduceDiv, Nat.reduceMod, Int.reduceToNat, Int.reduceLT, Int.reduceLE, Int.reduceAdd, Int.reduceSub, Int.reduceMul, Int.reduceEq, Int.reduceNeg, reduceCtorEq, resV, resAll, ARes.ev, LV.flat, ite_true, ite_false, exists_eq_left', exists_eq_left, keyOf, implies_true, fillC, capOf]
  have hcn : cs.length ≤ 1000000000 := by omega
  have hlpn : lp.length ≤ 1000000000 := by omega
  have b3 : Live (N1 ++ [some (.row [.I x, .I y, .I z, .ref u 0 cs.length] true 0), some (.row [.I c.a, .I c.b, .I c.c] true 0)]) N1.length (.row [.I x, .I y, .I z, .ref u 0 cs.length] true 0) := Live.new
  have b5 : Live (N1 ++ [some (.row [.I x, .I y, .I z, .ref u 0 cs.length] true 0), some (.row [.I c.a, .I c.b, .I c.c] true 0)]) (N1.length + 1) (.row [.I c.a, .I c.b, .I c.c] true 0) := Live.newj (j := 1) rfl
  have T1 : Tri (N1 ++ [some (.row [.I x, .I y, .I z, .ref u 0 cs.length] true 0), some (.row [.I c.a, .I c.b, .I c.c] true 0)]) u 0 cs := (hu.app).has
  have P1 : Tri (N1 ++ [some (.row [.I x, .I y, .I z, .ref u 0 cs.length] true 0), some (.row [.I c.a, .I c.b, .I c.c] true 0)]) u4 0 lp := (hu4.app).has
  have hP1 : Pre M (N1 ++ [some (.row [.I x, .I y, .I z, .ref u 0 cs.length] true 0), some (.row [.I c.a, .I c.b, .I c.c] true 0)]) := hp1.trans (Pre.app _ _)
  generalize N1.length = m3 at b3 b5 ⊢
  generalize N1 ++ [some (Blk.row [.I x, .I y, .I z, .ref u 0 cs.length] true 0), some (.row [.I c.a, .I c.b, .I c.c] true 0)] = N1' at b3 b5 T1 P1 hP1 ⊢
  refine callK_of (g_FitsAt (p := c) T1 hcn P1 hlpn) ?_
  simp (disch := omega) only [b3.cells, b5.cells, ↓SXd, SXu, slBounds, ↓sop, ↓aop, ↓reduceIte, LV.cells, AOp.dst, LV.I, LV.B, LV.U, LV.S, LV.nil, Nat.reduceEqDiff, Nat.reduceAdd, Nat.reduceMul, Nat.reduceSub, Nat.reduceLeDiff, Nat.reduceBEq, Nat.reduceDiv, Nat.reduceMod, Int.reduceToNat, Int.reduceLT, Int.reduceLE, Int.reduceAdd, Int.reduceSub, Int.reduceMul, Int.reduceEq, Int.reduceNeg, reduceCtorEq, resV, resAll, ARes.ev, LV.flat, ite_true, ite_false, exists_eq_left', exists_eq_left, keyOf, implies_true, fillC, capOf]
  refine callK_of (h_sFitsAt (p := c) T1 hcn P1 hlpn) ?_
  simp (disch := omega) only [↓SXd, SXu, slBounds, ↓sop, ↓aop, ↓reduceIte, LV.cells, AOp.dst, LV.I, LV.B, LV.U, LV.S, LV.nil, Nat.reduceEqDiff, Nat.reduceAdd, Nat.reduceMul, Nat.reduceSub, Nat.reduceLeDiff, Nat.reduceBEq, Nat.reduceDiv, Nat.reduceMod, Int.reduceToNat, Int.reduceLT, Int.reduceLE, Int.reduceAdd, Int.reduceSub, Int.reduceMul, Int.reduceEq, Int.reduceNeg, reduceCtorEq, resV, resAll, ARes.ev, LV.flat, ite_true, ite_false, exists_eq_left', exists_eq_left, keyOf, implies_true, fillC, capOf]
  refine callR_of (k_vCut (n := 1) (h.pre hP1) (esz_pre hesz htM hP1) hn.2 hl6 (by omega)) ?_
  rintro _ N2 ⟨uc, es, rfl, hes, hes255, hesl, hp2⟩
  simp (disch := omega) only [↓SXd, SXu, slBounds, ↓sop, ↓aop, ↓reduceIte, LV.cells, AOp.dst, LV.I, LV.B, LV.U, LV.S, LV.nil, Nat.reduceEqDiff, Nat.reduceAdd, Nat.reduceMul, Nat.reduceSub, Nat.reduceLeDiff, Nat.reduceBEq, Nat.reduceDiv, Nat.reduceMod, Int.reduceToNat, Int.reduceLT, Int.reduceLE, Int.reduceAdd, Int.reduceSub, Int.reduceMul, Int.reduceEq, Int.reduceNeg, reduceCtorEq, resV, resAll, ARes.ev, LV.flat, ite_true, ite_false, exists_eq_left', exists_eq_left, keyOf, implies_true, fillC, capOf]
  refine callR_of (d_DrawPlacesFor hes hes255 (by omega)) ?_
  rintro _ N3 ⟨⟨_, _, rfl, ⟨x2, y2, z2, cs2, u2, rfl, hu2, hul2, hcl2⟩, ⟨lo, u11, rfl, hu11, hu11l, hlo⟩⟩, hp3⟩
  simp (disch := omega) only [splice, ↓SXd, SXu, slBounds, ↓sop, ↓aop, ↓reduceIte, LV.cells, AOp.dst, LV.I, LV.B, LV.U, LV.S, LV.nil, Nat.reduceEqDiff, Nat.reduceAdd, Nat.reduceMul, Nat.reduceSub, Nat.reduceLeDiff, Nat.reduceBEq, Nat.reduceDiv, Nat.reduceMod, Int.reduceToNat, Int.reduceLT, Int.reduceLE, Int.reduceAdd, Int.reduceSub, Int.reduceMul, Int.reduceEq, Int.reduceNeg, reduceCtorEq, resV, resAll, ARes.ev, LV.flat, ite_true, ite_false, exists_eq_left', exists_eq_left, keyOf, implies_true, fillC, capOf]
  have hcn2 : cs2.length ≤ 1000000000 := by omega
  have hlon : lo.length ≤ 1000000000 := by omega
  have b10 : Live (N3 ++ [some (.row [.I x2, .I y2, .I z2, .ref u2 0 cs2.length] true 0)]) N3.length (.row [.I x2, .I y2, .I z2, .ref u2 0 cs2.length] true 0) := Live.new
  have T3 : Tri (N3 ++ [some (.row [.I x2, .I y2, .I z2, .ref u2 0 cs2.length] true 0)]) u2 0 cs2 := (hu2.app).has
  have P3 : Tri (N3 ++ [some (.row [.I x2, .I y2, .I z2, .ref u2 0 cs2.length] true 0)]) u11 0 lo := (hu11.app).has
  have hp3' : Pre N1' (N3 ++ [some (.row [.I x2, .I y2, .I z2, .ref u2 0 cs2.length] true 0)]) := hp2.trans (hp3.trans (Pre.app _ _))
  generalize N3.length = m10 at b10 ⊢
  generalize N3 ++ [some (Blk.row [.I x2, .I y2, .I z2, .ref u2 0 cs2.length] true 0)] = N3' at b10 T3 P3 hp3' ⊢
  refine callR_of (g_PlacesFor T3 hcn2 P3 hlon) ?_
  rintro _ N4 ⟨w12, rfl, hw12, hwn12, hp4⟩
  simp (disch := omega) only [(b10.pre hp4).cells, ↓SXd, SXu, slBounds, ↓sop, ↓aop, ↓reduceIte, LV.cells, AOp.dst, LV.I, LV.B, LV.U, LV.S, LV.nil, Nat.reduceEqDiff, Nat.reduceAdd, Nat.reduceMul, Nat.reduceSub, Nat.reduceLeDiff, Nat.reduceBEq, Nat.reduceDiv, Nat.reduceMod, Int.reduceToNat, Int.reduceLT, Int.reduceLE, Int.reduceAdd, Int.reduceSub, Int.reduceMul, Int.reduceEq, Int.reduceNeg, reduceCtorEq, resV, resAll, ARes.ev, LV.flat, ite_true, ite_false, exists_eq_left', exists_eq_left, keyOf, implies_true, fillC, capOf]
  refine callR_of (h_sPlacesFor (T3.pre hp4) hcn2 (P3.pre hp4) hlon) ?_
  rintro _ N5 ⟨w14, rfl, hw14, hwn14, hp5⟩
  simp (disch := omega) only [↓SXd, SXu, slBounds, ↓sop, ↓aop, ↓reduceIte, LV.cells, AOp.dst, LV.I, LV.B, LV.U, LV.S, LV.nil, Nat.reduceEqDiff, Nat.reduceAdd, Nat.reduceMul, Nat.reduceSub, Nat.reduceLeDiff, Nat.reduceBEq, Nat.reduceDiv, Nat.reduceMod, Int.reduceToNat, Int.reduceLT, Int.reduceLE, Int.reduceAdd, Int.reduceSub, Int.reduceMul, Int.reduceEq, Int.reduceNeg, reduceCtorEq, resV, resAll, ARes.ev, LV.flat, ite_true, ite_false, exists_eq_left', exists_eq_left, keyOf, implies_true, fillC, capOf]
  have hP5 : Pre M N5 := hP1.trans (hp3'.trans (hp4.trans hp5))
  refine callR_of (k_vCut (n := 2) (h.pre hP5) (esz_pre hesz htM hP5) hn.2 hl6 (by omega)) ?_
  rintro _ N6 ⟨uc2, es2, rfl, hes2, hes2255, hesl2, hp6⟩
  simp (disch := omega) only [↓SXd, SXu, slBounds, ↓sop, ↓aop, ↓reduceIte, LV.cells, AOp.dst, LV.I, LV.B, LV.U, LV.S, LV.nil, Nat.reduceEqDiff, Nat.reduceAdd, Nat.reduceMul, Nat.reduceSub, Nat.reduceLeDiff, Nat.reduceBEq, Nat.reduceDiv, Nat.reduceMod, Int.reduceToNat, Int.reduceLT, Int.reduceLE, Int.reduceAdd, Int.reduceSub, Int.reduceMul, Int.reduceEq, Int.reduceNeg, reduceCtorEq, resV, resAll, ARes.ev, LV.flat, ite_true, ite_false, exists_eq_left', exists_eq_left, keyOf, implies_true, fillC, capOf]
  refine callR_of (d_DrawBoxPiece hes2 hes2255 (by omega)) ?_
  rintro _ N7 ⟨⟨bx, by', bz, rfl⟩, hp7⟩
  simp (disch := omega) only [↓SXd, SXu, slBounds, ↓sop, ↓aop, ↓reduceIte, LV.cells, AOp.dst, LV.I, LV.B, LV.U, LV.S, LV.nil, Nat.reduceEqDiff, Nat.reduceAdd, Nat.reduceMul, Nat.reduceSub, Nat.reduceLeDiff, Nat.reduceBEq, Nat.reduceDiv, Nat.reduceMod, Int.reduceToNat, Int.reduceLT, Int.reduceLE, Int.reduceAdd, Int.reduceSub, Int.reduceMul, Int.reduceEq, Int.reduceNeg, reduceCtorEq, resV, resAll, ARes.ev, LV.flat, ite_true, ite_false, exists_eq_left', exists_eq_left, keyOf, implies_true, fillC, capOf]
  refine callR_of g_BoxPiece ?_
  rintro _ N8 ⟨w19, rfl, hw19, hwn19, hp8⟩
  simp (disch := omega) only [↓SXd, SXu, slBounds, ↓sop, ↓aop, ↓reduceIte, LV.cells, AOp.dst, LV.I, LV.B, LV.U, LV.S, LV.nil, Nat.reduceEqDiff, Nat.reduceAdd, Nat.reduceMul, Nat.reduceSub, Nat.reduceLeDiff, Nat.reduceBEq, Nat.reduceDiv, Nat.reduceMod, Int.reduceToNat, Int.reduceLT, Int.reduceLE, Int.reduceAdd, Int.reduceSub, Int.reduceMul, Int.reduceEq, Int.reduceNeg, reduceCtorEq, resV, resAll, ARes.ev, LV.flat, ite_true, ite_false, exists_eq_left', exists_eq_left, keyOf, implies_true, fillC, capOf]
  refine callR_of h_sBoxPiece ?_
  rintro _ N9 ⟨w21, rfl, hw21, hwn21, hp9⟩
  simp (disch := omega) only [↓SXd, SXu, slBounds, ↓sop, ↓aop, ↓reduceIte, LV.cells, AOp.dst, LV.I, LV.B, LV.U, LV.S, LV.nil, Nat.reduceEqDiff, Nat.reduceAdd, Nat.reduceMul, Nat.reduceSub, Nat.reduceLeDiff, Nat.reduceBEq, Nat.reduceDiv, Nat.reduceMod, Int.reduceToNat, Int.reduceLT, Int.reduceLE, Int.reduceAdd, Int.reduceSub, Int.reduceMul, Int.reduceEq, Int.reduceNeg, reduceCtorEq, resV, resAll, ARes.ev, LV.flat, ite_true, ite_false, exists_eq_left', exists_eq_left, keyOf, implies_true, fillC, capOf]
  have hP9 : Pre M N9 := hP5.trans (hp6.trans (hp7.trans (hp8.trans hp9)))
  refine callR_of (d_DrawPieceParity (h.pre hP9) hn.2 hl) ?_
  rintro _ N10 ⟨⟨lv, u23, rfl, hu23, hu23l, hlv⟩, hp10⟩
  have hlvn : lv.length ≤ 1000000000 := by omega
  have V10 : Tri N10 u23 0 lv := hu23.has
  simp (disch := omega) only [↓SXd, SXu, slBounds, ↓sop, ↓aop, ↓reduceIte, LV.cells, AOp.dst, LV.I, LV.B, LV.U, LV.S, LV.nil, Nat.reduceEqDiff, Nat.reduceAdd, Nat.reduceMul, Nat.reduceSub, Nat.reduceLeDiff, Nat.reduceBEq, Nat.reduceDiv, Nat.reduceMod, Int.reduceToNat, Int.reduceLT, Int.reduceLE, Int.reduceAdd, Int.reduceSub, Int.reduceMul, Int.reduceEq, Int.reduceNeg, reduceCtorEq, resV, resAll, ARes.ev, LV.flat, ite_true, ite_false, exists_eq_left', exists_eq_left, keyOf, implies_true, fillC, capOf]
  refine callK_of (g_PieceParity V10 hlvn) ?_
  simp (disch := omega) only [↓SXd, SXu, slBounds, ↓sop, ↓aop, ↓reduceIte, LV.cells, AOp.dst, LV.I, LV.B, LV.U, LV.S, LV.nil, Nat.reduceEqDiff, Nat.reduceAdd, Nat.reduceMul, Nat.reduceSub, Nat.reduceLeDiff, Nat.reduceBEq, Nat.reduceDiv, Nat.reduceMod, Int.reduceToNat, Int.reduceLT, Int.reduceLE, Int.reduceAdd, Int.reduceSub, Int.reduceMul, Int.reduceEq, Int.reduceNeg, reduceCtorEq, resV, resAll, ARes.ev, LV.flat, ite_true, ite_false, exists_eq_left', exists_eq_left, keyOf, implies_true, fillC, capOf]
  refine callK_of (h_sPieceParity V10 hlvn) ?_
  simp (disch := omega) only [↓SXd, SXu, slBounds, ↓sop, ↓aop, ↓reduceIte, LV.cells, AOp.dst, LV.I, LV.B, LV.U, LV.S, LV.nil, Nat.reduceEqDiff, Nat.reduceAdd, Nat.reduceMul, Nat.reduceSub, Nat.reduceLeDiff, Nat.reduceBEq, Nat.reduceDiv, Nat.reduceMod, Int.reduceToNat, Int.reduceLT, Int.reduceLE, Int.reduceAdd, Int.reduceSub, Int.reduceMul, Int.reduceEq, Int.reduceNeg, reduceCtorEq, resV, resAll, ARes.ev, LV.flat, ite_true, ite_false, exists_eq_left', exists_eq_left, keyOf, implies_true, fillC, capOf]
  have hP10 : Pre M N10 := hP9.trans hp10
  refine callR_of (k_vCut (n := 1) (h.pre hP10) (esz_pre hesz htM hP10) hn.2 hl6 (by omega)) ?_
  rintro _ N11 ⟨uc3, es3, rfl, hes3, hes3255, hesl3, hp11⟩
  simp (disch := omega) only [↓SXd, SXu, slBounds, ↓sop, ↓aop, ↓reduceIte, LV.cells, AOp.dst, LV.I, LV.B, LV.U, LV.S, LV.nil, Nat.reduceEqDiff, Nat.reduceAdd, Nat.reduceMul, Nat.reduceSub, Nat.reduceLeDiff, Nat.reduceBEq, Nat.reduceDiv, Nat.reduceMod, Int.reduceToNat, Int.reduceLT, Int.reduceLE, Int.reduceAdd, Int.reduceSub, Int.reduceMul, Int.reduceEq, Int.reduceNeg, reduceCtorEq, resV, resAll, ARes.ev, LV.flat, ite_true, ite_false, exists_eq_left', exists_eq_left, keyOf, implies_true, fillC, capOf]
  refine callR_of (d_DrawFreeParity hes3 hes3255 (by omega)) ?_
  rintro _ N12 ⟨⟨x5, y5, z5, cs5, u5, rfl, hu5, hul5, hcl5⟩, hp12⟩
  simp (disch := omega) only [splice, ↓SXd, SXu, slBounds, ↓sop, ↓aop, ↓reduceIte, LV.cells, AOp.dst, LV.I, LV.B, LV.U, LV.S, LV.nil, Nat.reduceEqDiff, Nat.reduceAdd, Nat.reduceMul, Nat.reduceSub, Nat.reduceLeDiff, Nat.reduceBEq, Nat.reduceDiv, Nat.reduceMod, Int.reduceToNat, Int.reduceLT, Int.reduceLE, Int.reduceAdd, Int.reduceSub, Int.reduceMul, Int.reduceEq, Int.reduceNeg, reduceCtorEq, resV, resAll, ARes.ev, LV.flat, ite_true, ite_false, exists_eq_left', exists_eq_left, keyOf, implies_true, fillC, capOf]
  have hcn5 : cs5.length ≤ 1000000000 := by omega
  have b28 : Live (N12 ++ [some (.row [.I x5, .I y5, .I z5, .ref u5 0 cs5.length] true 0)]) N12.length (.row [.I x5, .I y5, .I z5, .ref u5 0 cs5.length] true 0) := Live.new
  have T5 : Tri (N12 ++ [some (.row [.I x5, .I y5, .I z5, .ref u5 0 cs5.length] true 0)]) u5 0 cs5 := (hu5.app).has
  have hp12' : Pre N10 (N12 ++ [some (.row [.I x5, .I y5, .I z5, .ref u5 0 cs5.length] true 0)]) := hp11.trans (hp12.trans (Pre.app _ _))
  generalize N12.length = m28 at b28 ⊢
  generalize N12 ++ [some (Blk.row [.I x5, .I y5, .I z5, .ref u5 0 cs5.length] true 0)] = W at b28 T5 hp12' ⊢
  refine callK_of (g_FreeParity T5 hcn5) ?_
  simp (disch := omega) only [b28.cells, ↓SXd, SXu, slBounds, ↓sop, ↓aop, ↓reduceIte, LV.cells, AOp.dst, LV.I, LV.B, LV.U, LV.S, LV.nil, Nat.reduceEqDiff, Nat.reduceAdd, Nat.reduceMul, Nat.reduceSub, Nat.reduceLeDiff, Nat.reduceBEq, Nat.reduceDiv, Nat.reduceMod, Int.reduceToNat, Int.reduceLT, Int.reduceLE, Int.reduceAdd, Int.reduceSub, Int.reduceMul, Int.reduceEq, Int.reduceNeg, reduceCtorEq, resV, resAll, ARes.ev, LV.flat, ite_true, ite_false, exists_eq_left', exists_eq_left, keyOf, implies_true, fillC, capOf]
  refine callK_of (h_sFreeParity T5 hcn5) ?_
  simp (disch := omega) only [beq_self_eq_true, Bool.not_true, ↓SXd, SXu, slBounds, ↓sop, ↓aop, ↓reduceIte, LV.cells, AOp.dst, LV.I, LV.B, LV.U, LV.S, LV.nil, Nat.reduceEqDiff, Nat.reduceAdd, Nat.reduceMul, Nat.reduceSub, Nat.reduceLeDiff, Nat.reduceBEq, Nat.reduceDiv, Nat.reduceMod, Int.reduceToNat, Int.reduceLT, Int.reduceLE, Int.reduceAdd, Int.reduceSub, Int.reduceMul, Int.reduceEq, Int.reduceNeg, reduceCtorEq, resV, resAll, ARes.ev, LV.flat, ite_true, ite_false, exists_eq_left', exists_eq_left, keyOf, implies_true, fillC, capOf]
  have hA : Pre N5 W := hp6.trans (hp7.trans (hp8.trans (hp9.trans (hp10.trans hp12'))))
  have hB : Pre N9 W := hp10.trans hp12'
  have hpl := places_len (x := x2) (y := y2) (z := z2) (cs := cs2) (l := lo)
  have hbl := box_len (x := bx) (y := by') (z := bz)
  have hv1 := k_vCells (l := (placesOf x2 y2 z2 cs2 lo).getD []) (l' := (placesOf x2 y2 z2 cs2 lo).getD []) (hw12.pre (hp5.trans hA)).v (hw14.pre hA).v (by omega) (by omega)
  rw [decide_eq_true rfl] at hv1
  refine callK_of hv1 ?_
  simp (disch := omega) only [beq_self_eq_true, Bool.not_true, ↓SXd, SXu, slBounds, ↓sop, ↓aop, ↓reduceIte, LV.cells, AOp.dst, LV.I, LV.B, LV.U, LV.S, LV.nil, Nat.reduceEqDiff, Nat.reduceAdd, Nat.reduceMul, Nat.reduceSub, Nat.reduceLeDiff, Nat.reduceBEq, Nat.reduceDiv, Nat.reduceMod, Int.reduceToNat, Int.reduceLT, Int.reduceLE, Int.reduceAdd, Int.reduceSub, Int.reduceMul, Int.reduceEq, Int.reduceNeg, reduceCtorEq, resV, resAll, ARes.ev, LV.flat, ite_true, ite_false, exists_eq_left', exists_eq_left, keyOf, implies_true, fillC, capOf]
  have hv2 := k_vCells (l := (boxOf bx by' bz).getD []) (l' := (boxOf bx by' bz).getD []) (hw19.pre (hp9.trans hB)).v (hw21.pre hB).v (by omega) (by omega)
  rw [decide_eq_true rfl] at hv2
  refine callK_of hv2 ?_
  simp (disch := omega) only [beq_self_eq_true, Bool.not_true, ↓SXd, SXu, slBounds, ↓sop, ↓aop, ↓reduceIte, LV.cells, AOp.dst, LV.I, LV.B, LV.U, LV.S, LV.nil, Nat.reduceEqDiff, Nat.reduceAdd, Nat.reduceMul, Nat.reduceSub, Nat.reduceLeDiff, Nat.reduceBEq, Nat.reduceDiv, Nat.reduceMod, Int.reduceToNat, Int.reduceLT, Int.reduceLE, Int.reduceAdd, Int.reduceSub, Int.reduceMul, Int.reduceEq, Int.reduceNeg, reduceCtorEq, resV, resAll, ARes.ev, LV.flat, ite_true, ite_false, exists_eq_left', exists_eq_left, keyOf, implies_true, fillC, capOf]
  refine callK_of (g_IsPiece (V10.pre hp12') hlvn) ?_
  simp (disch := omega) only [↓SXd, SXu, slBounds, ↓sop, ↓aop, ↓reduceIte, LV.cells, AOp.dst, LV.I, LV.B, LV.U, LV.S, LV.nil, Nat.reduceEqDiff, Nat.reduceAdd, Nat.reduceMul, Nat.reduceSub, Nat.reduceLeDiff, Nat.reduceBEq, Nat.reduceDiv, Nat.reduceMod, Int.reduceToNat, Int.reduceLT, Int.reduceLE, Int.reduceAdd, Int.reduceSub, Int.reduceMul, Int.reduceEq, Int.reduceNeg, reduceCtorEq, resV, resAll, ARes.ev, LV.flat, ite_true, ite_false, exists_eq_left', exists_eq_left, keyOf, implies_true, fillC, capOf]
  refine callK_of (h_sIsPiece (V10.pre hp12') hlvn) ?_
  simp (disch := omega) only [beq_self_eq_true, Bool.not_true, ↓SXd, SXu, slBounds, ↓sop, ↓aop, ↓reduceIte, LV.cells, AOp.dst, LV.I, LV.B, LV.U, LV.S, LV.nil, Nat.reduceEqDiff, Nat.reduceAdd, Nat.reduceMul, Nat.reduceSub, Nat.reduceLeDiff, Nat.reduceBEq, Nat.reduceDiv, Nat.reduceMod, Int.reduceToNat, Int.reduceLT, Int.reduceLE, Int.reduceAdd, Int.reduceSub, Int.reduceMul, Int.reduceEq, Int.reduceNeg, reduceCtorEq, resV, resAll, ARes.ev, LV.flat, ite_true, ite_false, exists_eq_left', exists_eq_left, keyOf, implies_true, fillC, capOf]
  refine callK_of (g_IsPiece (V10.pre hp12') hlvn) ?_
  have hPW : Pre N1' W := hp3'.trans (hp4.trans (hp5.trans hA))
  have b3W := b3.pre hPW
  have b5W := b5.pre hPW
  have TW := T1.pre hPW
  have PW := P1.pre hPW
  have h3W : Pre N3' W := hp4.trans (hp5.trans hA)
  have b10W := b10.pre h3W
  have T3W := T3.pre h3W
  have P3W := P3.pre h3W
  have w12W := hw12.pre (hp5.trans hA)
  have w19W := hw19.pre (hp9.trans hB)
  simp (disch := omega) only [pp_some, fit_some, beq_self_eq_true, Bool.not_true, ↓SXd, SXu, slBounds, ↓sop, ↓aop, ↓reduceIte, LV.cells, AOp.dst, LV.I, LV.B, LV.U, LV.S, LV.nil, Nat.reduceEqDiff, Nat.reduceAdd, Nat.reduceMul, Nat.reduceSub, Nat.reduceLeDiff, Nat.reduceBEq, Nat.reduceDiv, Nat.reduceMod, Int.reduceToNat, Int.reduceLT, Int.reduceLE, Int.reduceAdd, Int.reduceSub, Int.reduceMul, Int.reduceEq, Int.reduceNeg, reduceCtorEq, resV, resAll, ARes.ev, LV.flat, ite_true, ite_false, exists_eq_left', exists_eq_left, keyOf, implies_true, fillC, capOf]
  refine cond_cut (fun fr' M' => M' = W ∧ fr' 3 = .ptr m3 0 ∧ fr' 4 = .ref u4 0 lp.length ∧ fr' 5 = .ptr (m3 + 1) 0 ∧ fr' 6 = .B ((fitOf x y z cs lp c).getD false) ∧ fr' 7 = .B (placesOf x y z cs lp).isSome ∧ fr' 10 = .ptr m10 0 ∧ fr' 11 = .ref u11 0 lo.length ∧ fr' 12 = w12 ∧ fr' 13 = .B (placesOf x2 y2 z2 cs2 lo).isSome ∧ fr' 28 = .ptr m28 0 ∧ fr' 29 = .I ((fpOf x5 y5 z5 cs5).getD 0) ∧ fr' 30 = .B (fpOf x5 y5 z5 cs5).isSome) ?_ ?_
  · rcases hbx : boxOf bx by' bz with _ | lb
    · simp (disch := omega) only [Option.isSome_none, ↓SXd, SXu, slBounds, ↓sop, ↓aop, ↓reduceIte, LV.cells, AOp.dst, LV.I, LV.B, LV.U, LV.S, LV.nil, Nat.reduceEqDiff, Nat.reduceAdd, Nat.reduceMul, Nat.reduceSub, Nat.reduceLeDiff, Nat.reduceBEq, Nat.reduceDiv, Nat.reduceMod, Int.reduceToNat, Int.reduceLT, Int.reduceLE, Int.reduceAdd, Int.reduceSub, Int.reduceMul, Int.reduceEq, Int.reduceNeg, reduceCtorEq, resV, resAll, ARes.ev, LV.flat, ite_true, ite_false, exists_eq_left', exists_eq_left, keyOf, implies_true, fillC, capOf]
    obtain ⟨hpb, hlb, hppb, hb0, hb5, hS⟩ := box_law hbx
    have hmb := mul_bound hS.1 hS.2.1
    rw [hbx, Option.getD_some] at w19W
    obtain ⟨ub, rfl, hTb⟩ := w19W.tri (by have := hpb.1.1; omega)
    have hlb5 := hpb.le
    simp (disch := omega) only [Option.isSome_some, ↓SXd, SXu, slBounds, ↓sop, ↓aop, ↓reduceIte, LV.cells, AOp.dst, LV.I, LV.B, LV.U, LV.S, LV.nil, Nat.reduceEqDiff, Nat.reduceAdd, Nat.reduceMul, Nat.reduceSub, Nat.reduceLeDiff, Nat.reduceBEq, Nat.reduceDiv, Nat.reduceMod, Int.reduceToNat, Int.reduceLT, Int.reduceLE, Int.reduceAdd, Int.reduceSub, Int.reduceMul, Int.reduceEq, Int.reduceNeg, reduceCtorEq, resV, resAll, ARes.ev, LV.flat, ite_true, ite_false, exists_eq_left', exists_eq_left, keyOf, implies_true, fillC, capOf]
    refine callK_of (g_PieceParity hTb (by omega)) ?_
    rw [hppb]
    simp (disch := omega) only [Option.isSome_some, Option.getD_some, ↓SXd, SXu, slBounds, ↓sop, ↓aop, ↓reduceIte, LV.cells, AOp.dst, LV.I, LV.B, LV.U, LV.S, LV.nil, Nat.reduceEqDiff, Nat.reduceAdd, Nat.reduceMul, Nat.reduceSub, Nat.reduceLeDiff, Nat.reduceBEq, Nat.reduceDiv, Nat.reduceMod, Int.reduceToNat, Int.reduceLT, Int.reduceLE, Int.reduceAdd, Int.reduceSub, Int.reduceMul, Int.reduceEq, Int.reduceNeg, reduceCtorEq, resV, resAll, ARes.ev, LV.flat, ite_true, ite_false, exists_eq_left', exists_eq_left, keyOf, implies_true, fillC, capOf]
    refine callK_of (g_IsPiece hTb (by omega)) ?_
    simp (disch := omega) only [(decide_eq_true hpb), hlb, ↓SXd, SXu, slBounds, ↓sop, ↓aop, ↓reduceIte, LV.cells, AOp.dst, LV.I, LV.B, LV.U, LV.S, LV.nil, Nat.reduceEqDiff, Nat.reduceAdd, Nat.reduceMul, Nat.reduceSub, Nat.reduceLeDiff, Nat.reduceBEq, Nat.reduceDiv, Nat.reduceMod, Int.reduceToNat, Int.reduceLT, Int.reduceLE, Int.reduceAdd, Int.reduceSub, Int.reduceMul, Int.reduceEq, Int.reduceNeg, reduceCtorEq, resV, resAll, ARes.ev, LV.flat, ite_true, ite_false, exists_eq_left', exists_eq_left, keyOf, implies_true, fillC, capOf]
  rintro fr W' ⟨rfl, f3, f4, f5, f6, f7, f10, f11, f12, f13, f28, f29, f30⟩
  simp (disch := omega) only [f3, f4, f5, f6, f7, f10, f11, f12, f13, f28, f29, f30, ↓SXd, SXu, slBounds, ↓sop, ↓aop, ↓reduceIte, LV.cells, AOp.dst, LV.I, LV.B, LV.U, LV.S, LV.nil, Nat.reduceEqDiff, Nat.reduceAdd, Nat.reduceMul, Nat.reduceSub, Nat.reduceLeDiff, Nat.reduceBEq, Nat.reduceDiv, Nat.reduceMod, Int.reduceToNat, Int.reduceLT, Int.reduceLE, Int.reduceAdd, Int.reduceSub, Int.reduceMul, Int.reduceEq, Int.reduceNeg, reduceCtorEq, resV, resAll, ARes.ev, LV.flat, ite_true, ite_false, exists_eq_left', exists_eq_left, keyOf, implies_true, fillC, capOf]
  refine cond_cut (fun fr' M' => Pre W' M' ∧ fr' 3 = .ptr m3 0 ∧ fr' 4 = .ref u4 0 lp.length ∧ fr' 5 = .ptr (m3 + 1) 0 ∧ fr' 6 = .B ((fitOf x y z cs lp c).getD false) ∧ fr' 7 = .B (placesOf x y z cs lp).isSome ∧ fr' 10 = .ptr m10 0 ∧ fr' 11 = .ref u11 0 lo.length ∧ fr' 12 = w12 ∧ fr' 13 = .B (placesOf x2 y2 z2 cs2 lo).isSome) ?_ ?_
  · by_cases hH : HeapOK x5 y5 z5 cs5
    rotate_left
    · rw [show fpOf x5 y5 z5 cs5 = none from if_neg hH]
      simp (disch := omega) only [f3, f4, f5, f6, f7, f10, f11, f12, f13, f28, f29, f30, Option.isSome_none, ↓SXd, SXu, slBounds, ↓sop, ↓aop, ↓reduceIte, LV.cells, AOp.dst, LV.I, LV.B, LV.U, LV.S, LV.nil, Nat.reduceEqDiff, Nat.reduceAdd, Nat.reduceMul, Nat.reduceSub, Nat.reduceLeDiff, Nat.reduceBEq, Nat.reduceDiv, Nat.reduceMod, Int.reduceToNat, Int.reduceLT, Int.reduceLE, Int.reduceAdd, Int.reduceSub, Int.reduceMul, Int.reduceEq, Int.reduceNeg, reduceCtorEq, resV, resAll, ARes.ev, LV.flat, ite_true, ite_false, exists_eq_left', exists_eq_left, keyOf, implies_true, fillC, capOf]
      exact Pre.refl _
    obtain ⟨e1, e2, e3, e4, e5⟩ := free_law hH
    rw [e1, Option.getD_some] at f29
    rw [e1]
    have hmb := mul_bound hH.1.1 hH.1.2.1
    have hv := vol_cast hH.1
    obtain ⟨⟨_, _⟩, ⟨_, _⟩, ⟨_, _⟩⟩ := id hH.1
    have hpkl := (pick_ok hH.1 (freeP cs5)).len
    simp (disch := omega) only [f3, f4, f5, f6, f7, f10, f11, f12, f13, f28, f29, f30, Option.isSome_some, b28.cells, ↓SXd, SXu, slBounds, ↓sop, ↓aop, ↓reduceIte, LV.cells, AOp.dst, LV.I, LV.B, LV.U, LV.S, LV.nil, Nat.reduceEqDiff, Nat.reduceAdd, Nat.reduceMul, Nat.reduceSub, Nat.reduceLeDiff, Nat.reduceBEq, Nat.reduceDiv, Nat.reduceMod, Int.reduceToNat, Int.reduceLT, Int.reduceLE, Int.reduceAdd, Int.reduceSub, Int.reduceMul, Int.reduceEq, Int.reduceNeg, reduceCtorEq, resV, resAll, ARes.ev, LV.flat, ite_true, ite_false, exists_eq_left', exists_eq_left, keyOf, implies_true, fillC, capOf]
    refine callR_of (g_OtherCellsV T5 hH) ?_
    rintro _ Q1 ⟨⟨v35, rfl, hv35, _⟩, hq1⟩
    generalize pick x5 y5 z5 (freeP cs5) = fc at hv35 e2 e3 e4 f29 hpkl ⊢
    simp (disch := omega) only [f3, f4, f5, f6, f7, f10, f11, f12, f13, f28, f29, f30, splice, ↓SXd, SXu, slBounds, ↓sop, ↓aop, ↓reduceIte, LV.cells, AOp.dst, LV.I, LV.B, LV.U, LV.S, LV.nil, Nat.reduceEqDiff, Nat.reduceAdd, Nat.reduceMul, Nat.reduceSub, Nat.reduceLeDiff, Nat.reduceBEq, Nat.reduceDiv, Nat.reduceMod, Int.reduceToNat, Int.reduceLT, Int.reduceLE, Int.reduceAdd, Int.reduceSub, Int.reduceMul, Int.reduceEq, Int.reduceNeg, reduceCtorEq, resV, resAll, ARes.ev, LV.flat, ite_true, ite_false, exists_eq_left', exists_eq_left, keyOf, implies_true, fillC, capOf]
    have c35 : Live (Q1 ++ [some (.row [.I x5, .I y5, .I z5, .ref v35 0 fc.length] true 0)]) Q1.length (.row [.I x5, .I y5, .I z5, .ref v35 0 fc.length] true 0) := Live.new
    have V35 : Tri (Q1 ++ [some (.row [.I x5, .I y5, .I z5, .ref v35 0 fc.length] true 0)]) v35 0 fc := (hv35.app).has
    have hq1' : Pre W' (Q1 ++ [some (.row [.I x5, .I y5, .I z5, .ref v35 0 fc.length] true 0)]) := hq1.trans (Pre.app _ _)
    have b28' := b28.pre hq1'
    generalize Q1.length = m35 at c35 ⊢
    generalize Q1 ++ [some (Blk.row [.I x5, .I y5, .I z5, .ref v35 0 fc.length] true 0)] = Q1' at c35 V35 hq1' b28' ⊢
    refine callK_of (g_FreeParity V35 (by omega)) ?_
    rw [e2]
    have hxyz : 0 ≤ x5 * y5 * z5 ∧ x5 * y5 * z5 ≤ 64 := by have := vol_bound hH.1; omega
    simp (disch := omega) only [f3, f4, f5, f6, f7, f10, f11, f12, f13, f28, f29, f30, Option.isSome_some, Option.getD_some, b28'.cell, e3, ↓SXd, SXu, slBounds, ↓sop, ↓aop, ↓reduceIte, LV.cells, AOp.dst, LV.I, LV.B, LV.U, LV.S, LV.nil, Nat.reduceEqDiff, Nat.reduceAdd, Nat.reduceMul, Nat.reduceSub, Nat.reduceLeDiff, Nat.reduceBEq, Nat.reduceDiv, Nat.reduceMod, Int.reduceToNat, Int.reduceLT, Int.reduceLE, Int.reduceAdd, Int.reduceSub, Int.reduceMul, Int.reduceEq, Int.reduceNeg, reduceCtorEq, resV, resAll, ARes.ev, LV.flat, ite_true, ite_false, exists_eq_left', exists_eq_left, keyOf, implies_true, fillC, capOf]
    exact hq1'
  rintro fr W2 ⟨hp2', f3, f4, f5, f6, f7, f10, f11, f12, f13⟩
  simp (disch := omega) only [f3, f4, f5, f6, f7, f10, f11, f12, f13, ↓SXd, SXu, slBounds, ↓sop, ↓aop, ↓reduceIte, LV.cells, AOp.dst, LV.I, LV.B, LV.U, LV.S, LV.nil, Nat.reduceEqDiff, Nat.reduceAdd, Nat.reduceMul, Nat.reduceSub, Nat.reduceLeDiff, Nat.reduceBEq, Nat.reduceDiv, Nat.reduceMod, Int.reduceToNat, Int.reduceLT, Int.reduceLE, Int.reduceAdd, Int.reduceSub, Int.reduceMul, Int.reduceEq, Int.reduceNeg, reduceCtorEq, resV, resAll, ARes.ev, LV.flat, ite_true, ite_false, exists_eq_left', exists_eq_left, keyOf, implies_true, fillC, capOf]
  refine cond_cut (fun fr' M' => Pre W' M' ∧ fr' 10 = .ptr m10 0 ∧ fr' 11 = .ref u11 0 lo.length ∧ fr' 12 = w12 ∧ fr' 13 = .B (placesOf x2 y2 z2 cs2 lo).isSome) ?_ ?_
  · have hpl1 := places_len (x := x) (y := y) (z := z) (cs := cs) (l := lp)
    have hgp := g_PlacesFor (x := x) (y := y) (z := z) (TW.pre hp2') hcn (PW.pre hp2') hlpn
    rcases hpp : placesOf x y z cs lp with _ | L
    · simp (disch := omega) only [f3, f4, f5, f6, f7, f10, f11, f12, f13, Option.isSome_none, ↓SXd, SXu, slBounds, ↓sop, ↓aop, ↓reduceIte, LV.cells, AOp.dst, LV.I, LV.B, LV.U, LV.S, LV.nil, Nat.reduceEqDiff, Nat.reduceAdd, Nat.reduceMul, Nat.reduceSub, Nat.reduceLeDiff, Nat.reduceBEq, Nat.reduceDiv, Nat.reduceMod, Int.reduceToNat, Int.reduceLT, Int.reduceLE, Int.reduceAdd, Int.reduceSub, Int.reduceMul, Int.reduceEq, Int.reduceNeg, reduceCtorEq, resV, resAll, ARes.ev, LV.flat, ite_true, ite_false, exists_eq_left', exists_eq_left, keyOf, implies_true, fillC, capOf]
      exact hp2'
    rw [hpp] at hgp hpl1
    rw [Option.getD_some] at hpl1
    have hfit : fitOf x y z cs lp c = some (decide (c ∈ L)) := by
      have hQ : FitQ x y z cs lp := by
        unfold placesOf at hpp
        split at hpp
        · assumption
        · cases hpp
      rw [show fitOf x y z cs lp c = some (decide (FitsP x y z cs lp c)) from if_pos hQ]
      exact congrArg some (decide_eq_decide.2 (places_mem hpp).symm)
    rw [hfit, Option.getD_some] at f6
    simp (disch := omega) only [f3, f4, f5, f6, f7, f10, f11, f12, f13, Option.isSome_some, (b3W.pre hp2').cells, ↓SXd, SXu, slBounds, ↓sop, ↓aop, ↓reduceIte, LV.cells, AOp.dst, LV.I, LV.B, LV.U, LV.S, LV.nil, Nat.reduceEqDiff, Nat.reduceAdd, Nat.reduceMul, Nat.reduceSub, Nat.reduceLeDiff, Nat.reduceBEq, Nat.reduceDiv, Nat.reduceMod, Int.reduceToNat, Int.reduceLT, Int.reduceLE, Int.reduceAdd, Int.reduceSub, Int.reduceMul, Int.reduceEq, Int.reduceNeg, reduceCtorEq, resV, resAll, ARes.ev, LV.flat, ite_true, ite_false, exists_eq_left', exists_eq_left, keyOf, implies_true, fillC, capOf]
    refine callR_of hgp ?_
    rintro _ Q1 ⟨w40, rfl, hw40, _, hq1⟩
    rw [Option.getD_some] at hw40
    simp (disch := omega) only [f3, f4, f5, f6, f7, f10, f11, f12, f13, Option.isSome_some, (b5W.pre (hp2'.trans hq1)).cells, ↓SXd, SXu, slBounds, ↓sop, ↓aop, ↓reduceIte, LV.cells, AOp.dst, LV.I, LV.B, LV.U, LV.S, LV.nil, Nat.reduceEqDiff, Nat.reduceAdd, Nat.reduceMul, Nat.reduceSub, Nat.reduceLeDiff, Nat.reduceBEq, Nat.reduceDiv, Nat.reduceMod, Int.reduceToNat, Int.reduceLT, Int.reduceLE, Int.reduceAdd, Int.reduceSub, Int.reduceMul, Int.reduceEq, Int.reduceNeg, reduceCtorEq, resV, resAll, ARes.ev, LV.flat, ite_true, ite_false, exists_eq_left', exists_eq_left, keyOf, implies_true, fillC, capOf]
    refine callK_of (k_vIn (c := c) hw40.v (by omega)) ?_
    simp (disch := omega) only [f3, f4, f5, f6, f7, f10, f11, f12, f13, beq_self_eq_true, Bool.not_true, ↓SXd, SXu, slBounds, ↓sop, ↓aop, ↓reduceIte, LV.cells, AOp.dst, LV.I, LV.B, LV.U, LV.S, LV.nil, Nat.reduceEqDiff, Nat.reduceAdd, Nat.reduceMul, Nat.reduceSub, Nat.reduceLeDiff, Nat.reduceBEq, Nat.reduceDiv, Nat.reduceMod, Int.reduceToNat, Int.reduceLT, Int.reduceLE, Int.reduceAdd, Int.reduceSub, Int.reduceMul, Int.reduceEq, Int.reduceNeg, reduceCtorEq, resV, resAll, ARes.ev, LV.flat, ite_true, ite_false, exists_eq_left', exists_eq_left, keyOf, implies_true, fillC, capOf]
    exact hp2'.trans hq1
  rintro fr W3 ⟨hp3W, f10, f11, f12, f13⟩
  simp (disch := omega) only [f10, f11, f12, f13, ↓SXd, SXu, slBounds, ↓sop, ↓aop, ↓reduceIte, LV.cells, AOp.dst, LV.I, LV.B, LV.U, LV.S, LV.nil, Nat.reduceEqDiff, Nat.reduceAdd, Nat.reduceMul, Nat.reduceSub, Nat.reduceLeDiff, Nat.reduceBEq, Nat.reduceDiv, Nat.reduceMod, Int.reduceToNat, Int.reduceLT, Int.reduceLE, Int.reduceAdd, Int.reduceSub, Int.reduceMul, Int.reduceEq, Int.reduceNeg, reduceCtorEq, resV, resAll, ARes.ev, LV.flat, ite_true, ite_false, exists_eq_left', exists_eq_left, keyOf, implies_true, fillC, capOf]
  rcases hpp : placesOf x2 y2 z2 cs2 lo with _ | L
  · rw [hpp] at f13
    refine ev_loop (fun m fr M' => fr 13 = .B false) 0 f13 ?_
    rintro m fr M' f13
    simp (disch := omega) only [f13, ↓SXd, SXu, slBounds, ↓sop, ↓aop, ↓reduceIte, LV.cells, AOp.dst, LV.I, LV.B, LV.U, LV.S, LV.nil, Nat.reduceEqDiff, Nat.reduceAdd, Nat.reduceMul, Nat.reduceSub, Nat.reduceLeDiff, Nat.reduceBEq, Nat.reduceDiv, Nat.reduceMod, Int.reduceToNat, Int.reduceLT, Int.reduceLE, Int.reduceAdd, Int.reduceSub, Int.reduceMul, Int.reduceEq, Int.reduceNeg, reduceCtorEq, resV, resAll, ARes.ev, LV.flat, ite_true, ite_false, exists_eq_left', exists_eq_left, keyOf, implies_true, fillC, capOf]
    rfl
  have hQ : FitQ x2 y2 z2 cs2 lo := by
    unfold placesOf at hpp
    split at hpp
    · assumption
    · cases hpp
  have hL64 := places_len (x := x2) (y := y2) (z := z2) (cs := cs2) (l := lo)
  rw [hpp] at f13 w12W hL64
  rw [Option.getD_some] at w12W hL64
  have hlo5 := hQ.2.le
  refine ev_loop (fun m fr M' => ∃ i : Nat, i + m = L.length ∧ Pre W' M' ∧ fr 10 = .ptr m10 0 ∧ fr 11 = .ref u11 0 lo.length ∧ fr 12 = w12 ∧ fr 13 = .B true ∧ fr 42 = .I i) L.length
    ⟨0, by omega, hp3W, f10, f11, f12, f13, rfl⟩ ?_
  clear f10 f11 f12 f13
  rintro m fr M' ⟨i, hi, hpM, f10, f11, f12, f13, f42⟩
  have hlv := (w12W.pre hpM).v.lenV
  simp (disch := omega) only [f10, f11, f12, f13, f42, hlv, ↓SXd, SXu, slBounds, ↓sop, ↓aop, ↓reduceIte, LV.cells, AOp.dst, LV.I, LV.B, LV.U, LV.S, LV.nil, Nat.reduceEqDiff, Nat.reduceAdd, Nat.reduceMul, Nat.reduceSub, Nat.reduceLeDiff, Nat.reduceBEq, Nat.reduceDiv, Nat.reduceMod, Int.reduceToNat, Int.reduceLT, Int.reduceLE, Int.reduceAdd, Int.reduceSub, Int.reduceMul, Int.reduceEq, Int.reduceNeg, reduceCtorEq, resV, resAll, ARes.ev, LV.flat, ite_true, ite_false, exists_eq_left', exists_eq_left, keyOf, implies_true, fillC, capOf]
  refine condC_dec (fun hlt => ?_) (fun hlt => ?_)
  · have hil : i < L.length := by omega
    obtain ⟨tw, rfl, hTw⟩ := w12W.tri (by omega)
    have hfp := (places_mem hpp).1 (getD_mem' (d := default) hil)
    have pa := Tri.get_a hTw hil
    have pb := Tri.get_b hTw hil
    have pc := Tri.get_c hTw hil
    rw [Nat.zero_add] at pa pb pc
    have kp := fun {N : Mem} (hp : Pre W' N) => hTw.pre hp
    generalize hpl : L.getD i default = p at hfp pa pb pc
    have hpin := fits_at hQ.2 hfp
    obtain ⟨⟨_, _⟩, ⟨_, _⟩, ⟨_, _⟩⟩ := id hQ.1.1
    obtain ⟨⟨_, _⟩, ⟨_, _⟩, ⟨_, _⟩⟩ := id hpin
    simp (disch := omega) only [f10, f11, f12, f13, f42, ↓SXd, SXu, slBounds, ↓sop, ↓aop, ↓reduceIte, LV.cells, AOp.dst, LV.I, LV.B, LV.U, LV.S, LV.nil, Nat.reduceEqDiff, Nat.reduceAdd, Nat.reduceMul, Nat.reduceSub, Nat.reduceLeDiff, Nat.reduceBEq, Nat.reduceDiv, Nat.reduceMod, Int.reduceToNat, Int.reduceLT, Int.reduceLE, Int.reduceAdd, Int.reduceSub, Int.reduceMul, Int.reduceEq, Int.reduceNeg, reduceCtorEq, resV, resAll, ARes.ev, LV.flat, ite_true, ite_false, exists_eq_left', exists_eq_left, keyOf, implies_true, fillC, capOf]
    refine ev_loop (fun m2 fr N => ∃ k : Nat, k + m2 = lo.length ∧ Pre W' N ∧ fr 10 = .ptr m10 0 ∧ fr 11 = .ref u11 0 lo.length ∧ fr 12 = .ref tw 0 L.length ∧ fr 13 = .B true ∧ fr 42 = .I i ∧ fr 43 = .I k) lo.length
      ⟨0, by omega, hpM, f10, f11, f12, f13, f42, rfl⟩ ?_
    clear f10 f11 f12 f13 f42
    rintro m2 fr N ⟨k, hk, hpN, f10, f11, f12, f13, f42, f43⟩
    simp (disch := omega) only [f10, f11, f12, f13, f42, f43, ↓SXd, SXu, slBounds, ↓sop, ↓aop, ↓reduceIte, LV.cells, AOp.dst, LV.I, LV.B, LV.U, LV.S, LV.nil, Nat.reduceEqDiff, Nat.reduceAdd, Nat.reduceMul, Nat.reduceSub, Nat.reduceLeDiff, Nat.reduceBEq, Nat.reduceDiv, Nat.reduceMod, Int.reduceToNat, Int.reduceLT, Int.reduceLE, Int.reduceAdd, Int.reduceSub, Int.reduceMul, Int.reduceEq, Int.reduceNeg, reduceCtorEq, resV, resAll, ARes.ev, LV.flat, ite_true, ite_false, exists_eq_left', exists_eq_left, keyOf, implies_true, fillC, capOf]
    refine condC_dec (fun hlt2 => ?_) (fun hlt2 => ?_)
    · have hkl : k < lo.length := by omega
      have hPo := P3W.pre hpN
      have oa := Tri.get_a hPo hkl
      have ob := Tri.get_b hPo hkl
      have oc := Tri.get_c hPo hkl
      rw [Nat.zero_add] at oa ob oc
      have hTn := hTw.pre hpN
      have pa := Tri.get_a hTn hil
      have pb := Tri.get_b hTn hil
      have pc := Tri.get_c hTn hil
      rw [Nat.zero_add, hpl] at pa pb pc
      have hom := getD_mem' (d := default) hkl
      have ho4 := hQ.2.in4 _ hom
      have hok := hfp.2 _ hom
      generalize lo.getD k default = o at oa ob oc ho4 hok
      obtain ⟨⟨_, _⟩, ⟨_, _⟩, ⟨_, _⟩⟩ := id ho4
      simp (disch := omega) only [f10, f11, f12, f13, f42, f43, oa, ob, oc, pa, pb, pc, Nat.mul_one, Nat.add_zero, splice, (b10W.pre hpN).app.cells, ↓SXd, SXu, slBounds, ↓sop, ↓aop, ↓reduceIte, LV.cells, AOp.dst, LV.I, LV.B, LV.U, LV.S, LV.nil, Nat.reduceEqDiff, Nat.reduceAdd, Nat.reduceMul, Nat.reduceSub, Nat.reduceLeDiff, Nat.reduceBEq, Nat.reduceDiv, Nat.reduceMod, Int.reduceToNat, Int.reduceLT, Int.reduceLE, Int.reduceAdd, Int.reduceSub, Int.reduceMul, Int.reduceEq, Int.reduceNeg, reduceCtorEq, resV, resAll, ARes.ev, LV.flat, ite_true, ite_false, exists_eq_left', exists_eq_left, keyOf, implies_true, fillC, capOf]
      refine callK_of (g_HasCube (d := shift p o) ((T3W.pre hpN).app) hQ.1 hok.1) ?_
      rw [decide_eq_false hok.2]
      simp (disch := omega) only [f10, f11, f12, f13, f42, f43, ↓SXd, SXu, slBounds, ↓sop, ↓aop, ↓reduceIte, LV.cells, AOp.dst, LV.I, LV.B, LV.U, LV.S, LV.nil, Nat.reduceEqDiff, Nat.reduceAdd, Nat.reduceMul, Nat.reduceSub, Nat.reduceLeDiff, Nat.reduceBEq, Nat.reduceDiv, Nat.reduceMod, Int.reduceToNat, Int.reduceLT, Int.reduceLE, Int.reduceAdd, Int.reduceSub, Int.reduceMul, Int.reduceEq, Int.reduceNeg, reduceCtorEq, resV, resAll, ARes.ev, LV.flat, ite_true, ite_false, exists_eq_left', exists_eq_left, keyOf, implies_true, fillC, capOf]
      exact ⟨m2 - 1, by omega, k + 1, by omega, hpN.trans (Pre.app _ _), f10, f11, f12, f13, f42, eqI (natI _)⟩
    · simp (disch := omega) only [f10, f11, f12, f13, f42, f43, ↓SXd, SXu, slBounds, ↓sop, ↓aop, ↓reduceIte, LV.cells, AOp.dst, LV.I, LV.B, LV.U, LV.S, LV.nil, Nat.reduceEqDiff, Nat.reduceAdd, Nat.reduceMul, Nat.reduceSub, Nat.reduceLeDiff, Nat.reduceBEq, Nat.reduceDiv, Nat.reduceMod, Int.reduceToNat, Int.reduceLT, Int.reduceLE, Int.reduceAdd, Int.reduceSub, Int.reduceMul, Int.reduceEq, Int.reduceNeg, reduceCtorEq, resV, resAll, ARes.ev, LV.flat, ite_true, ite_false, exists_eq_left', exists_eq_left, keyOf, implies_true, fillC, capOf]
      exact ⟨m - 1, by omega, i + 1, by omega, hpN, f10, f11, f12, f13, eqI (natI _)⟩
  · simp (disch := omega) only [f10, f11, f12, f13, f42, ↓SXd, SXu, slBounds, ↓sop, ↓aop, ↓reduceIte, LV.cells, AOp.dst, LV.I, LV.B, LV.U, LV.S, LV.nil, Nat.reduceEqDiff, Nat.reduceAdd, Nat.reduceMul, Nat.reduceSub, Nat.reduceLeDiff, Nat.reduceBEq, Nat.reduceDiv, Nat.reduceMod, Int.reduceToNat, Int.reduceLT, Int.reduceLE, Int.reduceAdd, Int.reduceSub, Int.reduceMul, Int.reduceEq, Int.reduceNeg, reduceCtorEq, resV, resAll, ARes.ev, LV.flat, ite_true, ite_false, exists_eq_left', exists_eq_left, keyOf, implies_true, fillC, capOf]
    rfl
end Go.Ab

/- Bytes that came in, opened. -/
namespace Go.Ab
open Go Go.RowKit Go.Joins Go.ChangeShapes Go.WideShapes Go.Deep Go.WideElems Go.Maps

/-- What the abstract machine is told of a slice of bytes that came in. -/
def RowOfB (w : World) (a : Option Addr) (len cap : Nat) (xs : List Nat) : Prop :=
  xs.length = len ∧ len ≤ cap ∧ cap ≤ maxLen ∧ (∀ b ∈ xs, b ≤ 255) ∧ (cap = 0 ∨ ∃ b o c e fz, a = some ⟨b, o, none⟩ ∧ w.heap[b]? = some (.cells c e fz) ∧ ∀ i, i < len → c[o + i]? = some (.int .u8 ((xs.getD i 0 : Nat) : Int)))

section
variable {H : Type} {enc : TypeId × Value → H} {P : Program} {w : World} {held : Bool}
theorem open_bytesB {ts ti : TypeId} {fuel : Nat} {cs : List Value} {x : DataW H × List MemPlace} (hts : P.underlying ts = some (.slice ti)) (hti : P.underlying ti = some (.int .u8)) (hci : P.cellsOf ti = 1)
    (h : DataW.trod enc P w 0 (fun _ => true) held fuel ts cs = some x) : ∃ a len cap xs, cs = [.slice a len cap] ∧ RowOfB w a len cap xs := by
  rcases Go.ChangeShapes.open_ints hts hti hci h with ⟨rfl, _⟩ | ⟨a, len, cap, zs, rfl, _, hl, hm, hz, _, hel, hwf⟩
  · exact ⟨none, 0, 0, [], rfl, rfl, Nat.le_refl _, Nat.zero_le _, by simp, .inl rfl⟩
  · have hzl : zs.length = cap := by simpa using hz
    have hby : ∀ n ∈ zs, 0 ≤ n ∧ n ≤ 255 := fun n hn => by
      have h1 := hwf n hn
      unfold Lit.wf at h1
      rw [Bool.and_eq_true, decide_eq_true_iff, decide_eq_true_iff] at h1
      exact h1
    refine ⟨some a, len, cap, (zs.take len).map Int.toNat, rfl, by simp; omega, hl, hm, fun b hb => ?_, ?_⟩
    · obtain ⟨n, hn, rfl⟩ := List.mem_map.1 hb
      have := hby n (List.mem_of_mem_take hn)
      omega
    rcases Nat.eq_zero_or_pos cap with h0 | h0
    · exact .inl h0
    · refine .inr ?_
      have hc0 := hel 0 (by omega)
      obtain ⟨b, o, c, e, fz, ha, hh, _⟩ := cell_heap hc0
      have ha' : a = ⟨b, o, none⟩ := by simpa [Addr.add] using ha
      subst ha'
      refine ⟨b, o, c, e, fz, rfl, hh, fun i hi => ?_⟩
      have hcell := hel i (by omega)
      have hadd : (⟨b, o, none⟩ : Addr).add i = ⟨b, o + i, none⟩ := addr_add _ _ _
      rw [hadd] at hcell
      unfold World.cell? at hcell
      simp only [hh] at hcell
      have hil : i < zs.length := by omega
      have hbi := hby _ (getD_mem' (d := 0) hil)
      have hg : ((((zs.take len).map Int.toNat).getD i 0 : Nat) : Int) = zs.getD i 0 := by
        have e1 : ((zs.take len).map Int.toNat).getD i 0 = (zs.getD i 0).toNat := by simp [hi, hil]
        rw [e1]; omega
      rw [hg]
      simpa using hcell
end
theorem byL_get {bs : List Nat} {i : Nat} (h : i < bs.length) : (byL bs)[i]? = some (.val (.int .u8 ((bs.getD i 0 : Nat) : Int))) := by simp [byL, h]
/-- Bytes whose block has elements of one cell. -/
def BytesZ (M : Mem) (t o : Nat) (bs : List Nat) : Prop := Bytes M t o bs ∧ getEsz M t = some 1
theorem Inv.addBytesZ {G : Gh} {M : Mem} {w : World} (hi : Inv G M w) (hno : NoOwn M) {a : Option Addr} {len cap : Nat} {xs : List Nat} (h : RowOfB w a len cap xs) :
    ∃ (G' : Gh) (N : Mem) (t : Nat), Ext G G' ∧ Inv G' N w ∧ NoOwn N ∧ Pre M N ∧ VR1 G' (.ref t 0 len) (.slice a len cap) ∧ BytesZ N t 0 xs := by
  obtain ⟨h1, h2, h3, _, h4⟩ := h
  have key : ∃ G', Ext G G' ∧ Inv G' (M ++ [some (.row (byL xs) false 1)]) w ∧ NoOwn (M ++ [some (.row (byL xs) false 1)]) ∧ VR1 G' (.ref M.length 0 len) (.slice a len cap) := by
    refine hi.addRow hno h2 (by rw [byL_len]; omega) ?_
    rcases h4 with h0 | ⟨b, o, c, e, fz, ha, hh, hc⟩
    · refine .inl ⟨h0, ?_⟩
      have : xs = [] := List.eq_nil_of_length_eq_zero (by omega)
      rw [this]; rfl
    · refine .inr ⟨b, o, c, e, fz, ha, hh, fun j l hj => ?_⟩
      have hjl : j < xs.length := by
        rw [← byL_len]
        rcases Nat.lt_or_ge j (byL xs).length with h | h
        · exact h
        · rw [List.getElem?_eq_none h] at hj; cases hj
      rw [byL_get hjl] at hj
      cases hj
      exact ⟨_, hc j (by omega), rfl, rfl⟩
  obtain ⟨G', k1, k2, k3, k4⟩ := key
  exact ⟨G', _, _, k1, k2, k3, Pre.app _ _, k4, Has.new, by simp [getEsz]⟩
theorem RowOfB.le {w : World} {a : Option Addr} {len cap : Nat} {xs : List Nat} (h : RowOfB w a len cap xs) : xs.length ≤ 9223372036854775807 ∧ ∀ b ∈ xs, b ≤ 255 := by
  obtain ⟨h0, h1, h2, h3, _⟩ := h
  have := max63
  exact ⟨by omega, h3⟩
end Go.Ab
