/- Parts of the proof of FnHeapFormsSaid: Ji C_Jj K_Jj Jj. -/
import Derived.Test.YthgljdbfkojpeaaA9
import Derived.Test.YthgljdbfkojpeaaA4
import Derived.Test.YthgljdbfkojpeaaA8
import Derived.Test.YthgljdbfkojpeaaA5
import Derived.Test.YthgljdbfkojpeaaA3
import Derived.Test.YthgljdbfkojpeaaProg
import Derived.KernelRfl
import Derived.Test.YthgljdbfkojpeaaA7
import Derived.Test.YthgljdbfkojpeaaA6
set_option linter.all false
/- Contracts: the program's mirrored, other, joined, common, swapped, shifted, cropped and widened heaps. -/
namespace Go.Ab
open Go
set_option linter.unusedSimpArgs false
set_option linter.unusedVariables false
set_option maxRecDepth 20000

theorem g_isDirectionB {d : Int} {M : Mem} : CallsTo PG F.impl_isDirection [.I d] M (.B (decide (0 ≤ d ∧ d ≤ 2))) M := by
  refine calls_run K.impl_isDirection rfl ?_
  simp (disch := omega) only [C.impl_isDirection, ↓SXd, SXu, slBounds, ↓sop, ↓aop, ↓reduceIte, LV.cells, AOp.dst, LV.I, LV.B, LV.U, LV.S, LV.nil, Nat.reduceEqDiff, Nat.reduceAdd, Nat.reduceMul, Nat.reduceSub, Nat.reduceLeDiff, Nat.reduceBEq, Nat.reduceDiv, Nat.reduceMod, Int.reduceToNat, Int.reduceLT, Int.reduceLE, Int.reduceAdd, Int.reduceSub, Int.reduceMul, Int.reduceEq, Int.reduceNeg, reduceCtorEq, resV, resAll, ARes.ev, LV.flat, ite_true, ite_false, exists_eq_left', exists_eq_left, keyOf, implies_true, fillC, capOf]
  refine callK_of (g_within) ?_
  simp (disch := omega) only [↓SXd, SXu, slBounds, ↓sop, ↓aop, ↓reduceIte, LV.cells, AOp.dst, LV.I, LV.B, LV.U, LV.S, LV.nil, Nat.reduceEqDiff, Nat.reduceAdd, Nat.reduceMul, Nat.reduceSub, Nat.reduceLeDiff, Nat.reduceBEq, Nat.reduceDiv, Nat.reduceMod, Int.reduceToNat, Int.reduceLT, Int.reduceLE, Int.reduceAdd, Int.reduceSub, Int.reduceMul, Int.reduceEq, Int.reduceNeg, reduceCtorEq, resV, resAll, ARes.ev, LV.flat, ite_true, ite_false, exists_eq_left', exists_eq_left, keyOf, implies_true, fillC, capOf]
  exact cmp_drop0 rfl
theorem g_mirrorD {x y z d : Int} {c : Cell} {M : Mem} (hS : Sides x y z) (hc : c.inBox x y z) (hd : Dir d) :
    CallsTo PG F.impl_box_mirror [.agg [.I x, .I y, .I z], .agg [.I c.a, .I c.b, .I c.c], .I d] M (.agg [.I (mirDC x y z d c).a, .I (mirDC x y z d c).b, .I (mirDC x y z d c).c]) M := by
  obtain ⟨⟨_, _⟩, ⟨_, _⟩, ⟨_, _⟩⟩ := hS
  obtain ⟨⟨_, _⟩, ⟨_, _⟩, ⟨_, _⟩⟩ := hc
  refine calls_run K.impl_box_mirror rfl ?_
  rcases hd with rfl | rfl | rfl
  all_goals
    simp (disch := omega) only [C.impl_box_mirror, splice, ↓SXd, SXu, slBounds, ↓sop, ↓aop, ↓reduceIte, LV.cells, AOp.dst, LV.I, LV.B, LV.U, LV.S, LV.nil, Nat.reduceEqDiff, Nat.reduceAdd, Nat.reduceMul, Nat.reduceSub, Nat.reduceLeDiff, Nat.reduceBEq, Nat.reduceDiv, Nat.reduceMod, Int.reduceToNat, Int.reduceLT, Int.reduceLE, Int.reduceAdd, Int.reduceSub, Int.reduceMul, Int.reduceEq, Int.reduceNeg, reduceCtorEq, resV, resAll, ARes.ev, LV.flat, ite_true, ite_false, exists_eq_left', exists_eq_left, keyOf, implies_true, fillC, capOf]
    exact cmp_drop rfl
theorem g_mirrorD_1 {x y z d : Int} {c : Cell} {v : LV} {t t' : Nat} {M : Mem} (hS : Sides x y z) (hc : c.inBox x y z) (hd : Dir d) (h : Live M t (.row [.I x, .I y, .I z, v] true 0)) (h' : Live M t' (.row [.I d] true 0)) :
    CallsTo PG F.impl_MirrorHeap_1 ([.agg [.I c.a, .I c.b, .I c.c]] ++ [(t, 0), (t', 0)].map fun p => .ptr p.1 p.2) M (.agg [.I (mirDC x y z d c).a, .I (mirDC x y z d c).b, .I (mirDC x y z d c).c]) M := by
  have ht := h.lt
  have ht' := h'.lt
  refine calls_run K.impl_MirrorHeap_1 rfl ?_
  simp (disch := omega) only [C.impl_MirrorHeap_1, List.map_cons, List.map_nil, h.app.cells, h'.app.cell, ↓SXd, SXu, slBounds, ↓sop, ↓aop, ↓reduceIte, LV.cells, AOp.dst, LV.I, LV.B, LV.U, LV.S, LV.nil, Nat.reduceEqDiff, Nat.reduceAdd, Nat.reduceMul, Nat.reduceSub, Nat.reduceLeDiff, Nat.reduceBEq, Nat.reduceDiv, Nat.reduceMod, Int.reduceToNat, Int.reduceLT, Int.reduceLE, Int.reduceAdd, Int.reduceSub, Int.reduceMul, Int.reduceEq, Int.reduceNeg, reduceCtorEq, resV, resAll, ARes.ev, LV.flat, ite_true, ite_false, exists_eq_left', exists_eq_left, keyOf, implies_true, fillC, capOf]
  refine callK_of (g_box) ?_
  simp (disch := omega) only [↓SXd, SXu, slBounds, ↓sop, ↓aop, ↓reduceIte, LV.cells, AOp.dst, LV.I, LV.B, LV.U, LV.S, LV.nil, Nat.reduceEqDiff, Nat.reduceAdd, Nat.reduceMul, Nat.reduceSub, Nat.reduceLeDiff, Nat.reduceBEq, Nat.reduceDiv, Nat.reduceMod, Int.reduceToNat, Int.reduceLT, Int.reduceLE, Int.reduceAdd, Int.reduceSub, Int.reduceMul, Int.reduceEq, Int.reduceNeg, reduceCtorEq, resV, resAll, ARes.ev, LV.flat, ite_true, ite_false, exists_eq_left', exists_eq_left, keyOf, implies_true, fillC, capOf]
  refine callK_of (g_mirrorD hS hc hd) ?_
  simp (disch := omega) only [splice, ↓SXd, SXu, slBounds, ↓sop, ↓aop, ↓reduceIte, LV.cells, AOp.dst, LV.I, LV.B, LV.U, LV.S, LV.nil, Nat.reduceEqDiff, Nat.reduceAdd, Nat.reduceMul, Nat.reduceSub, Nat.reduceLeDiff, Nat.reduceBEq, Nat.reduceDiv, Nat.reduceMod, Int.reduceToNat, Int.reduceLT, Int.reduceLE, Int.reduceAdd, Int.reduceSub, Int.reduceMul, Int.reduceEq, Int.reduceNeg, reduceCtorEq, resV, resAll, ARes.ev, LV.flat, ite_true, ite_false, exists_eq_left', exists_eq_left, keyOf, implies_true, fillC, capOf]
  exact cmp_drop rfl
section
variable {x y z : Int} {t : Nat} {w : Bool} {cs : List Cell} {M : Mem} (h : Live M t (.row (triL cs) w 3)) (hn : cs.length ≤ 1000000000)
include h hn
theorem g_MirrorHeapX {d : Int} : CallsR PG F.impl_MirrorHeap [.agg [.I x, .I y, .I z, .ref t 0 cs.length], .I d] M (HeapX M (mirOf x y z cs d)) := by
  refine heapX_of ?_
  refine callsR_run K.impl_MirrorHeap rfl ?_
  simp (disch := omega) only [C.impl_MirrorHeap, ↓SXd, SXu, slBounds, ↓sop, ↓aop, ↓reduceIte, LV.cells, AOp.dst, LV.I, LV.B, LV.U, LV.S, LV.nil, Nat.reduceEqDiff, Nat.reduceAdd, Nat.reduceMul, Nat.reduceSub, Nat.reduceLeDiff, Nat.reduceBEq, Nat.reduceDiv, Nat.reduceMod, Int.reduceToNat, Int.reduceLT, Int.reduceLE, Int.reduceAdd, Int.reduceSub, Int.reduceMul, Int.reduceEq, Int.reduceNeg, reduceCtorEq, resV, resAll, ARes.ev, LV.flat, ite_true, ite_false, exists_eq_left', exists_eq_left, keyOf, implies_true, fillC, capOf]
  refine callK_of (g_IsHeap (Has.app h.has) hn) ?_
  simp (disch := omega) only [↓SXd, SXu, slBounds, ↓sop, ↓aop, ↓reduceIte, LV.cells, AOp.dst, LV.I, LV.B, LV.U, LV.S, LV.nil, Nat.reduceEqDiff, Nat.reduceAdd, Nat.reduceMul, Nat.reduceSub, Nat.reduceLeDiff, Nat.reduceBEq, Nat.reduceDiv, Nat.reduceMod, Int.reduceToNat, Int.reduceLT, Int.reduceLE, Int.reduceAdd, Int.reduceSub, Int.reduceMul, Int.reduceEq, Int.reduceNeg, reduceCtorEq, resV, resAll, ARes.ev, LV.flat, ite_true, ite_false, exists_eq_left', exists_eq_left, keyOf, implies_true, fillC, capOf]
  by_cases hH : HeapOK x y z cs
  rotate_left
  · simp (disch := omega) only [hH, splice, ↓SXd, SXu, slBounds, ↓sop, ↓aop, ↓reduceIte, LV.cells, AOp.dst, LV.I, LV.B, LV.U, LV.S, LV.nil, Nat.reduceEqDiff, Nat.reduceAdd, Nat.reduceMul, Nat.reduceSub, Nat.reduceLeDiff, Nat.reduceBEq, Nat.reduceDiv, Nat.reduceMod, Int.reduceToNat, Int.reduceLT, Int.reduceLE, Int.reduceAdd, Int.reduceSub, Int.reduceMul, Int.reduceEq, Int.reduceNeg, reduceCtorEq, resV, resAll, ARes.ev, LV.flat, ite_true, ite_false, exists_eq_left', exists_eq_left, keyOf, implies_true, fillC, capOf]
    exact heapX_no (if_neg fun e => hH e.1) rfl (Pre.app _ _)
  have hlen := hH.len
  simp (disch := omega) only [hH, ↓SXd, SXu, slBounds, ↓sop, ↓aop, ↓reduceIte, LV.cells, AOp.dst, LV.I, LV.B, LV.U, LV.S, LV.nil, Nat.reduceEqDiff, Nat.reduceAdd, Nat.reduceMul, Nat.reduceSub, Nat.reduceLeDiff, Nat.reduceBEq, Nat.reduceDiv, Nat.reduceMod, Int.reduceToNat, Int.reduceLT, Int.reduceLE, Int.reduceAdd, Int.reduceSub, Int.reduceMul, Int.reduceEq, Int.reduceNeg, reduceCtorEq, resV, resAll, ARes.ev, LV.flat, ite_true, ite_false, exists_eq_left', exists_eq_left, keyOf, implies_true, fillC, capOf]
  refine callK_of (g_isDirectionB) ?_
  simp (disch := omega) only [↓SXd, SXu, slBounds, ↓sop, ↓aop, ↓reduceIte, LV.cells, AOp.dst, LV.I, LV.B, LV.U, LV.S, LV.nil, Nat.reduceEqDiff, Nat.reduceAdd, Nat.reduceMul, Nat.reduceSub, Nat.reduceLeDiff, Nat.reduceBEq, Nat.reduceDiv, Nat.reduceMod, Int.reduceToNat, Int.reduceLT, Int.reduceLE, Int.reduceAdd, Int.reduceSub, Int.reduceMul, Int.reduceEq, Int.reduceNeg, reduceCtorEq, resV, resAll, ARes.ev, LV.flat, ite_true, ite_false, exists_eq_left', exists_eq_left, keyOf, implies_true, fillC, capOf]
  by_cases hd : 0 ≤ d ∧ d ≤ 2
  rotate_left
  · simp (disch := omega) only [hd, splice, ↓SXd, SXu, slBounds, ↓sop, ↓aop, ↓reduceIte, LV.cells, AOp.dst, LV.I, LV.B, LV.U, LV.S, LV.nil, Nat.reduceEqDiff, Nat.reduceAdd, Nat.reduceMul, Nat.reduceSub, Nat.reduceLeDiff, Nat.reduceBEq, Nat.reduceDiv, Nat.reduceMod, Int.reduceToNat, Int.reduceLT, Int.reduceLE, Int.reduceAdd, Int.reduceSub, Int.reduceMul, Int.reduceEq, Int.reduceNeg, reduceCtorEq, resV, resAll, ARes.ev, LV.flat, ite_true, ite_false, exists_eq_left', exists_eq_left, keyOf, implies_true, fillC, capOf]
    exact heapX_no (if_neg fun e => hd (dir_in.1 e.2)) rfl (Pre.app _ _)
  have hD := dir_in.2 hd
  have hif : mirOf x y z cs d = some ⟨x, y, z, mirD x y z d cs⟩ := if_pos ⟨hH, hD⟩
  rw [hif]
  simp (disch := omega) only [hd, ↓SXd, SXu, slBounds, ↓sop, ↓aop, ↓reduceIte, LV.cells, AOp.dst, LV.I, LV.B, LV.U, LV.S, LV.nil, Nat.reduceEqDiff, Nat.reduceAdd, Nat.reduceMul, Nat.reduceSub, Nat.reduceLeDiff, Nat.reduceBEq, Nat.reduceDiv, Nat.reduceMod, Int.reduceToNat, Int.reduceLT, Int.reduceLE, Int.reduceAdd, Int.reduceSub, Int.reduceMul, Int.reduceEq, Int.reduceNeg, reduceCtorEq, resV, resAll, ARes.ev, LV.flat, ite_true, ite_false, exists_eq_left', exists_eq_left, keyOf, implies_true, fillC, capOf]
  refine callK_of (g_box) ?_
  simp (disch := omega) only [↓SXd, SXu, slBounds, ↓sop, ↓aop, ↓reduceIte, LV.cells, AOp.dst, LV.I, LV.B, LV.U, LV.S, LV.nil, Nat.reduceEqDiff, Nat.reduceAdd, Nat.reduceMul, Nat.reduceSub, Nat.reduceLeDiff, Nat.reduceBEq, Nat.reduceDiv, Nat.reduceMod, Int.reduceToNat, Int.reduceLT, Int.reduceLE, Int.reduceAdd, Int.reduceSub, Int.reduceMul, Int.reduceEq, Int.reduceNeg, reduceCtorEq, resV, resAll, ARes.ev, LV.flat, ite_true, ite_false, exists_eq_left', exists_eq_left, keyOf, implies_true, fillC, capOf]
  refine callK_of (g_moved (g := mirDC x y z d) (Has.app h.has) (by omega) hH.1 (fun c hc => mirDC_in (hH.mem hc)) fun N hp c hcc => ?_) ?_
  · exact g_mirrorD_1 hH.1 (hH.mem hcc) hD ((Live.newj (j := 0) rfl).pre hp) ((Live.newj (j := 1) rfl).pre hp)
  simp (disch := omega) only [splice, ↓SXd, SXu, slBounds, ↓sop, ↓aop, ↓reduceIte, LV.cells, AOp.dst, LV.I, LV.B, LV.U, LV.S, LV.nil, Nat.reduceEqDiff, Nat.reduceAdd, Nat.reduceMul, Nat.reduceSub, Nat.reduceLeDiff, Nat.reduceBEq, Nat.reduceDiv, Nat.reduceMod, Int.reduceToNat, Int.reduceLT, Int.reduceLE, Int.reduceAdd, Int.reduceSub, Int.reduceMul, Int.reduceEq, Int.reduceNeg, reduceCtorEq, resV, resAll, ARes.ev, LV.flat, ite_true, ite_false, exists_eq_left', exists_eq_left, keyOf, implies_true, fillC, capOf]
  exact .inl ⟨⟨M.length + 3, rfl, Live.newj (j := 3) rfl, by omega⟩, Pre.app _ _⟩
theorem g_OtherCellsX : CallsR PG F.impl_OtherCells [.agg [.I x, .I y, .I z, .ref t 0 cs.length]] M (HeapX M (othOf x y z cs)) := by
  refine heapX_of ?_
  by_cases hH : HeapOK x y z cs
  · exact (g_OtherCellsV h.has hH).mono fun v N e => heapX_yes (g := ⟨x, y, z, pick x y z (freeP cs)⟩) (if_pos hH) e.1 e.2
  refine callsR_run K.impl_OtherCells rfl ?_
  simp (disch := omega) only [C.impl_OtherCells, ↓SXd, SXu, slBounds, ↓sop, ↓aop, ↓reduceIte, LV.cells, AOp.dst, LV.I, LV.B, LV.U, LV.S, LV.nil, Nat.reduceEqDiff, Nat.reduceAdd, Nat.reduceMul, Nat.reduceSub, Nat.reduceLeDiff, Nat.reduceBEq, Nat.reduceDiv, Nat.reduceMod, Int.reduceToNat, Int.reduceLT, Int.reduceLE, Int.reduceAdd, Int.reduceSub, Int.reduceMul, Int.reduceEq, Int.reduceNeg, reduceCtorEq, resV, resAll, ARes.ev, LV.flat, ite_true, ite_false, exists_eq_left', exists_eq_left, keyOf, implies_true, fillC, capOf]
  refine callK_of (g_IsHeap (Has.app h.has) hn) ?_
  simp (disch := omega) only [↓SXd, SXu, slBounds, ↓sop, ↓aop, ↓reduceIte, LV.cells, AOp.dst, LV.I, LV.B, LV.U, LV.S, LV.nil, Nat.reduceEqDiff, Nat.reduceAdd, Nat.reduceMul, Nat.reduceSub, Nat.reduceLeDiff, Nat.reduceBEq, Nat.reduceDiv, Nat.reduceMod, Int.reduceToNat, Int.reduceLT, Int.reduceLE, Int.reduceAdd, Int.reduceSub, Int.reduceMul, Int.reduceEq, Int.reduceNeg, reduceCtorEq, resV, resAll, ARes.ev, LV.flat, ite_true, ite_false, exists_eq_left', exists_eq_left, keyOf, implies_true, fillC, capOf]
  exact heapX_no (if_neg hH) rfl (Pre.app _ _)
theorem g_CropHeapX : CallsR PG F.impl_CropHeap [.agg [.I x, .I y, .I z, .ref t 0 cs.length]] M (HeapX M (crOf x y z cs)) := by
  refine heapX_of ?_
  by_cases hV : HeapOK x y z cs ∧ 0 < cs.length
  · exact (g_CropHeapV h hV.1 hV.2).mono fun v N e => heapX_yes (g := cropHp cs) (if_pos hV) e.1 e.2
  refine callsR_run K.impl_CropHeap rfl ?_
  simp (disch := omega) only [C.impl_CropHeap, ↓SXd, SXu, slBounds, ↓sop, ↓aop, ↓reduceIte, LV.cells, AOp.dst, LV.I, LV.B, LV.U, LV.S, LV.nil, Nat.reduceEqDiff, Nat.reduceAdd, Nat.reduceMul, Nat.reduceSub, Nat.reduceLeDiff, Nat.reduceBEq, Nat.reduceDiv, Nat.reduceMod, Int.reduceToNat, Int.reduceLT, Int.reduceLE, Int.reduceAdd, Int.reduceSub, Int.reduceMul, Int.reduceEq, Int.reduceNeg, reduceCtorEq, resV, resAll, ARes.ev, LV.flat, ite_true, ite_false, exists_eq_left', exists_eq_left, keyOf, implies_true, fillC, capOf]
  refine callK_of (g_IsHeap (Has.app h.has) hn) ?_
  simp (disch := omega) only [↓SXd, SXu, slBounds, ↓sop, ↓aop, ↓reduceIte, LV.cells, AOp.dst, LV.I, LV.B, LV.U, LV.S, LV.nil, Nat.reduceEqDiff, Nat.reduceAdd, Nat.reduceMul, Nat.reduceSub, Nat.reduceLeDiff, Nat.reduceBEq, Nat.reduceDiv, Nat.reduceMod, Int.reduceToNat, Int.reduceLT, Int.reduceLE, Int.reduceAdd, Int.reduceSub, Int.reduceMul, Int.reduceEq, Int.reduceNeg, reduceCtorEq, resV, resAll, ARes.ev, LV.flat, ite_true, ite_false, exists_eq_left', exists_eq_left, keyOf, implies_true, fillC, capOf]
  by_cases hH : HeapOK x y z cs
  rotate_left
  · simp (disch := omega) only [hH, splice, ↓SXd, SXu, slBounds, ↓sop, ↓aop, ↓reduceIte, LV.cells, AOp.dst, LV.I, LV.B, LV.U, LV.S, LV.nil, Nat.reduceEqDiff, Nat.reduceAdd, Nat.reduceMul, Nat.reduceSub, Nat.reduceLeDiff, Nat.reduceBEq, Nat.reduceDiv, Nat.reduceMod, Int.reduceToNat, Int.reduceLT, Int.reduceLE, Int.reduceAdd, Int.reduceSub, Int.reduceMul, Int.reduceEq, Int.reduceNeg, reduceCtorEq, resV, resAll, ARes.ev, LV.flat, ite_true, ite_false, exists_eq_left', exists_eq_left, keyOf, implies_true, fillC, capOf]
    exact heapX_no (if_neg hV) rfl (Pre.app _ _)
  have h0 : ((cs.length : Nat) : Int) = 0 := by
    have : ¬ 0 < cs.length := fun e => hV ⟨hH, e⟩
    omega
  simp (disch := omega) only [hH, h0, splice, ↓SXd, SXu, slBounds, ↓sop, ↓aop, ↓reduceIte, LV.cells, AOp.dst, LV.I, LV.B, LV.U, LV.S, LV.nil, Nat.reduceEqDiff, Nat.reduceAdd, Nat.reduceMul, Nat.reduceSub, Nat.reduceLeDiff, Nat.reduceBEq, Nat.reduceDiv, Nat.reduceMod, Int.reduceToNat, Int.reduceLT, Int.reduceLE, Int.reduceAdd, Int.reduceSub, Int.reduceMul, Int.reduceEq, Int.reduceNeg, reduceCtorEq, resV, resAll, ARes.ev, LV.flat, ite_true, ite_false, exists_eq_left', exists_eq_left, keyOf, implies_true, fillC, capOf]
  exact heapX_no (if_neg hV) rfl (Pre.app _ _)
theorem g_widen_1 {c : Cell} {M : Mem} : CallsTo PG F.impl_WidenHeap_1 ([.agg [.I c.a, .I c.b, .I c.c]] ++ ([] : List (Nat × Nat)).map fun p => .ptr p.1 p.2) M (.agg [.I (id c).a, .I (id c).b, .I (id c).c]) M := by
  clear h hn
  refine calls_run K.impl_WidenHeap_1 rfl ?_
  simp (disch := omega) only [C.impl_WidenHeap_1, List.map_nil, splice, ↓SXd, SXu, slBounds, ↓sop, ↓aop, ↓reduceIte, LV.cells, AOp.dst, LV.I, LV.B, LV.U, LV.S, LV.nil, Nat.reduceEqDiff, Nat.reduceAdd, Nat.reduceMul, Nat.reduceSub, Nat.reduceLeDiff, Nat.reduceBEq, Nat.reduceDiv, Nat.reduceMod, Int.reduceToNat, Int.reduceLT, Int.reduceLE, Int.reduceAdd, Int.reduceSub, Int.reduceMul, Int.reduceEq, Int.reduceNeg, reduceCtorEq, resV, resAll, ARes.ev, LV.flat, ite_true, ite_false, exists_eq_left', exists_eq_left, keyOf, implies_true, fillC, capOf]
  exact cmp_drop rfl
theorem g_WidenHeapX {X Y Z : Int} : CallsR PG F.impl_WidenHeap [.agg [.I x, .I y, .I z, .ref t 0 cs.length], .I X, .I Y, .I Z] M (HeapX M (wdOf x y z cs X Y Z)) := by
  have ht := h.lt
  refine heapX_of ?_
  refine callsR_run K.impl_WidenHeap rfl ?_
  simp (disch := omega) only [C.impl_WidenHeap, splice, ↓SXd, SXu, slBounds, ↓sop, ↓aop, ↓reduceIte, LV.cells, AOp.dst, LV.I, LV.B, LV.U, LV.S, LV.nil, Nat.reduceEqDiff, Nat.reduceAdd, Nat.reduceMul, Nat.reduceSub, Nat.reduceLeDiff, Nat.reduceBEq, Nat.reduceDiv, Nat.reduceMod, Int.reduceToNat, Int.reduceLT, Int.reduceLE, Int.reduceAdd, Int.reduceSub, Int.reduceMul, Int.reduceEq, Int.reduceNeg, reduceCtorEq, resV, resAll, ARes.ev, LV.flat, ite_true, ite_false, exists_eq_left', exists_eq_left, keyOf, implies_true, fillC, capOf]
  refine callK_of (g_IsHeap (Has.app h.has) hn) ?_
  simp (disch := omega) only [↓SXd, SXu, slBounds, ↓sop, ↓aop, ↓reduceIte, LV.cells, AOp.dst, LV.I, LV.B, LV.U, LV.S, LV.nil, Nat.reduceEqDiff, Nat.reduceAdd, Nat.reduceMul, Nat.reduceSub, Nat.reduceLeDiff, Nat.reduceBEq, Nat.reduceDiv, Nat.reduceMod, Int.reduceToNat, Int.reduceLT, Int.reduceLE, Int.reduceAdd, Int.reduceSub, Int.reduceMul, Int.reduceEq, Int.reduceNeg, reduceCtorEq, resV, resAll, ARes.ev, LV.flat, ite_true, ite_false, exists_eq_left', exists_eq_left, keyOf, implies_true, fillC, capOf]
  by_cases hH : HeapOK x y z cs
  rotate_left
  · simp (disch := omega) only [hH, splice, ↓SXd, SXu, slBounds, ↓sop, ↓aop, ↓reduceIte, LV.cells, AOp.dst, LV.I, LV.B, LV.U, LV.S, LV.nil, Nat.reduceEqDiff, Nat.reduceAdd, Nat.reduceMul, Nat.reduceSub, Nat.reduceLeDiff, Nat.reduceBEq, Nat.reduceDiv, Nat.reduceMod, Int.reduceToNat, Int.reduceLT, Int.reduceLE, Int.reduceAdd, Int.reduceSub, Int.reduceMul, Int.reduceEq, Int.reduceNeg, reduceCtorEq, resV, resAll, ARes.ev, LV.flat, ite_true, ite_false, exists_eq_left', exists_eq_left, keyOf, implies_true, fillC, capOf]
    exact heapX_no (if_neg fun e => hH e.1) rfl (Pre.app _ _)
  have hlen := hH.len
  simp (disch := omega) only [hH, ↓SXd, SXu, slBounds, ↓sop, ↓aop, ↓reduceIte, LV.cells, AOp.dst, LV.I, LV.B, LV.U, LV.S, LV.nil, Nat.reduceEqDiff, Nat.reduceAdd, Nat.reduceMul, Nat.reduceSub, Nat.reduceLeDiff, Nat.reduceBEq, Nat.reduceDiv, Nat.reduceMod, Int.reduceToNat, Int.reduceLT, Int.reduceLE, Int.reduceAdd, Int.reduceSub, Int.reduceMul, Int.reduceEq, Int.reduceNeg, reduceCtorEq, resV, resAll, ARes.ev, LV.flat, ite_true, ite_false, exists_eq_left', exists_eq_left, keyOf, implies_true, fillC, capOf]
  refine callK_of (g_valid) ?_
  simp (disch := omega) only [↓SXd, SXu, slBounds, ↓sop, ↓aop, ↓reduceIte, LV.cells, AOp.dst, LV.I, LV.B, LV.U, LV.S, LV.nil, Nat.reduceEqDiff, Nat.reduceAdd, Nat.reduceMul, Nat.reduceSub, Nat.reduceLeDiff, Nat.reduceBEq, Nat.reduceDiv, Nat.reduceMod, Int.reduceToNat, Int.reduceLT, Int.reduceLE, Int.reduceAdd, Int.reduceSub, Int.reduceMul, Int.reduceEq, Int.reduceNeg, reduceCtorEq, resV, resAll, ARes.ev, LV.flat, ite_true, ite_false, exists_eq_left', exists_eq_left, keyOf, implies_true, fillC, capOf]
  by_cases hS : Sides X Y Z
  rotate_left
  · simp (disch := omega) only [hS, splice, ↓SXd, SXu, slBounds, ↓sop, ↓aop, ↓reduceIte, LV.cells, AOp.dst, LV.I, LV.B, LV.U, LV.S, LV.nil, Nat.reduceEqDiff, Nat.reduceAdd, Nat.reduceMul, Nat.reduceSub, Nat.reduceLeDiff, Nat.reduceBEq, Nat.reduceDiv, Nat.reduceMod, Int.reduceToNat, Int.reduceLT, Int.reduceLE, Int.reduceAdd, Int.reduceSub, Int.reduceMul, Int.reduceEq, Int.reduceNeg, reduceCtorEq, resV, resAll, ARes.ev, LV.flat, ite_true, ite_false, exists_eq_left', exists_eq_left, keyOf, implies_true, fillC, capOf]
    exact heapX_no (if_neg fun e => hS e.2.1) rfl (Pre.app _ _)
  simp (disch := omega) only [hS, ↓SXd, SXu, slBounds, ↓sop, ↓aop, ↓reduceIte, LV.cells, AOp.dst, LV.I, LV.B, LV.U, LV.S, LV.nil, Nat.reduceEqDiff, Nat.reduceAdd, Nat.reduceMul, Nat.reduceSub, Nat.reduceLeDiff, Nat.reduceBEq, Nat.reduceDiv, Nat.reduceMod, Int.reduceToNat, Int.reduceLT, Int.reduceLE, Int.reduceAdd, Int.reduceSub, Int.reduceMul, Int.reduceEq, Int.reduceNeg, reduceCtorEq, resV, resAll, ARes.ev, LV.flat, ite_true, ite_false, exists_eq_left', exists_eq_left, keyOf, implies_true, fillC, capOf]
  refine ev_loop (fun m fr M' => ∃ i : Nat, i + m = cs.length ∧ Pre M M' ∧ Live M' M.length (.row [.I x, .I y, .I z, .ref t 0 cs.length] true 0) ∧ Live M' (M.length + 1) (.row [.I 0, .I 0, .I 0, .nil] true 0) ∧ Live M' (M.length + 2) (.row [.I X, .I Y, .I Z] true 0) ∧
    fr 4 = .ptr M.length 0 ∧ fr 8 = .ptr (M.length + 1) 0 ∧ fr 10 = .ptr (M.length + 2) 0 ∧ fr 27 = .ref t 0 cs.length ∧ fr 28 = .I cs.length ∧ fr 29 = .I i ∧ ∀ j, j < i → (cs.getD j default).inBox X Y Z) cs.length
    ⟨0, by omega, Pre.app _ _, Live.new, Live.newj rfl, Live.newj rfl, rfl, rfl, rfl, rfl, rfl, rfl, by omega⟩ ?_
  rintro m fr M' ⟨i, hi, hpre, b4, b8, b10, f4, f8, f10, f27, f28, f29, hj⟩
  simp (disch := omega) only [f4, f8, f10, f27, f28, f29, ↓SXd, SXu, slBounds, ↓sop, ↓aop, ↓reduceIte, LV.cells, AOp.dst, LV.I, LV.B, LV.U, LV.S, LV.nil, Nat.reduceEqDiff, Nat.reduceAdd, Nat.reduceMul, Nat.reduceSub, Nat.reduceLeDiff, Nat.reduceBEq, Nat.reduceDiv, Nat.reduceMod, Int.reduceToNat, Int.reduceLT, Int.reduceLE, Int.reduceAdd, Int.reduceSub, Int.reduceMul, Int.reduceEq, Int.reduceNeg, reduceCtorEq, resV, resAll, ARes.ev, LV.flat, ite_true, ite_false, exists_eq_left', exists_eq_left, keyOf, implies_true, fillC, capOf]
  refine condC_dec (fun hlt => ?_) (fun hlt => ?_)
  · have hil : i < cs.length := by omega
    have hg := (h.pre hpre).tri0 hil
    have hb8l := b8.lt
    have hmem := getD_mem' (d := default) hil
    simp (disch := omega) only [f4, f8, f10, f27, f28, f29, hg, Cell.row, splice, b10.app.cells, Nat.mul_one, Nat.zero_add, ↓SXd, SXu, slBounds, ↓sop, ↓aop, ↓reduceIte, LV.cells, AOp.dst, LV.I, LV.B, LV.U, LV.S, LV.nil, Nat.reduceEqDiff, Nat.reduceAdd, Nat.reduceMul, Nat.reduceSub, Nat.reduceLeDiff, Nat.reduceBEq, Nat.reduceDiv, Nat.reduceMod, Int.reduceToNat, Int.reduceLT, Int.reduceLE, Int.reduceAdd, Int.reduceSub, Int.reduceMul, Int.reduceEq, Int.reduceNeg, reduceCtorEq, resV, resAll, ARes.ev, LV.flat, ite_true, ite_false, exists_eq_left', exists_eq_left, keyOf, implies_true, fillC, capOf]
    refine callK_of (g_has hS) ?_
    simp (disch := omega) only [f4, f8, f10, f27, f28, f29, ↓SXd, SXu, slBounds, ↓sop, ↓aop, ↓reduceIte, LV.cells, AOp.dst, LV.I, LV.B, LV.U, LV.S, LV.nil, Nat.reduceEqDiff, Nat.reduceAdd, Nat.reduceMul, Nat.reduceSub, Nat.reduceLeDiff, Nat.reduceBEq, Nat.reduceDiv, Nat.reduceMod, Int.reduceToNat, Int.reduceLT, Int.reduceLE, Int.reduceAdd, Int.reduceSub, Int.reduceMul, Int.reduceEq, Int.reduceNeg, reduceCtorEq, resV, resAll, ARes.ev, LV.flat, ite_true, ite_false, exists_eq_left', exists_eq_left, keyOf, implies_true, fillC, capOf]
    rw [cell_eta]
    by_cases hc : (cs.getD i default).inBox X Y Z
    · simp (disch := omega) only [f4, f8, f10, f27, f28, f29, hc, ↓SXd, SXu, slBounds, ↓sop, ↓aop, ↓reduceIte, LV.cells, AOp.dst, LV.I, LV.B, LV.U, LV.S, LV.nil, Nat.reduceEqDiff, Nat.reduceAdd, Nat.reduceMul, Nat.reduceSub, Nat.reduceLeDiff, Nat.reduceBEq, Nat.reduceDiv, Nat.reduceMod, Int.reduceToNat, Int.reduceLT, Int.reduceLE, Int.reduceAdd, Int.reduceSub, Int.reduceMul, Int.reduceEq, Int.reduceNeg, reduceCtorEq, resV, resAll, ARes.ev, LV.flat, ite_true, ite_false, exists_eq_left', exists_eq_left, keyOf, implies_true, fillC, capOf]
      exact ⟨m - 1, by omega, i + 1, by omega, hpre.trans (Pre.app _ _), b4.app, b8.app, b10.app, f4, f8, f10, f27, f28, eqI (natI _), fun j hj1 => by
        rcases Nat.lt_or_ge j i with h2 | h2
        · exact hj j h2
        · rw [show j = i by omega]; exact hc⟩
    · simp (disch := omega) only [f4, f8, f10, f27, f28, f29, hc, ↓SXd, SXu, slBounds, ↓sop, ↓aop, ↓reduceIte, LV.cells, AOp.dst, LV.I, LV.B, LV.U, LV.S, LV.nil, Nat.reduceEqDiff, Nat.reduceAdd, Nat.reduceMul, Nat.reduceSub, Nat.reduceLeDiff, Nat.reduceBEq, Nat.reduceDiv, Nat.reduceMod, Int.reduceToNat, Int.reduceLT, Int.reduceLE, Int.reduceAdd, Int.reduceSub, Int.reduceMul, Int.reduceEq, Int.reduceNeg, reduceCtorEq, resV, resAll, ARes.ev, LV.flat, ite_true, ite_false, exists_eq_left', exists_eq_left, keyOf, implies_true, fillC, capOf]
      refine memK_box b8.app (by simp) fun N5 r1 r2 r3 => ?_
      simp (disch := omega) only [f4, f8, f10, f27, f28, f29, r2.cells, ↓SXd, SXu, slBounds, ↓sop, ↓aop, ↓reduceIte, LV.cells, AOp.dst, LV.I, LV.B, LV.U, LV.S, LV.nil, Nat.reduceEqDiff, Nat.reduceAdd, Nat.reduceMul, Nat.reduceSub, Nat.reduceLeDiff, Nat.reduceBEq, Nat.reduceDiv, Nat.reduceMod, Int.reduceToNat, Int.reduceLT, Int.reduceLE, Int.reduceAdd, Int.reduceSub, Int.reduceMul, Int.reduceEq, Int.reduceNeg, reduceCtorEq, resV, resAll, ARes.ev, LV.flat, ite_true, ite_false, exists_eq_left', exists_eq_left, keyOf, implies_true, fillC, capOf]
      have hpM := hpre.1
      exact heapX_no (if_neg fun e => hc (e.2.mem hmem)) rfl (pre_step (hpre.trans (Pre.app _ _)) (by omega) (j := 0) r1 r3)
  · have : i = cs.length := by omega
    subst this
    have hall : ∀ c ∈ cs, c.inBox X Y Z := fun c hc => by
      obtain ⟨k, hk, rfl⟩ := List.getElem_of_mem hc
      have := hj k hk
      simpa [hk] using this
    have hW : HeapOK X Y Z cs := HeapOK.of hS hH.sorted hall
    have hif : wdOf x y z cs X Y Z = some ⟨X, Y, Z, cs⟩ := if_pos ⟨hH, hW⟩
    rw [hif]
    have hmv := g_moved (x := x) (y := y) (z := z) (X := X) (Y := Y) (Z := Z) (g := id) (f := F.impl_WidenHeap_1) (caps := []) (cs := cs) (h.pre hpre).has (by omega) hS hall fun N hp c hcc => g_widen_1 h hn
    rw [List.map_id, ← hW.pick] at hmv
    simp (disch := omega) only [f4, f8, f10, f27, f28, f29, b4.cells, b10.cells, ↓SXd, SXu, slBounds, ↓sop, ↓aop, ↓reduceIte, LV.cells, AOp.dst, LV.I, LV.B, LV.U, LV.S, LV.nil, Nat.reduceEqDiff, Nat.reduceAdd, Nat.reduceMul, Nat.reduceSub, Nat.reduceLeDiff, Nat.reduceBEq, Nat.reduceDiv, Nat.reduceMod, Int.reduceToNat, Int.reduceLT, Int.reduceLE, Int.reduceAdd, Int.reduceSub, Int.reduceMul, Int.reduceEq, Int.reduceNeg, reduceCtorEq, resV, resAll, ARes.ev, LV.flat, ite_true, ite_false, exists_eq_left', exists_eq_left, keyOf, implies_true, fillC, capOf]
    refine callK_of hmv ?_
    simp (disch := omega) only [f4, f8, f10, f27, f28, f29, ↓SXd, SXu, slBounds, ↓sop, ↓aop, ↓reduceIte, LV.cells, AOp.dst, LV.I, LV.B, LV.U, LV.S, LV.nil, Nat.reduceEqDiff, Nat.reduceAdd, Nat.reduceMul, Nat.reduceSub, Nat.reduceLeDiff, Nat.reduceBEq, Nat.reduceDiv, Nat.reduceMod, Int.reduceToNat, Int.reduceLT, Int.reduceLE, Int.reduceAdd, Int.reduceSub, Int.reduceMul, Int.reduceEq, Int.reduceNeg, reduceCtorEq, resV, resAll, ARes.ev, LV.flat, ite_true, ite_false, exists_eq_left', exists_eq_left, keyOf, implies_true, fillC, capOf]
    refine heapX_box (g := ⟨X, Y, Z, cs⟩) b8.app rfl (Live.new) (by omega) hpre.1 (hpre.trans (Pre.app _ _)) fun N' e1 e2 e3 => ?_
    simp (disch := omega) only [f4, f8, f10, f27, f28, f29, e1.cells, ↓SXd, SXu, slBounds, ↓sop, ↓aop, ↓reduceIte, LV.cells, AOp.dst, LV.I, LV.B, LV.U, LV.S, LV.nil, Nat.reduceEqDiff, Nat.reduceAdd, Nat.reduceMul, Nat.reduceSub, Nat.reduceLeDiff, Nat.reduceBEq, Nat.reduceDiv, Nat.reduceMod, Int.reduceToNat, Int.reduceLT, Int.reduceLE, Int.reduceAdd, Int.reduceSub, Int.reduceMul, Int.reduceEq, Int.reduceNeg, reduceCtorEq, resV, resAll, ARes.ev, LV.flat, ite_true, ite_false, exists_eq_left', exists_eq_left, keyOf, implies_true, fillC, capOf]
    exact .inl ⟨e2, e3⟩
theorem g_shift_1 {c p : Cell} {u : Nat} {M : Mem} (hu : Live M u (.row [.I p.a, .I p.b, .I p.c] true 0)) (hc : Small c) (hp : Small p) :
    CallsTo PG F.impl_ShiftHeap_1 ([.agg [.I c.a, .I c.b, .I c.c]] ++ [(u, 0)].map fun p => .ptr p.1 p.2) M (.agg [.I (shift p c).a, .I (shift p c).b, .I (shift p c).c]) M := by
  clear h hn
  refine calls_run K.impl_ShiftHeap_1 rfl ?_
  simp (disch := omega) only [C.impl_ShiftHeap_1, List.map_cons, List.map_nil, hu.app.cells, ↓SXd, SXu, slBounds, ↓sop, ↓aop, ↓reduceIte, LV.cells, AOp.dst, LV.I, LV.B, LV.U, LV.S, LV.nil, Nat.reduceEqDiff, Nat.reduceAdd, Nat.reduceMul, Nat.reduceSub, Nat.reduceLeDiff, Nat.reduceBEq, Nat.reduceDiv, Nat.reduceMod, Int.reduceToNat, Int.reduceLT, Int.reduceLE, Int.reduceAdd, Int.reduceSub, Int.reduceMul, Int.reduceEq, Int.reduceNeg, reduceCtorEq, resV, resAll, ARes.ev, LV.flat, ite_true, ite_false, exists_eq_left', exists_eq_left, keyOf, implies_true, fillC, capOf]
  refine callK_of (g_added hc hp) ?_
  simp (disch := omega) only [splice, ↓SXd, SXu, slBounds, ↓sop, ↓aop, ↓reduceIte, LV.cells, AOp.dst, LV.I, LV.B, LV.U, LV.S, LV.nil, Nat.reduceEqDiff, Nat.reduceAdd, Nat.reduceMul, Nat.reduceSub, Nat.reduceLeDiff, Nat.reduceBEq, Nat.reduceDiv, Nat.reduceMod, Int.reduceToNat, Int.reduceLT, Int.reduceLE, Int.reduceAdd, Int.reduceSub, Int.reduceMul, Int.reduceEq, Int.reduceNeg, reduceCtorEq, resV, resAll, ARes.ev, LV.flat, ite_true, ite_false, exists_eq_left', exists_eq_left, keyOf, implies_true, fillC, capOf]
  exact cmp_drop rfl
theorem g_ShiftHeapX {p : Cell} : CallsR PG F.impl_ShiftHeap [.agg [.I x, .I y, .I z, .ref t 0 cs.length], .agg [.I p.a, .I p.b, .I p.c]] M (HeapX M (shOf x y z cs p)) := by
  have ht := h.lt
  refine heapX_of ?_
  refine callsR_run K.impl_ShiftHeap rfl ?_
  simp (disch := omega) only [C.impl_ShiftHeap, splice, ↓SXd, SXu, slBounds, ↓sop, ↓aop, ↓reduceIte, LV.cells, AOp.dst, LV.I, LV.B, LV.U, LV.S, LV.nil, Nat.reduceEqDiff, Nat.reduceAdd, Nat.reduceMul, Nat.reduceSub, Nat.reduceLeDiff, Nat.reduceBEq, Nat.reduceDiv, Nat.reduceMod, Int.reduceToNat, Int.reduceLT, Int.reduceLE, Int.reduceAdd, Int.reduceSub, Int.reduceMul, Int.reduceEq, Int.reduceNeg, reduceCtorEq, resV, resAll, ARes.ev, LV.flat, ite_true, ite_false, exists_eq_left', exists_eq_left, keyOf, implies_true, fillC, capOf]
  refine callK_of (g_IsHeap (Has.app h.has) hn) ?_
  simp (disch := omega) only [↓SXd, SXu, slBounds, ↓sop, ↓aop, ↓reduceIte, LV.cells, AOp.dst, LV.I, LV.B, LV.U, LV.S, LV.nil, Nat.reduceEqDiff, Nat.reduceAdd, Nat.reduceMul, Nat.reduceSub, Nat.reduceLeDiff, Nat.reduceBEq, Nat.reduceDiv, Nat.reduceMod, Int.reduceToNat, Int.reduceLT, Int.reduceLE, Int.reduceAdd, Int.reduceSub, Int.reduceMul, Int.reduceEq, Int.reduceNeg, reduceCtorEq, resV, resAll, ARes.ev, LV.flat, ite_true, ite_false, exists_eq_left', exists_eq_left, keyOf, implies_true, fillC, capOf]
  by_cases hH : HeapOK x y z cs
  rotate_left
  · simp (disch := omega) only [hH, splice, ↓SXd, SXu, slBounds, ↓sop, ↓aop, ↓reduceIte, LV.cells, AOp.dst, LV.I, LV.B, LV.U, LV.S, LV.nil, Nat.reduceEqDiff, Nat.reduceAdd, Nat.reduceMul, Nat.reduceSub, Nat.reduceLeDiff, Nat.reduceBEq, Nat.reduceDiv, Nat.reduceMod, Int.reduceToNat, Int.reduceLT, Int.reduceLE, Int.reduceAdd, Int.reduceSub, Int.reduceMul, Int.reduceEq, Int.reduceNeg, reduceCtorEq, resV, resAll, ARes.ev, LV.flat, ite_true, ite_false, exists_eq_left', exists_eq_left, keyOf, implies_true, fillC, capOf]
    exact heapX_no (if_neg fun e => hH e.1) rfl (Pre.app _ _)
  have hlen := hH.len
  simp (disch := omega) only [hH, slBounds, Option.isSome_some, and_self, if_true, ↓SXd, SXu, slBounds, ↓sop, ↓aop, ↓reduceIte, LV.cells, AOp.dst, LV.I, LV.B, LV.U, LV.S, LV.nil, Nat.reduceEqDiff, Nat.reduceAdd, Nat.reduceMul, Nat.reduceSub, Nat.reduceLeDiff, Nat.reduceBEq, Nat.reduceDiv, Nat.reduceMod, Int.reduceToNat, Int.reduceLT, Int.reduceLE, Int.reduceAdd, Int.reduceSub, Int.reduceMul, Int.reduceEq, Int.reduceNeg, reduceCtorEq, resV, resAll, ARes.ev, LV.flat, ite_true, ite_false, exists_eq_left', exists_eq_left, keyOf, implies_true, fillC, capOf]
  have hI : Ints (M ++ [some (.row [.I x, .I y, .I z, .ref t 0 cs.length] true 0), some (.row [.I p.a, .I p.b, .I p.c] true 0), some (.row [.I 0, .I 0, .I 0, .nil] true 0)]) (M.length + 1) 0 [p.a, p.b, p.c] := (Live.newj (j := 1) rfl : Live _ _ (.row (intL [p.a, p.b, p.c]) true 0)).has
  have hal := g_allWithin (lo := -4) (hi := 4) hI (by simp)
  have hdec : (∀ k, k < [p.a, p.b, p.c].length → -4 ≤ [p.a, p.b, p.c].getD k 0 ∧ [p.a, p.b, p.c].getD k 0 ≤ 4) ↔ Near4 p := by
    constructor
    · intro e
      exact ⟨e 0 (by simp), e 1 (by simp), e 2 (by simp)⟩
    · rintro ⟨e1, e2, e3⟩ k hk
      rcases (show k = 0 ∨ k = 1 ∨ k = 2 by simp at hk; omega) with rfl | rfl | rfl
      · exact e1
      · exact e2
      · exact e3
  by_cases hN : Near4 p
  rotate_left
  · rw [decide_eq_false (fun e => hN (hdec.1 e))] at hal
    refine callK_of hal ?_
    simp (disch := omega) only [splice, ↓SXd, SXu, slBounds, ↓sop, ↓aop, ↓reduceIte, LV.cells, AOp.dst, LV.I, LV.B, LV.U, LV.S, LV.nil, Nat.reduceEqDiff, Nat.reduceAdd, Nat.reduceMul, Nat.reduceSub, Nat.reduceLeDiff, Nat.reduceBEq, Nat.reduceDiv, Nat.reduceMod, Int.reduceToNat, Int.reduceLT, Int.reduceLE, Int.reduceAdd, Int.reduceSub, Int.reduceMul, Int.reduceEq, Int.reduceNeg, reduceCtorEq, resV, resAll, ARes.ev, LV.flat, ite_true, ite_false, exists_eq_left', exists_eq_left, keyOf, implies_true, fillC, capOf]
    exact heapX_no (if_neg fun e => hN e.2.1) rfl (Pre.app _ _)
  rw [decide_eq_true (hdec.2 hN)] at hal
  refine callK_of hal ?_
  have hps : Small p := by obtain ⟨⟨_, _⟩, ⟨_, _⟩, ⟨_, _⟩⟩ := hN; unfold Small; omega
  have hcsm := cells_small hH
  clear hal hdec hI
  simp (disch := omega) only [↓SXd, SXu, slBounds, ↓sop, ↓aop, ↓reduceIte, LV.cells, AOp.dst, LV.I, LV.B, LV.U, LV.S, LV.nil, Nat.reduceEqDiff, Nat.reduceAdd, Nat.reduceMul, Nat.reduceSub, Nat.reduceLeDiff, Nat.reduceBEq, Nat.reduceDiv, Nat.reduceMod, Int.reduceToNat, Int.reduceLT, Int.reduceLE, Int.reduceAdd, Int.reduceSub, Int.reduceMul, Int.reduceEq, Int.reduceNeg, reduceCtorEq, resV, resAll, ARes.ev, LV.flat, ite_true, ite_false, exists_eq_left', exists_eq_left, keyOf, implies_true, fillC, capOf]
  refine ev_loop (fun m fr M' => ∃ i : Nat, i + m = cs.length ∧ Pre M M' ∧ Live M' M.length (.row [.I x, .I y, .I z, .ref t 0 cs.length] true 0) ∧ Live M' (M.length + 1) (.row [.I p.a, .I p.b, .I p.c] true 0) ∧ Live M' (M.length + 2) (.row [.I 0, .I 0, .I 0, .nil] true 0) ∧
    fr 2 = .ptr M.length 0 ∧ fr 3 = .ptr (M.length + 1) 0 ∧ fr 4 = .ptr (M.length + 2) 0 ∧ fr 18 = .ref t 0 cs.length ∧ fr 19 = .I cs.length ∧ fr 20 = .I i ∧ ∀ j, j < i → (shift p (cs.getD j default)).inBox x y z) cs.length
    ⟨0, by omega, Pre.app _ _, Live.new, Live.newj rfl, Live.newj rfl, rfl, rfl, rfl, rfl, rfl, rfl, by omega⟩ ?_
  rintro m fr M' ⟨i, hi, hpre, b2, b3, b4, f2, f3, f4, f18, f19, f20, hj⟩
  simp (disch := omega) only [f2, f3, f4, f18, f19, f20, ↓SXd, SXu, slBounds, ↓sop, ↓aop, ↓reduceIte, LV.cells, AOp.dst, LV.I, LV.B, LV.U, LV.S, LV.nil, Nat.reduceEqDiff, Nat.reduceAdd, Nat.reduceMul, Nat.reduceSub, Nat.reduceLeDiff, Nat.reduceBEq, Nat.reduceDiv, Nat.reduceMod, Int.reduceToNat, Int.reduceLT, Int.reduceLE, Int.reduceAdd, Int.reduceSub, Int.reduceMul, Int.reduceEq, Int.reduceNeg, reduceCtorEq, resV, resAll, ARes.ev, LV.flat, ite_true, ite_false, exists_eq_left', exists_eq_left, keyOf, implies_true, fillC, capOf]
  refine condC_dec (fun hlt => ?_) (fun hlt => ?_)
  · have hil : i < cs.length := by omega
    have hg := (h.pre hpre).tri0 hil
    have hb4l := b4.lt
    have hmem := getD_mem' (d := default) hil
    have hcs := hcsm _ hmem
    simp (disch := omega) only [f2, f3, f4, f18, f19, f20, hg, Cell.row, splice, b2.app.cells, b3.app.cells, Nat.mul_one, Nat.zero_add, ↓SXd, SXu, slBounds, ↓sop, ↓aop, ↓reduceIte, LV.cells, AOp.dst, LV.I, LV.B, LV.U, LV.S, LV.nil, Nat.reduceEqDiff, Nat.reduceAdd, Nat.reduceMul, Nat.reduceSub, Nat.reduceLeDiff, Nat.reduceBEq, Nat.reduceDiv, Nat.reduceMod, Int.reduceToNat, Int.reduceLT, Int.reduceLE, Int.reduceAdd, Int.reduceSub, Int.reduceMul, Int.reduceEq, Int.reduceNeg, reduceCtorEq, resV, resAll, ARes.ev, LV.flat, ite_true, ite_false, exists_eq_left', exists_eq_left, keyOf, implies_true, fillC, capOf]
    refine callK_of (g_box) ?_
    simp (disch := omega) only [f2, f3, f4, f18, f19, f20, ↓SXd, SXu, slBounds, ↓sop, ↓aop, ↓reduceIte, LV.cells, AOp.dst, LV.I, LV.B, LV.U, LV.S, LV.nil, Nat.reduceEqDiff, Nat.reduceAdd, Nat.reduceMul, Nat.reduceSub, Nat.reduceLeDiff, Nat.reduceBEq, Nat.reduceDiv, Nat.reduceMod, Int.reduceToNat, Int.reduceLT, Int.reduceLE, Int.reduceAdd, Int.reduceSub, Int.reduceMul, Int.reduceEq, Int.reduceNeg, reduceCtorEq, resV, resAll, ARes.ev, LV.flat, ite_true, ite_false, exists_eq_left', exists_eq_left, keyOf, implies_true, fillC, capOf]
    refine callK_of (g_added hcs hps) ?_
    simp (disch := omega) only [f2, f3, f4, f18, f19, f20, ↓SXd, SXu, slBounds, ↓sop, ↓aop, ↓reduceIte, LV.cells, AOp.dst, LV.I, LV.B, LV.U, LV.S, LV.nil, Nat.reduceEqDiff, Nat.reduceAdd, Nat.reduceMul, Nat.reduceSub, Nat.reduceLeDiff, Nat.reduceBEq, Nat.reduceDiv, Nat.reduceMod, Int.reduceToNat, Int.reduceLT, Int.reduceLE, Int.reduceAdd, Int.reduceSub, Int.reduceMul, Int.reduceEq, Int.reduceNeg, reduceCtorEq, resV, resAll, ARes.ev, LV.flat, ite_true, ite_false, exists_eq_left', exists_eq_left, keyOf, implies_true, fillC, capOf]
    refine callK_of (g_has hH.1) ?_
    simp (disch := omega) only [f2, f3, f4, f18, f19, f20, ↓SXd, SXu, slBounds, ↓sop, ↓aop, ↓reduceIte, LV.cells, AOp.dst, LV.I, LV.B, LV.U, LV.S, LV.nil, Nat.reduceEqDiff, Nat.reduceAdd, Nat.reduceMul, Nat.reduceSub, Nat.reduceLeDiff, Nat.reduceBEq, Nat.reduceDiv, Nat.reduceMod, Int.reduceToNat, Int.reduceLT, Int.reduceLE, Int.reduceAdd, Int.reduceSub, Int.reduceMul, Int.reduceEq, Int.reduceNeg, reduceCtorEq, resV, resAll, ARes.ev, LV.flat, ite_true, ite_false, exists_eq_left', exists_eq_left, keyOf, implies_true, fillC, capOf]
    rw [cell_eta]
    by_cases hc : (shift p (cs.getD i default)).inBox x y z
    · simp (disch := omega) only [f2, f3, f4, f18, f19, f20, hc, ↓SXd, SXu, slBounds, ↓sop, ↓aop, ↓reduceIte, LV.cells, AOp.dst, LV.I, LV.B, LV.U, LV.S, LV.nil, Nat.reduceEqDiff, Nat.reduceAdd, Nat.reduceMul, Nat.reduceSub, Nat.reduceLeDiff, Nat.reduceBEq, Nat.reduceDiv, Nat.reduceMod, Int.reduceToNat, Int.reduceLT, Int.reduceLE, Int.reduceAdd, Int.reduceSub, Int.reduceMul, Int.reduceEq, Int.reduceNeg, reduceCtorEq, resV, resAll, ARes.ev, LV.flat, ite_true, ite_false, exists_eq_left', exists_eq_left, keyOf, implies_true, fillC, capOf]
      exact ⟨m - 1, by omega, i + 1, by omega, hpre.trans (Pre.app _ _), b2.app, b3.app, b4.app, f2, f3, f4, f18, f19, eqI (natI _), fun j hj1 => by
        rcases Nat.lt_or_ge j i with h2 | h2
        · exact hj j h2
        · rw [show j = i by omega]; exact hc⟩
    · simp (disch := omega) only [f2, f3, f4, f18, f19, f20, hc, ↓SXd, SXu, slBounds, ↓sop, ↓aop, ↓reduceIte, LV.cells, AOp.dst, LV.I, LV.B, LV.U, LV.S, LV.nil, Nat.reduceEqDiff, Nat.reduceAdd, Nat.reduceMul, Nat.reduceSub, Nat.reduceLeDiff, Nat.reduceBEq, Nat.reduceDiv, Nat.reduceMod, Int.reduceToNat, Int.reduceLT, Int.reduceLE, Int.reduceAdd, Int.reduceSub, Int.reduceMul, Int.reduceEq, Int.reduceNeg, reduceCtorEq, resV, resAll, ARes.ev, LV.flat, ite_true, ite_false, exists_eq_left', exists_eq_left, keyOf, implies_true, fillC, capOf]
      refine memK_box b4.app (by simp) fun N5 r1 r2 r3 => ?_
      simp (disch := omega) only [f2, f3, f4, f18, f19, f20, r2.cells, ↓SXd, SXu, slBounds, ↓sop, ↓aop, ↓reduceIte, LV.cells, AOp.dst, LV.I, LV.B, LV.U, LV.S, LV.nil, Nat.reduceEqDiff, Nat.reduceAdd, Nat.reduceMul, Nat.reduceSub, Nat.reduceLeDiff, Nat.reduceBEq, Nat.reduceDiv, Nat.reduceMod, Int.reduceToNat, Int.reduceLT, Int.reduceLE, Int.reduceAdd, Int.reduceSub, Int.reduceMul, Int.reduceEq, Int.reduceNeg, reduceCtorEq, resV, resAll, ARes.ev, LV.flat, ite_true, ite_false, exists_eq_left', exists_eq_left, keyOf, implies_true, fillC, capOf]
      have hpM := hpre.1
      exact heapX_no (if_neg fun e => hc (e.2.2.mem (List.mem_map_of_mem hmem))) rfl (pre_step (hpre.trans (Pre.app _ _)) (by omega) (j := 0) r1 r3)
  · have : i = cs.length := by omega
    subst this
    have hall : ∀ c ∈ cs, (shift p c).inBox x y z := fun c hc => by
      obtain ⟨k, hk, rfl⟩ := List.getElem_of_mem hc
      have := hj k hk
      simpa [hk] using this
    have hW : HeapOK x y z (cs.map (shift p)) := (shift_map p hH).2 hall
    have hif : shOf x y z cs p = some ⟨x, y, z, cs.map (shift p)⟩ := if_pos ⟨hH, hN, hW⟩
    rw [hif]
    have hmv := g_moved (x := x) (y := y) (z := z) (X := x) (Y := y) (Z := z) (g := shift p) (f := F.impl_ShiftHeap_1) (caps := [(M.length + 1, 0)]) (cs := cs) (h.pre hpre).has (by omega) hH.1 hall fun N hp c hcc => g_shift_1 h hn (b3.pre hp) (hcsm c hcc) hps
    rw [← hW.pick] at hmv
    generalize cs.map (shift p) = L at hmv ⊢
    simp (disch := omega) only [f2, f3, f4, f18, f19, f20, b2.cells, ↓SXd, SXu, slBounds, ↓sop, ↓aop, ↓reduceIte, LV.cells, AOp.dst, LV.I, LV.B, LV.U, LV.S, LV.nil, Nat.reduceEqDiff, Nat.reduceAdd, Nat.reduceMul, Nat.reduceSub, Nat.reduceLeDiff, Nat.reduceBEq, Nat.reduceDiv, Nat.reduceMod, Int.reduceToNat, Int.reduceLT, Int.reduceLE, Int.reduceAdd, Int.reduceSub, Int.reduceMul, Int.reduceEq, Int.reduceNeg, reduceCtorEq, resV, resAll, ARes.ev, LV.flat, ite_true, ite_false, exists_eq_left', exists_eq_left, keyOf, implies_true, fillC, capOf]
    refine callK_of (g_box) ?_
    simp (disch := omega) only [f2, f3, f4, f18, f19, f20, ↓SXd, SXu, slBounds, ↓sop, ↓aop, ↓reduceIte, LV.cells, AOp.dst, LV.I, LV.B, LV.U, LV.S, LV.nil, Nat.reduceEqDiff, Nat.reduceAdd, Nat.reduceMul, Nat.reduceSub, Nat.reduceLeDiff, Nat.reduceBEq, Nat.reduceDiv, Nat.reduceMod, Int.reduceToNat, Int.reduceLT, Int.reduceLE, Int.reduceAdd, Int.reduceSub, Int.reduceMul, Int.reduceEq, Int.reduceNeg, reduceCtorEq, resV, resAll, ARes.ev, LV.flat, ite_true, ite_false, exists_eq_left', exists_eq_left, keyOf, implies_true, fillC, capOf]
    refine callK_of hmv ?_
    simp (disch := omega) only [f2, f3, f4, f18, f19, f20, ↓SXd, SXu, slBounds, ↓sop, ↓aop, ↓reduceIte, LV.cells, AOp.dst, LV.I, LV.B, LV.U, LV.S, LV.nil, Nat.reduceEqDiff, Nat.reduceAdd, Nat.reduceMul, Nat.reduceSub, Nat.reduceLeDiff, Nat.reduceBEq, Nat.reduceDiv, Nat.reduceMod, Int.reduceToNat, Int.reduceLT, Int.reduceLE, Int.reduceAdd, Int.reduceSub, Int.reduceMul, Int.reduceEq, Int.reduceNeg, reduceCtorEq, resV, resAll, ARes.ev, LV.flat, ite_true, ite_false, exists_eq_left', exists_eq_left, keyOf, implies_true, fillC, capOf]
    refine heapX_box (g := ⟨x, y, z, L⟩) b4.app rfl (Live.new) (by omega) hpre.1 (hpre.trans (Pre.app _ _)) fun N' e1 e2 e3 => ?_
    simp (disch := omega) only [f2, f3, f4, f18, f19, f20, e1.cells, ↓SXd, SXu, slBounds, ↓sop, ↓aop, ↓reduceIte, LV.cells, AOp.dst, LV.I, LV.B, LV.U, LV.S, LV.nil, Nat.reduceEqDiff, Nat.reduceAdd, Nat.reduceMul, Nat.reduceSub, Nat.reduceLeDiff, Nat.reduceBEq, Nat.reduceDiv, Nat.reduceMod, Int.reduceToNat, Int.reduceLT, Int.reduceLE, Int.reduceAdd, Int.reduceSub, Int.reduceMul, Int.reduceEq, Int.reduceNeg, reduceCtorEq, resV, resAll, ARes.ev, LV.flat, ite_true, ite_false, exists_eq_left', exists_eq_left, keyOf, implies_true, fillC, capOf]
    exact .inl ⟨e2, e3⟩
end
theorem g_swap_1 {a b : Int} {c : Cell} {ta tb : Nat} {M : Mem} (ha : Dir a) (hb : Dir b) (hta : Live M ta (.row [.I a] true 0)) (htb : Live M tb (.row [.I b] true 0)) :
    CallsTo PG F.impl_SwapSides_1 ([.agg [.I c.a, .I c.b, .I c.c]] ++ [(tb, 0), (ta, 0)].map fun p => .ptr p.1 p.2) M (.agg [.I (swC a b c).a, .I (swC a b c).b, .I (swC a b c).c]) M := by
  have h1 := hta.lt
  have h2 := htb.lt
  have ha0 : 0 ≤ a ∧ a < 3 := by rcases ha with h | h | h <;> omega
  have hb0 : 0 ≤ b ∧ b < 3 := by rcases hb with h | h | h <;> omega
  have e1 : [LV.I c.a, LV.I c.b, LV.I c.c][b.toNat]? = some (.I (c.at b)) := Cell.row_dir hb
  have e2 : [LV.I c.a, LV.I c.b, LV.I c.c][a.toNat]? = some (.I (c.at a)) := Cell.row_dir ha
  obtain ⟨R1, hR1, hR1l, hR2⟩ : ∃ R1, splice [LV.I c.a, LV.I c.b, LV.I c.c] a.toNat [.I (c.at b)] = R1 ∧ R1.length = 3 ∧ splice R1 b.toNat [.I (c.at a)] = (swC a b c).row := by
    have e9 : splice [LV.I c.a, LV.I c.b, LV.I c.c] a.toNat [.I (c.at b)] = [LV.I c.a, LV.I c.b, LV.I c.c].set a.toNat (.I (c.at b)) := splice_1 (by show a.toNat < 3; omega)
    refine ⟨_, rfl, ?_, ?_⟩
    · rw [e9]; simp
    · rw [e9, splice_1 (by rw [List.length_set]; show b.toNat < 3; omega)]
      exact swC_set ha hb
  generalize swC a b c = S at hR2 ⊢
  have hA1 : a.toNat + 1 ≤ 3 := by omega
  have hB1 : b.toNat + 1 ≤ 3 := by omega
  refine calls_run K.impl_SwapSides_1 rfl ?_
  simp (disch := omega) only [C.impl_SwapSides_1, List.map_cons, List.map_nil, hta.app.cell, htb.app.cell, hR1, hR1l, hR2, hA1, hB1, ha0, hb0, e1, e2, Nat.mul_one, Nat.zero_add, List.length_cons, List.length_nil, ↓SXd, SXu, slBounds, ↓sop, ↓aop, ↓reduceIte, LV.cells, AOp.dst, LV.I, LV.B, LV.U, LV.S, LV.nil, Nat.reduceEqDiff, Nat.reduceAdd, Nat.reduceMul, Nat.reduceSub, Nat.reduceLeDiff, Nat.reduceBEq, Nat.reduceDiv, Nat.reduceMod, Int.reduceToNat, Int.reduceLT, Int.reduceLE, Int.reduceAdd, Int.reduceSub, Int.reduceMul, Int.reduceEq, Int.reduceNeg, reduceCtorEq, resV, resAll, ARes.ev, LV.flat, ite_true, ite_false, exists_eq_left', exists_eq_left, keyOf, implies_true, fillC, capOf]
  refine ⟨fun b hb => by rw [List.getElem?_append_left (by omega)] at hb ⊢; exact hb, ?_⟩
  simp (disch := omega) only [Cell.row, splice, ↓SXd, SXu, slBounds, ↓sop, ↓aop, ↓reduceIte, LV.cells, AOp.dst, LV.I, LV.B, LV.U, LV.S, LV.nil, Nat.reduceEqDiff, Nat.reduceAdd, Nat.reduceMul, Nat.reduceSub, Nat.reduceLeDiff, Nat.reduceBEq, Nat.reduceDiv, Nat.reduceMod, Int.reduceToNat, Int.reduceLT, Int.reduceLE, Int.reduceAdd, Int.reduceSub, Int.reduceMul, Int.reduceEq, Int.reduceNeg, reduceCtorEq, resV, resAll, ARes.ev, LV.flat, ite_true, ite_false, exists_eq_left', exists_eq_left, keyOf, implies_true, fillC, capOf]
  exact cmp_drop rfl
theorem g_SwapSidesX {x y z a b : Int} {t : Nat} {w : Bool} {cs : List Cell} {M : Mem} (h : Live M t (.row (triL cs) w 3)) (hn : cs.length ≤ 1000000000) : CallsR PG F.impl_SwapSides [.agg [.I x, .I y, .I z, .ref t 0 cs.length], .I a, .I b] M (HeapX M (swpOf x y z cs a b)) := by
  refine heapX_of ?_
  refine callsR_run K.impl_SwapSides rfl ?_
  simp (disch := omega) only [C.impl_SwapSides, ↓SXd, SXu, slBounds, ↓sop, ↓aop, ↓reduceIte, LV.cells, AOp.dst, LV.I, LV.B, LV.U, LV.S, LV.nil, Nat.reduceEqDiff, Nat.reduceAdd, Nat.reduceMul, Nat.reduceSub, Nat.reduceLeDiff, Nat.reduceBEq, Nat.reduceDiv, Nat.reduceMod, Int.reduceToNat, Int.reduceLT, Int.reduceLE, Int.reduceAdd, Int.reduceSub, Int.reduceMul, Int.reduceEq, Int.reduceNeg, reduceCtorEq, resV, resAll, ARes.ev, LV.flat, ite_true, ite_false, exists_eq_left', exists_eq_left, keyOf, implies_true, fillC, capOf]
  refine callK_of (g_IsHeap (Has.app h.has) hn) ?_
  simp (disch := omega) only [↓SXd, SXu, slBounds, ↓sop, ↓aop, ↓reduceIte, LV.cells, AOp.dst, LV.I, LV.B, LV.U, LV.S, LV.nil, Nat.reduceEqDiff, Nat.reduceAdd, Nat.reduceMul, Nat.reduceSub, Nat.reduceLeDiff, Nat.reduceBEq, Nat.reduceDiv, Nat.reduceMod, Int.reduceToNat, Int.reduceLT, Int.reduceLE, Int.reduceAdd, Int.reduceSub, Int.reduceMul, Int.reduceEq, Int.reduceNeg, reduceCtorEq, resV, resAll, ARes.ev, LV.flat, ite_true, ite_false, exists_eq_left', exists_eq_left, keyOf, implies_true, fillC, capOf]
  by_cases hH : HeapOK x y z cs
  rotate_left
  · simp (disch := omega) only [hH, splice, ↓SXd, SXu, slBounds, ↓sop, ↓aop, ↓reduceIte, LV.cells, AOp.dst, LV.I, LV.B, LV.U, LV.S, LV.nil, Nat.reduceEqDiff, Nat.reduceAdd, Nat.reduceMul, Nat.reduceSub, Nat.reduceLeDiff, Nat.reduceBEq, Nat.reduceDiv, Nat.reduceMod, Int.reduceToNat, Int.reduceLT, Int.reduceLE, Int.reduceAdd, Int.reduceSub, Int.reduceMul, Int.reduceEq, Int.reduceNeg, reduceCtorEq, resV, resAll, ARes.ev, LV.flat, ite_true, ite_false, exists_eq_left', exists_eq_left, keyOf, implies_true, fillC, capOf]
    exact heapX_no (if_neg fun e => hH e.1) rfl (Pre.app _ _)
  have hlen := hH.len
  simp (disch := omega) only [hH, ↓SXd, SXu, slBounds, ↓sop, ↓aop, ↓reduceIte, LV.cells, AOp.dst, LV.I, LV.B, LV.U, LV.S, LV.nil, Nat.reduceEqDiff, Nat.reduceAdd, Nat.reduceMul, Nat.reduceSub, Nat.reduceLeDiff, Nat.reduceBEq, Nat.reduceDiv, Nat.reduceMod, Int.reduceToNat, Int.reduceLT, Int.reduceLE, Int.reduceAdd, Int.reduceSub, Int.reduceMul, Int.reduceEq, Int.reduceNeg, reduceCtorEq, resV, resAll, ARes.ev, LV.flat, ite_true, ite_false, exists_eq_left', exists_eq_left, keyOf, implies_true, fillC, capOf]
  refine callK_of (g_isDirectionB) ?_
  simp (disch := omega) only [↓SXd, SXu, slBounds, ↓sop, ↓aop, ↓reduceIte, LV.cells, AOp.dst, LV.I, LV.B, LV.U, LV.S, LV.nil, Nat.reduceEqDiff, Nat.reduceAdd, Nat.reduceMul, Nat.reduceSub, Nat.reduceLeDiff, Nat.reduceBEq, Nat.reduceDiv, Nat.reduceMod, Int.reduceToNat, Int.reduceLT, Int.reduceLE, Int.reduceAdd, Int.reduceSub, Int.reduceMul, Int.reduceEq, Int.reduceNeg, reduceCtorEq, resV, resAll, ARes.ev, LV.flat, ite_true, ite_false, exists_eq_left', exists_eq_left, keyOf, implies_true, fillC, capOf]
  by_cases hd : 0 ≤ a ∧ a ≤ 2
  rotate_left
  · simp (disch := omega) only [hd, splice, ↓SXd, SXu, slBounds, ↓sop, ↓aop, ↓reduceIte, LV.cells, AOp.dst, LV.I, LV.B, LV.U, LV.S, LV.nil, Nat.reduceEqDiff, Nat.reduceAdd, Nat.reduceMul, Nat.reduceSub, Nat.reduceLeDiff, Nat.reduceBEq, Nat.reduceDiv, Nat.reduceMod, Int.reduceToNat, Int.reduceLT, Int.reduceLE, Int.reduceAdd, Int.reduceSub, Int.reduceMul, Int.reduceEq, Int.reduceNeg, reduceCtorEq, resV, resAll, ARes.ev, LV.flat, ite_true, ite_false, exists_eq_left', exists_eq_left, keyOf, implies_true, fillC, capOf]
    exact heapX_no (if_neg fun e => hd (dir_in.1 e.2.1)) rfl (Pre.app _ _)
  simp (disch := omega) only [hd, ↓SXd, SXu, slBounds, ↓sop, ↓aop, ↓reduceIte, LV.cells, AOp.dst, LV.I, LV.B, LV.U, LV.S, LV.nil, Nat.reduceEqDiff, Nat.reduceAdd, Nat.reduceMul, Nat.reduceSub, Nat.reduceLeDiff, Nat.reduceBEq, Nat.reduceDiv, Nat.reduceMod, Int.reduceToNat, Int.reduceLT, Int.reduceLE, Int.reduceAdd, Int.reduceSub, Int.reduceMul, Int.reduceEq, Int.reduceNeg, reduceCtorEq, resV, resAll, ARes.ev, LV.flat, ite_true, ite_false, exists_eq_left', exists_eq_left, keyOf, implies_true, fillC, capOf]
  refine callK_of (g_isDirectionB) ?_
  simp (disch := omega) only [↓SXd, SXu, slBounds, ↓sop, ↓aop, ↓reduceIte, LV.cells, AOp.dst, LV.I, LV.B, LV.U, LV.S, LV.nil, Nat.reduceEqDiff, Nat.reduceAdd, Nat.reduceMul, Nat.reduceSub, Nat.reduceLeDiff, Nat.reduceBEq, Nat.reduceDiv, Nat.reduceMod, Int.reduceToNat, Int.reduceLT, Int.reduceLE, Int.reduceAdd, Int.reduceSub, Int.reduceMul, Int.reduceEq, Int.reduceNeg, reduceCtorEq, resV, resAll, ARes.ev, LV.flat, ite_true, ite_false, exists_eq_left', exists_eq_left, keyOf, implies_true, fillC, capOf]
  by_cases he : 0 ≤ b ∧ b ≤ 2
  rotate_left
  · simp (disch := omega) only [he, splice, ↓SXd, SXu, slBounds, ↓sop, ↓aop, ↓reduceIte, LV.cells, AOp.dst, LV.I, LV.B, LV.U, LV.S, LV.nil, Nat.reduceEqDiff, Nat.reduceAdd, Nat.reduceMul, Nat.reduceSub, Nat.reduceLeDiff, Nat.reduceBEq, Nat.reduceDiv, Nat.reduceMod, Int.reduceToNat, Int.reduceLT, Int.reduceLE, Int.reduceAdd, Int.reduceSub, Int.reduceMul, Int.reduceEq, Int.reduceNeg, reduceCtorEq, resV, resAll, ARes.ev, LV.flat, ite_true, ite_false, exists_eq_left', exists_eq_left, keyOf, implies_true, fillC, capOf]
    exact heapX_no (if_neg fun e => he (dir_in.1 e.2.2)) rfl (Pre.app _ _)
  have ha := dir_in.2 hd
  have hb := dir_in.2 he
  have hif : swpOf x y z cs a b = some (swX a b x y z cs) := if_pos ⟨hH, ha, hb⟩
  rw [hif]
  have hSS := swC_sides ha hb hH.1
  have hin : ∀ c, c ∈ cs → (swC a b c).inBox (swC a b ⟨x, y, z⟩).a (swC a b ⟨x, y, z⟩).b (swC a b ⟨x, y, z⟩).c := fun c hc => swC_in ha hb (hH.mem hc)
  have ha0 : 0 ≤ a ∧ a < 3 := by omega
  have hb0 : 0 ≤ b ∧ b < 3 := by omega
  have e1 : [LV.I x, LV.I y, LV.I z][b.toNat]? = some (.I ((⟨x, y, z⟩ : Cell).at b)) := Cell.row_dir (c := ⟨x, y, z⟩) hb
  have e2 : [LV.I x, LV.I y, LV.I z][a.toNat]? = some (.I ((⟨x, y, z⟩ : Cell).at a)) := Cell.row_dir (c := ⟨x, y, z⟩) ha
  obtain ⟨R1, hR1, hR1l, hR2⟩ : ∃ R1, splice [LV.I x, LV.I y, LV.I z] a.toNat [.I ((⟨x, y, z⟩ : Cell).at b)] = R1 ∧ R1.length = 3 ∧ splice R1 b.toNat [.I ((⟨x, y, z⟩ : Cell).at a)] = (swC a b ⟨x, y, z⟩).row := by
    have e9 : splice [LV.I x, LV.I y, LV.I z] a.toNat [.I ((⟨x, y, z⟩ : Cell).at b)] = [LV.I x, LV.I y, LV.I z].set a.toNat (.I ((⟨x, y, z⟩ : Cell).at b)) := splice_1 (by show a.toNat < 3; omega)
    refine ⟨_, rfl, ?_, ?_⟩
    · rw [e9]; simp
    · rw [e9, splice_1 (by rw [List.length_set]; show b.toNat < 3; omega)]
      exact swC_set (c := ⟨x, y, z⟩) ha hb
  have hX : swX a b x y z cs = ⟨(swC a b ⟨x, y, z⟩).a, (swC a b ⟨x, y, z⟩).b, (swC a b ⟨x, y, z⟩).c, pick (swC a b ⟨x, y, z⟩).a (swC a b ⟨x, y, z⟩).b (swC a b ⟨x, y, z⟩).c fun d => decide (d ∈ cs.map (swC a b))⟩ := rfl
  rw [hX]
  generalize swC a b ⟨x, y, z⟩ = S at hR2 hSS hin ⊢
  have hA1 : a.toNat + 1 ≤ 3 := by omega
  have hB1 : b.toNat + 1 ≤ 3 := by omega
  have e0 : splice [LV.I 0, LV.I 0, LV.I 0] 0 [LV.I x, LV.I y, LV.I z] = [LV.I x, LV.I y, LV.I z] := rfl
  simp (disch := omega) only [he, ↓SXd, SXu, slBounds, ↓sop, ↓aop, ↓reduceIte, LV.cells, AOp.dst, LV.I, LV.B, LV.U, LV.S, LV.nil, Nat.reduceEqDiff, Nat.reduceAdd, Nat.reduceMul, Nat.reduceSub, Nat.reduceLeDiff, Nat.reduceBEq, Nat.reduceDiv, Nat.reduceMod, Int.reduceToNat, Int.reduceLT, Int.reduceLE, Int.reduceAdd, Int.reduceSub, Int.reduceMul, Int.reduceEq, Int.reduceNeg, reduceCtorEq, resV, resAll, ARes.ev, LV.flat, ite_true, ite_false, exists_eq_left', exists_eq_left, keyOf, implies_true, fillC, capOf]
  refine callK_of (g_box) ?_
  simp (disch := omega) only [e0, hR1, hR1l, hR2, hA1, hB1, ha0, hb0, e1, e2, Nat.mul_one, Nat.zero_add, List.length_cons, List.length_nil, ↓SXd, SXu, slBounds, ↓sop, ↓aop, ↓reduceIte, LV.cells, AOp.dst, LV.I, LV.B, LV.U, LV.S, LV.nil, Nat.reduceEqDiff, Nat.reduceAdd, Nat.reduceMul, Nat.reduceSub, Nat.reduceLeDiff, Nat.reduceBEq, Nat.reduceDiv, Nat.reduceMod, Int.reduceToNat, Int.reduceLT, Int.reduceLE, Int.reduceAdd, Int.reduceSub, Int.reduceMul, Int.reduceEq, Int.reduceNeg, reduceCtorEq, resV, resAll, ARes.ev, LV.flat, ite_true, ite_false, exists_eq_left', exists_eq_left, keyOf, implies_true, fillC, capOf]
  simp (disch := omega) only [Cell.row, ↓SXd, SXu, slBounds, ↓sop, ↓aop, ↓reduceIte, LV.cells, AOp.dst, LV.I, LV.B, LV.U, LV.S, LV.nil, Nat.reduceEqDiff, Nat.reduceAdd, Nat.reduceMul, Nat.reduceSub, Nat.reduceLeDiff, Nat.reduceBEq, Nat.reduceDiv, Nat.reduceMod, Int.reduceToNat, Int.reduceLT, Int.reduceLE, Int.reduceAdd, Int.reduceSub, Int.reduceMul, Int.reduceEq, Int.reduceNeg, reduceCtorEq, resV, resAll, ARes.ev, LV.flat, ite_true, ite_false, exists_eq_left', exists_eq_left, keyOf, implies_true, fillC, capOf]
  refine callK_of (g_moved (g := swC a b) (X := S.a) (Y := S.b) (Z := S.c) (Has.app h.has) (by omega) hSS hin fun N hp c hcc => ?_) ?_
  · exact g_swap_1 ha hb ((Live.newj (j := 1) rfl).pre hp) ((Live.newj (j := 2) rfl).pre hp)
  simp (disch := omega) only [splice, ↓SXd, SXu, slBounds, ↓sop, ↓aop, ↓reduceIte, LV.cells, AOp.dst, LV.I, LV.B, LV.U, LV.S, LV.nil, Nat.reduceEqDiff, Nat.reduceAdd, Nat.reduceMul, Nat.reduceSub, Nat.reduceLeDiff, Nat.reduceBEq, Nat.reduceDiv, Nat.reduceMod, Int.reduceToNat, Int.reduceLT, Int.reduceLE, Int.reduceAdd, Int.reduceSub, Int.reduceMul, Int.reduceEq, Int.reduceNeg, reduceCtorEq, resV, resAll, ARes.ev, LV.flat, ite_true, ite_false, exists_eq_left', exists_eq_left, keyOf, implies_true, fillC, capOf]
  exact .inl ⟨⟨M.length + 5, rfl, Live.newj (j := 5) rfl, by omega⟩, Pre.app _ _⟩
section
variable {x y z x' y' z' : Int} {t t' : Nat} {w w' : Bool} {cs ds : List Cell} {M : Mem} (h : Live M t (.row (triL cs) w 3)) (hn : cs.length ≤ 1000000000) (h' : Live M t' (.row (triL ds) w' 3)) (hn' : ds.length ≤ 1000000000)
include h hn h' hn'
theorem g_areAlike : CallsTo PG F.impl_areAlike [.agg [.I x, .I y, .I z, .ref t 0 cs.length], .agg [.I x', .I y', .I z', .ref t' 0 ds.length]] M (.B (decide (Alike x y z cs x' y' z' ds))) M := by
  have ht := h.lt
  have ht' := h'.lt
  refine calls_run K.impl_areAlike rfl ?_
  simp (disch := omega) only [C.impl_areAlike, ↓SXd, SXu, slBounds, ↓sop, ↓aop, ↓reduceIte, LV.cells, AOp.dst, LV.I, LV.B, LV.U, LV.S, LV.nil, Nat.reduceEqDiff, Nat.reduceAdd, Nat.reduceMul, Nat.reduceSub, Nat.reduceLeDiff, Nat.reduceBEq, Nat.reduceDiv, Nat.reduceMod, Int.reduceToNat, Int.reduceLT, Int.reduceLE, Int.reduceAdd, Int.reduceSub, Int.reduceMul, Int.reduceEq, Int.reduceNeg, reduceCtorEq, resV, resAll, ARes.ev, LV.flat, ite_true, ite_false, exists_eq_left', exists_eq_left, keyOf, implies_true, fillC, capOf]
  refine callK_of (g_IsHeap (Has.app h.has) hn) ?_
  simp (disch := omega) only [↓SXd, SXu, slBounds, ↓sop, ↓aop, ↓reduceIte, LV.cells, AOp.dst, LV.I, LV.B, LV.U, LV.S, LV.nil, Nat.reduceEqDiff, Nat.reduceAdd, Nat.reduceMul, Nat.reduceSub, Nat.reduceLeDiff, Nat.reduceBEq, Nat.reduceDiv, Nat.reduceMod, Int.reduceToNat, Int.reduceLT, Int.reduceLE, Int.reduceAdd, Int.reduceSub, Int.reduceMul, Int.reduceEq, Int.reduceNeg, reduceCtorEq, resV, resAll, ARes.ev, LV.flat, ite_true, ite_false, exists_eq_left', exists_eq_left, keyOf, implies_true, fillC, capOf]
  by_cases hH : HeapOK x y z cs
  rotate_left
  · rw [decide_eq_false (show ¬ Alike x y z cs x' y' z' ds from fun e => hH e.1)]
    simp (disch := omega) only [hH, ↓SXd, SXu, slBounds, ↓sop, ↓aop, ↓reduceIte, LV.cells, AOp.dst, LV.I, LV.B, LV.U, LV.S, LV.nil, Nat.reduceEqDiff, Nat.reduceAdd, Nat.reduceMul, Nat.reduceSub, Nat.reduceLeDiff, Nat.reduceBEq, Nat.reduceDiv, Nat.reduceMod, Int.reduceToNat, Int.reduceLT, Int.reduceLE, Int.reduceAdd, Int.reduceSub, Int.reduceMul, Int.reduceEq, Int.reduceNeg, reduceCtorEq, resV, resAll, ARes.ev, LV.flat, ite_true, ite_false, exists_eq_left', exists_eq_left, keyOf, implies_true, fillC, capOf]
    exact cmp_drop rfl
  simp (disch := omega) only [hH, ↓SXd, SXu, slBounds, ↓sop, ↓aop, ↓reduceIte, LV.cells, AOp.dst, LV.I, LV.B, LV.U, LV.S, LV.nil, Nat.reduceEqDiff, Nat.reduceAdd, Nat.reduceMul, Nat.reduceSub, Nat.reduceLeDiff, Nat.reduceBEq, Nat.reduceDiv, Nat.reduceMod, Int.reduceToNat, Int.reduceLT, Int.reduceLE, Int.reduceAdd, Int.reduceSub, Int.reduceMul, Int.reduceEq, Int.reduceNeg, reduceCtorEq, resV, resAll, ARes.ev, LV.flat, ite_true, ite_false, exists_eq_left', exists_eq_left, keyOf, implies_true, fillC, capOf]
  refine callK_of (g_IsHeap (Has.app h'.has) hn') ?_
  simp (disch := omega) only [↓SXd, SXu, slBounds, ↓sop, ↓aop, ↓reduceIte, LV.cells, AOp.dst, LV.I, LV.B, LV.U, LV.S, LV.nil, Nat.reduceEqDiff, Nat.reduceAdd, Nat.reduceMul, Nat.reduceSub, Nat.reduceLeDiff, Nat.reduceBEq, Nat.reduceDiv, Nat.reduceMod, Int.reduceToNat, Int.reduceLT, Int.reduceLE, Int.reduceAdd, Int.reduceSub, Int.reduceMul, Int.reduceEq, Int.reduceNeg, reduceCtorEq, resV, resAll, ARes.ev, LV.flat, ite_true, ite_false, exists_eq_left', exists_eq_left, keyOf, implies_true, fillC, capOf]
  by_cases hD : HeapOK x' y' z' ds
  rotate_left
  · rw [decide_eq_false (show ¬ Alike x y z cs x' y' z' ds from fun e => hD e.2.1)]
    simp (disch := omega) only [hD, ↓SXd, SXu, slBounds, ↓sop, ↓aop, ↓reduceIte, LV.cells, AOp.dst, LV.I, LV.B, LV.U, LV.S, LV.nil, Nat.reduceEqDiff, Nat.reduceAdd, Nat.reduceMul, Nat.reduceSub, Nat.reduceLeDiff, Nat.reduceBEq, Nat.reduceDiv, Nat.reduceMod, Int.reduceToNat, Int.reduceLT, Int.reduceLE, Int.reduceAdd, Int.reduceSub, Int.reduceMul, Int.reduceEq, Int.reduceNeg, reduceCtorEq, resV, resAll, ARes.ev, LV.flat, ite_true, ite_false, exists_eq_left', exists_eq_left, keyOf, implies_true, fillC, capOf]
    exact cmp_drop rfl
  simp (disch := omega) only [hD, ↓SXd, SXu, slBounds, ↓sop, ↓aop, ↓reduceIte, LV.cells, AOp.dst, LV.I, LV.B, LV.U, LV.S, LV.nil, Nat.reduceEqDiff, Nat.reduceAdd, Nat.reduceMul, Nat.reduceSub, Nat.reduceLeDiff, Nat.reduceBEq, Nat.reduceDiv, Nat.reduceMod, Int.reduceToNat, Int.reduceLT, Int.reduceLE, Int.reduceAdd, Int.reduceSub, Int.reduceMul, Int.reduceEq, Int.reduceNeg, reduceCtorEq, resV, resAll, ARes.ev, LV.flat, ite_true, ite_false, exists_eq_left', exists_eq_left, keyOf, implies_true, fillC, capOf]
  refine callK_of (g_box) ?_
  simp (disch := omega) only [↓SXd, SXu, slBounds, ↓sop, ↓aop, ↓reduceIte, LV.cells, AOp.dst, LV.I, LV.B, LV.U, LV.S, LV.nil, Nat.reduceEqDiff, Nat.reduceAdd, Nat.reduceMul, Nat.reduceSub, Nat.reduceLeDiff, Nat.reduceBEq, Nat.reduceDiv, Nat.reduceMod, Int.reduceToNat, Int.reduceLT, Int.reduceLE, Int.reduceAdd, Int.reduceSub, Int.reduceMul, Int.reduceEq, Int.reduceNeg, reduceCtorEq, resV, resAll, ARes.ev, LV.flat, ite_true, ite_false, exists_eq_left', exists_eq_left, keyOf, implies_true, fillC, capOf]
  refine callK_of (g_box) ?_
  simp (disch := omega) only [eqV, eqC, if_true, ite_true, Bool.and_true, ↓SXd, SXu, slBounds, ↓sop, ↓aop, ↓reduceIte, LV.cells, AOp.dst, LV.I, LV.B, LV.U, LV.S, LV.nil, Nat.reduceEqDiff, Nat.reduceAdd, Nat.reduceMul, Nat.reduceSub, Nat.reduceLeDiff, Nat.reduceBEq, Nat.reduceDiv, Nat.reduceMod, Int.reduceToNat, Int.reduceLT, Int.reduceLE, Int.reduceAdd, Int.reduceSub, Int.reduceMul, Int.reduceEq, Int.reduceNeg, reduceCtorEq, resV, resAll, ARes.ev, LV.flat, ite_true, ite_false, exists_eq_left', exists_eq_left, keyOf, implies_true, fillC, capOf]
  have hb3 : (x == x' && (y == y' && z == z')) = decide ((⟨x, y, z⟩ : Cell) = ⟨x', y', z'⟩) := beq3 (a := ⟨x, y, z⟩) (b := ⟨x', y', z'⟩)
  rw [hb3, show decide (Alike x y z cs x' y' z' ds) = decide ((⟨x, y, z⟩ : Cell) = ⟨x', y', z'⟩) from decide_eq_decide.2 (by rw [cell_eq]; exact ⟨fun e => e.2.2, fun e => ⟨hH, hD, e⟩⟩)]
  exact cmp_drop rfl
theorem g_JoinHeapsX : CallsR PG F.impl_JoinHeaps [.agg [.I x, .I y, .I z, .ref t 0 cs.length], .agg [.I x', .I y', .I z', .ref t' 0 ds.length]] M (HeapX M (jnOf x y z cs x' y' z' ds)) := by
  refine heapX_of ?_
  refine callsR_run K.impl_JoinHeaps rfl ?_
  simp (disch := omega) only [C.impl_JoinHeaps, ↓SXd, SXu, slBounds, ↓sop, ↓aop, ↓reduceIte, LV.cells, AOp.dst, LV.I, LV.B, LV.U, LV.S, LV.nil, Nat.reduceEqDiff, Nat.reduceAdd, Nat.reduceMul, Nat.reduceSub, Nat.reduceLeDiff, Nat.reduceBEq, Nat.reduceDiv, Nat.reduceMod, Int.reduceToNat, Int.reduceLT, Int.reduceLE, Int.reduceAdd, Int.reduceSub, Int.reduceMul, Int.reduceEq, Int.reduceNeg, reduceCtorEq, resV, resAll, ARes.ev, LV.flat, ite_true, ite_false, exists_eq_left', exists_eq_left, keyOf, implies_true, fillC, capOf]
  refine callK_of (g_areAlike h.app hn h'.app hn') ?_
  simp (disch := omega) only [↓SXd, SXu, slBounds, ↓sop, ↓aop, ↓reduceIte, LV.cells, AOp.dst, LV.I, LV.B, LV.U, LV.S, LV.nil, Nat.reduceEqDiff, Nat.reduceAdd, Nat.reduceMul, Nat.reduceSub, Nat.reduceLeDiff, Nat.reduceBEq, Nat.reduceDiv, Nat.reduceMod, Int.reduceToNat, Int.reduceLT, Int.reduceLE, Int.reduceAdd, Int.reduceSub, Int.reduceMul, Int.reduceEq, Int.reduceNeg, reduceCtorEq, resV, resAll, ARes.ev, LV.flat, ite_true, ite_false, exists_eq_left', exists_eq_left, keyOf, implies_true, fillC, capOf]
  by_cases hA : Alike x y z cs x' y' z' ds
  rotate_left
  · simp (disch := omega) only [hA, splice, ↓SXd, SXu, slBounds, ↓sop, ↓aop, ↓reduceIte, LV.cells, AOp.dst, LV.I, LV.B, LV.U, LV.S, LV.nil, Nat.reduceEqDiff, Nat.reduceAdd, Nat.reduceMul, Nat.reduceSub, Nat.reduceLeDiff, Nat.reduceBEq, Nat.reduceDiv, Nat.reduceMod, Int.reduceToNat, Int.reduceLT, Int.reduceLE, Int.reduceAdd, Int.reduceSub, Int.reduceMul, Int.reduceEq, Int.reduceNeg, reduceCtorEq, resV, resAll, ARes.ev, LV.flat, ite_true, ite_false, exists_eq_left', exists_eq_left, keyOf, implies_true, fillC, capOf]
    exact heapX_no (if_neg hA) rfl (Pre.app _ _)
  obtain ⟨hH, hD, rfl, rfl, rfl⟩ := id hA
  have hlen := hH.len
  have hlen' := hD.len
  have hif : jnOf x y z cs x y z ds = some ⟨x, y, z, pick x y z fun d => decide (d ∈ cs) || decide (d ∈ ds)⟩ := if_pos hA
  rw [hif]
  simp (disch := omega) only [hA, ↓SXd, SXu, slBounds, ↓sop, ↓aop, ↓reduceIte, LV.cells, AOp.dst, LV.I, LV.B, LV.U, LV.S, LV.nil, Nat.reduceEqDiff, Nat.reduceAdd, Nat.reduceMul, Nat.reduceSub, Nat.reduceLeDiff, Nat.reduceBEq, Nat.reduceDiv, Nat.reduceMod, Int.reduceToNat, Int.reduceLT, Int.reduceLE, Int.reduceAdd, Int.reduceSub, Int.reduceMul, Int.reduceEq, Int.reduceNeg, reduceCtorEq, resV, resAll, ARes.ev, LV.flat, ite_true, ite_false, exists_eq_left', exists_eq_left, keyOf, implies_true, fillC, capOf]
  refine callK_of (g_box) ?_
  simp (disch := omega) only [↓SXd, SXu, slBounds, ↓sop, ↓aop, ↓reduceIte, LV.cells, AOp.dst, LV.I, LV.B, LV.U, LV.S, LV.nil, Nat.reduceEqDiff, Nat.reduceAdd, Nat.reduceMul, Nat.reduceSub, Nat.reduceLeDiff, Nat.reduceBEq, Nat.reduceDiv, Nat.reduceMod, Int.reduceToNat, Int.reduceLT, Int.reduceLE, Int.reduceAdd, Int.reduceSub, Int.reduceMul, Int.reduceEq, Int.reduceNeg, reduceCtorEq, resV, resAll, ARes.ev, LV.flat, ite_true, ite_false, exists_eq_left', exists_eq_left, keyOf, implies_true, fillC, capOf]
  refine callK_of (g_cubes (Has.app h.has) (by omega) hH.1 (fun c hc => hH.mem hc)) ?_
  simp (disch := omega) only [↓SXd, SXu, slBounds, ↓sop, ↓aop, ↓reduceIte, LV.cells, AOp.dst, LV.I, LV.B, LV.U, LV.S, LV.nil, Nat.reduceEqDiff, Nat.reduceAdd, Nat.reduceMul, Nat.reduceSub, Nat.reduceLeDiff, Nat.reduceBEq, Nat.reduceDiv, Nat.reduceMod, Int.reduceToNat, Int.reduceLT, Int.reduceLE, Int.reduceAdd, Int.reduceSub, Int.reduceMul, Int.reduceEq, Int.reduceNeg, reduceCtorEq, resV, resAll, ARes.ev, LV.flat, ite_true, ite_false, exists_eq_left', exists_eq_left, keyOf, implies_true, fillC, capOf]
  refine callK_of (g_cubes (Has.app h'.has) (by omega) hD.1 (fun c hc => hD.mem hc)) ?_
  simp (disch := omega) only [↓SXd, SXu, slBounds, ↓sop, ↓aop, ↓reduceIte, LV.cells, AOp.dst, LV.I, LV.B, LV.U, LV.S, LV.nil, Nat.reduceEqDiff, Nat.reduceAdd, Nat.reduceMul, Nat.reduceSub, Nat.reduceLeDiff, Nat.reduceBEq, Nat.reduceDiv, Nat.reduceMod, Int.reduceToNat, Int.reduceLT, Int.reduceLE, Int.reduceAdd, Int.reduceSub, Int.reduceMul, Int.reduceEq, Int.reduceNeg, reduceCtorEq, resV, resAll, ARes.ev, LV.flat, ite_true, ite_false, exists_eq_left', exists_eq_left, keyOf, implies_true, fillC, capOf]
  rw [bs_or hH.1]
  refine callK_of (g_heap hH.1) ?_
  simp (disch := omega) only [splice, ↓SXd, SXu, slBounds, ↓sop, ↓aop, ↓reduceIte, LV.cells, AOp.dst, LV.I, LV.B, LV.U, LV.S, LV.nil, Nat.reduceEqDiff, Nat.reduceAdd, Nat.reduceMul, Nat.reduceSub, Nat.reduceLeDiff, Nat.reduceBEq, Nat.reduceDiv, Nat.reduceMod, Int.reduceToNat, Int.reduceLT, Int.reduceLE, Int.reduceAdd, Int.reduceSub, Int.reduceMul, Int.reduceEq, Int.reduceNeg, reduceCtorEq, resV, resAll, ARes.ev, LV.flat, ite_true, ite_false, exists_eq_left', exists_eq_left, keyOf, implies_true, fillC, capOf]
  exact .inl ⟨⟨M.length + 3, rfl, Live.newj (j := 3) rfl, by omega⟩, Pre.app _ _⟩
theorem g_CommonCubesX : CallsR PG F.impl_CommonCubes [.agg [.I x, .I y, .I z, .ref t 0 cs.length], .agg [.I x', .I y', .I z', .ref t' 0 ds.length]] M (HeapX M (cmOf x y z cs x' y' z' ds)) := by
  refine heapX_of ?_
  refine callsR_run K.impl_CommonCubes rfl ?_
  simp (disch := omega) only [C.impl_CommonCubes, ↓SXd, SXu, slBounds, ↓sop, ↓aop, ↓reduceIte, LV.cells, AOp.dst, LV.I, LV.B, LV.U, LV.S, LV.nil, Nat.reduceEqDiff, Nat.reduceAdd, Nat.reduceMul, Nat.reduceSub, Nat.reduceLeDiff, Nat.reduceBEq, Nat.reduceDiv, Nat.reduceMod, Int.reduceToNat, Int.reduceLT, Int.reduceLE, Int.reduceAdd, Int.reduceSub, Int.reduceMul, Int.reduceEq, Int.reduceNeg, reduceCtorEq, resV, resAll, ARes.ev, LV.flat, ite_true, ite_false, exists_eq_left', exists_eq_left, keyOf, implies_true, fillC, capOf]
  refine callK_of (g_areAlike h.app hn h'.app hn') ?_
  simp (disch := omega) only [↓SXd, SXu, slBounds, ↓sop, ↓aop, ↓reduceIte, LV.cells, AOp.dst, LV.I, LV.B, LV.U, LV.S, LV.nil, Nat.reduceEqDiff, Nat.reduceAdd, Nat.reduceMul, Nat.reduceSub, Nat.reduceLeDiff, Nat.reduceBEq, Nat.reduceDiv, Nat.reduceMod, Int.reduceToNat, Int.reduceLT, Int.reduceLE, Int.reduceAdd, Int.reduceSub, Int.reduceMul, Int.reduceEq, Int.reduceNeg, reduceCtorEq, resV, resAll, ARes.ev, LV.flat, ite_true, ite_false, exists_eq_left', exists_eq_left, keyOf, implies_true, fillC, capOf]
  by_cases hA : Alike x y z cs x' y' z' ds
  rotate_left
  · simp (disch := omega) only [hA, splice, ↓SXd, SXu, slBounds, ↓sop, ↓aop, ↓reduceIte, LV.cells, AOp.dst, LV.I, LV.B, LV.U, LV.S, LV.nil, Nat.reduceEqDiff, Nat.reduceAdd, Nat.reduceMul, Nat.reduceSub, Nat.reduceLeDiff, Nat.reduceBEq, Nat.reduceDiv, Nat.reduceMod, Int.reduceToNat, Int.reduceLT, Int.reduceLE, Int.reduceAdd, Int.reduceSub, Int.reduceMul, Int.reduceEq, Int.reduceNeg, reduceCtorEq, resV, resAll, ARes.ev, LV.flat, ite_true, ite_false, exists_eq_left', exists_eq_left, keyOf, implies_true, fillC, capOf]
    exact heapX_no (if_neg hA) rfl (Pre.app _ _)
  obtain ⟨hH, hD, rfl, rfl, rfl⟩ := id hA
  have hlen := hH.len
  have hlen' := hD.len
  have hif : cmOf x y z cs x y z ds = some ⟨x, y, z, pick x y z fun d => decide (d ∈ cs) && decide (d ∈ ds)⟩ := if_pos hA
  rw [hif]
  simp (disch := omega) only [hA, ↓SXd, SXu, slBounds, ↓sop, ↓aop, ↓reduceIte, LV.cells, AOp.dst, LV.I, LV.B, LV.U, LV.S, LV.nil, Nat.reduceEqDiff, Nat.reduceAdd, Nat.reduceMul, Nat.reduceSub, Nat.reduceLeDiff, Nat.reduceBEq, Nat.reduceDiv, Nat.reduceMod, Int.reduceToNat, Int.reduceLT, Int.reduceLE, Int.reduceAdd, Int.reduceSub, Int.reduceMul, Int.reduceEq, Int.reduceNeg, reduceCtorEq, resV, resAll, ARes.ev, LV.flat, ite_true, ite_false, exists_eq_left', exists_eq_left, keyOf, implies_true, fillC, capOf]
  refine callK_of (g_box) ?_
  simp (disch := omega) only [↓SXd, SXu, slBounds, ↓sop, ↓aop, ↓reduceIte, LV.cells, AOp.dst, LV.I, LV.B, LV.U, LV.S, LV.nil, Nat.reduceEqDiff, Nat.reduceAdd, Nat.reduceMul, Nat.reduceSub, Nat.reduceLeDiff, Nat.reduceBEq, Nat.reduceDiv, Nat.reduceMod, Int.reduceToNat, Int.reduceLT, Int.reduceLE, Int.reduceAdd, Int.reduceSub, Int.reduceMul, Int.reduceEq, Int.reduceNeg, reduceCtorEq, resV, resAll, ARes.ev, LV.flat, ite_true, ite_false, exists_eq_left', exists_eq_left, keyOf, implies_true, fillC, capOf]
  refine callK_of (g_cubes (Has.app h.has) (by omega) hH.1 (fun c hc => hH.mem hc)) ?_
  simp (disch := omega) only [↓SXd, SXu, slBounds, ↓sop, ↓aop, ↓reduceIte, LV.cells, AOp.dst, LV.I, LV.B, LV.U, LV.S, LV.nil, Nat.reduceEqDiff, Nat.reduceAdd, Nat.reduceMul, Nat.reduceSub, Nat.reduceLeDiff, Nat.reduceBEq, Nat.reduceDiv, Nat.reduceMod, Int.reduceToNat, Int.reduceLT, Int.reduceLE, Int.reduceAdd, Int.reduceSub, Int.reduceMul, Int.reduceEq, Int.reduceNeg, reduceCtorEq, resV, resAll, ARes.ev, LV.flat, ite_true, ite_false, exists_eq_left', exists_eq_left, keyOf, implies_true, fillC, capOf]
  refine callK_of (g_cubes (Has.app h'.has) (by omega) hD.1 (fun c hc => hD.mem hc)) ?_
  simp (disch := omega) only [↓SXd, SXu, slBounds, ↓sop, ↓aop, ↓reduceIte, LV.cells, AOp.dst, LV.I, LV.B, LV.U, LV.S, LV.nil, Nat.reduceEqDiff, Nat.reduceAdd, Nat.reduceMul, Nat.reduceSub, Nat.reduceLeDiff, Nat.reduceBEq, Nat.reduceDiv, Nat.reduceMod, Int.reduceToNat, Int.reduceLT, Int.reduceLE, Int.reduceAdd, Int.reduceSub, Int.reduceMul, Int.reduceEq, Int.reduceNeg, reduceCtorEq, resV, resAll, ARes.ev, LV.flat, ite_true, ite_false, exists_eq_left', exists_eq_left, keyOf, implies_true, fillC, capOf]
  rw [bs_and hH.1]
  refine callK_of (g_heap hH.1) ?_
  simp (disch := omega) only [splice, ↓SXd, SXu, slBounds, ↓sop, ↓aop, ↓reduceIte, LV.cells, AOp.dst, LV.I, LV.B, LV.U, LV.S, LV.nil, Nat.reduceEqDiff, Nat.reduceAdd, Nat.reduceMul, Nat.reduceSub, Nat.reduceLeDiff, Nat.reduceBEq, Nat.reduceDiv, Nat.reduceMod, Int.reduceToNat, Int.reduceLT, Int.reduceLE, Int.reduceAdd, Int.reduceSub, Int.reduceMul, Int.reduceEq, Int.reduceNeg, reduceCtorEq, resV, resAll, ARes.ev, LV.flat, ite_true, ite_false, exists_eq_left', exists_eq_left, keyOf, implies_true, fillC, capOf]
  exact .inl ⟨⟨M.length + 3, rfl, Live.newj (j := 3) rfl, by omega⟩, Pre.app _ _⟩
end
end Go.Ab

/- The abstract code of some functions (written by a program of mine from the translation, by way of prepF). -/
namespace Go.Ab.C
open Go.Ab
def spec_l1Cur_direction : AFn :=
  ⟨1, 10, [.tmp 2],
    .seq (.ops [(none, .mv 2 (.c (.I 0)))])
    (.seq (.seq (.ops [(none, .mv 3 (.t 0)),
         (none, .call (some 4) F.spec_l1Cur_one [(.t 3), (.c (.I 30))])])
      (.cond (.t 4) (.seq (.ops [(none, .mv 5 (.t 0)),
           (none, .buildSl 6 3 1 [(.I 0), (.I 0), (.I 0)] [(0, 1, (.c (.I (-1)))), (1, 1, (.c (.I 3))), (2, 1, (.c (.I 4611686018427387904)))]),
           (none, .call (some 7) F.spec_l1Cur_among [(.t 5), (.t 6)]),
           (none, .mv 2 (.t 7))])
        (.ret))
       (.skip)))
     (.seq (.ops [(none, .mv 8 (.t 0)),
         (none, .call (some 9) F.spec_l1Cur_pick [(.t 8), (.c (.I 3))]),
         (none, .mv 2 (.t 9))])
      (.ret)))⟩
def spec_DrawViewOf : AFn :=
  ⟨1, 12, [.cellN 2 4, .tmp 3],
    .seq (.ops [(none, .alloc 2 [(.I 0), (.I 0), (.I 0), .nil]),
       (none, .mv 3 (.c (.I 0)))])
    (.seq (.ops [(none, .mv 5 (.t 0)),
        (none, .build 6 [.nil, (.I 0), (.U 0)] [(0, 1, (.t 5))]),
        (none, .box 7 (.t 6)),
        (none, .mv 4 (.t 7))])
     (.seq (.ops [(none, .mv 8 (.t 4)),
         (none, .call (some 9) F.spec_l1Cur_heap [(.t 8)]),
         (none, .mv 10 (.t 4)),
         (none, .call (some 11) F.spec_l1Cur_direction [(.t 10)]),
         (none, .store 4 (.t 2) (.t 9)),
         (none, .mv 3 (.t 11))])
      (.ret)))⟩
def spec_DrawMirrorHeap : AFn :=
  ⟨1, 8, [.cellN 2 4, .tmp 3],
    .seq (.ops [(none, .alloc 2 [(.I 0), (.I 0), (.I 0), .nil]),
       (none, .mv 3 (.c (.I 0)))])
    (.seq (.ops [(none, .mv 4 (.t 0)),
        (none, .call (some 5) F.spec_DrawViewOf [(.t 4)]),
        (none, .extract 6 (.t 5) 0),
        (none, .extract 7 (.t 5) 1),
        (none, .store 4 (.t 2) (.t 6)),
        (none, .mv 3 (.t 7))])
     (.ret))⟩
def spec_DrawSwapSides : AFn :=
  ⟨1, 15, [.cellN 2 4, .tmp 3, .tmp 4],
    .seq (.ops [(none, .alloc 2 [(.I 0), (.I 0), (.I 0), .nil]),
       (none, .mv 3 (.c (.I 0))),
       (none, .mv 4 (.c (.I 0)))])
    (.seq (.ops [(none, .mv 6 (.t 0)),
        (none, .build 7 [.nil, (.I 0), (.U 0)] [(0, 1, (.t 6))]),
        (none, .box 8 (.t 7)),
        (none, .mv 5 (.t 8))])
     (.seq (.ops [(none, .mv 9 (.t 5)),
         (none, .call (some 10) F.spec_l1Cur_heap [(.t 9)]),
         (none, .mv 11 (.t 5)),
         (none, .call (some 12) F.spec_l1Cur_direction [(.t 11)]),
         (none, .mv 13 (.t 5)),
         (none, .call (some 14) F.spec_l1Cur_direction [(.t 13)]),
         (none, .store 4 (.t 2) (.t 10)),
         (none, .mv 3 (.t 12)),
         (none, .mv 4 (.t 14))])
      (.ret)))⟩
def spec_DrawJoinHeaps : AFn :=
  ⟨1, 25, [.cellN 2 4, .cellN 3 4],
    .seq (.ops [(none, .alloc 2 [(.I 0), (.I 0), (.I 0), .nil]),
       (none, .alloc 3 [(.I 0), (.I 0), (.I 0), .nil])])
    (.seq (.ops [(none, .mv 6 (.t 0)),
        (none, .build 7 [.nil, (.I 0), (.U 0)] [(0, 1, (.t 6))]),
        (none, .box 8 (.t 7)),
        (none, .mv 4 (.t 8))])
     (.seq (.ops [(none, .mv 9 (.t 4)),
         (none, .call (some 10) F.spec_l1Cur_heap [(.t 9)]),
         (none, .alloc 5 [(.I 0), (.I 0), (.I 0), .nil]),
         (none, .store 4 (.t 5) (.t 10))])
      (.seq (.seq (.ops [(none, .mv 11 (.t 4)),
           (none, .call (some 12) F.spec_l1Cur_one [(.t 11), (.c (.I 10))])])
        (.cond (.t 12) (.seq (.draw [⟨(none, .loadN 13 4 (.t 5)), [], []⟩,
             ⟨(none, .mv 14 (.t 4)), [], []⟩,
             ⟨(none, .call (some 15) F.spec_l1Cur_heap [(.t 14)]), [], [0]⟩,
             ⟨(none, .store 4 (.t 2) (.t 13)), [], []⟩,
             ⟨(none, .store 4 (.t 3) (.t 15)), [], []⟩])
          (.ret))
         (.skip)))
       (.seq (.draw [⟨(none, .loadN 16 4 (.t 5)), [], []⟩,
           ⟨(none, .mv 17 (.t 4)), [], []⟩,
           ⟨(none, .fieldAddr 18 (.t 5) 0), [], []⟩,
           ⟨(none, .load1 19 (.t 18)), [], []⟩,
           ⟨(none, .fieldAddr 20 (.t 5) 1), [], []⟩,
           ⟨(none, .load1 21 (.t 20)), [], []⟩,
           ⟨(none, .fieldAddr 22 (.t 5) 2), [], []⟩,
           ⟨(none, .load1 23 (.t 22)), [], []⟩,
           ⟨(none, .call (some 24) F.spec_l1Cur_someHeap [(.t 17), (.t 19), (.t 21), (.t 23)]), [], [0]⟩,
           ⟨(none, .store 4 (.t 2) (.t 16)), [], []⟩,
           ⟨(none, .store 4 (.t 3) (.t 24)), [], []⟩])
        (.ret)))))⟩
def spec_DrawShiftHeap : AFn :=
  ⟨1, 40, [.cellN 2 4, .cellN 3 3],
    .seq (.ops [(none, .alloc 2 [(.I 0), (.I 0), (.I 0), .nil]),
       (none, .alloc 3 [(.I 0), (.I 0), (.I 0)])])
    (.seq (.ops [(none, .mv 8 (.t 0)),
        (none, .build 9 [.nil, (.I 0), (.U 0)] [(0, 1, (.t 8))]),
        (none, .box 10 (.t 9)),
        (none, .mv 4 (.t 10))])
     (.seq (.ops [(none, .mv 11 (.t 4)),
         (none, .call (some 12) F.spec_l1Cur_heap [(.t 11)]),
         (none, .build 13 [(.I 0), (.I 0), (.I 0)] []),
         (none, .alloc 5 [(.I 0), (.I 0), (.I 0), .nil]),
         (none, .alloc 6 [(.I 0), (.I 0), (.I 0)]),
         (none, .store 4 (.t 5) (.t 12)),
         (none, .store 3 (.t 6) (.t 13))])
      (.seq (.seq (.ops [(none, .mv 7 (.c (.I 0)))])
        (.block 0 (.loop (.seq (.seq (.ops [(none, .mv 14 (.t 7)),
               (none, .bin 15 .lss (.t 14) (.c (.I 3)))])
            (.cond (.t 15) (.skip)
             (.exit 0)))
           (.seq (.block 1 (.ops [(none, .mv 18 (.t 7)),
                (none, .mv 19 (.t 4)),
                (none, .buildSl 20 8 1 [(.I 0), (.I 0), (.I 0), (.I 0), (.I 0), (.I 0), (.I 0), (.I 0)] [(0, 1, (.c (.I 0))), (1, 1, (.c (.I 0))), (2, 1, (.c (.I 1))), (3, 1, (.c (.I (-1)))), (4, 1, (.c (.I 0))), (5, 1, (.c (.I 2))), (6, 1, (.c (.I (-4)))), (7, 1, (.c (.I 5)))]),
                (none, .call (some 21) F.spec_l1Cur_among [(.t 19), (.t 20)]),
                (none, .idxA 22 3 1 (.t 6) (.t 18)),
                (none, .store 1 (.t 22) (.t 21))]))
            (.ops [(none, .mv 16 (.t 7)),
               (none, .bin 17 .add (.t 16) (.c (.I 1))),
               (none, .mv 7 (.t 17))]))))))
       (.seq (.seq (.ops [(none, .loadN 23 4 (.t 5)),
            (none, .call (some 24) F.spec_l2Heap [(.t 23)]),
            (none, .mv 25 (.t 24)),
            (some (25, true), .fieldAddr 26 (.t 5) 3),
            (some (25, true), .load1 27 (.t 26)),
            (some (25, true), .len 28 (.t 27)),
            (some (25, true), .bin 29 .gtr (.t 28) (.c (.I 0))),
            (none, .pick 30 (.t 25) (.t 29) (.c (.B false))),
            (none, .mv 31 (.t 30)),
            (some (31, true), .mv 32 (.t 4)),
            (some (31, true), .call (some 33) F.spec_l1Cur_one [(.t 32), (.c (.I 2))]),
            (none, .pick 34 (.t 31) (.t 33) (.c (.B false)))])
         (.cond (.t 34) (.seq (.ops [(none, .loadN 35 4 (.t 5)),
              (none, .call (some 36) F.spec_l2Cropped [(.t 35)]),
              (none, .store 4 (.t 5) (.t 36))])
           (.ops [(none, .fieldAddr 37 (.t 5) 0),
              (none, .store 1 (.t 37) (.c (.I 4)))]))
          (.skip)))
        (.seq (.draw [⟨(none, .loadN 38 4 (.t 5)), [], []⟩,
            ⟨(none, .loadN 39 3 (.t 6)), [], []⟩,
            ⟨(none, .store 4 (.t 2) (.t 38)), [], [1]⟩,
            ⟨(none, .store 3 (.t 3) (.t 39)), [], []⟩])
         (.ret))))))⟩
def spec_DrawWidenHeap : AFn :=
  ⟨1, 43, [.cellN 2 4, .tmp 3, .tmp 4, .tmp 5],
    .seq (.ops [(none, .alloc 2 [(.I 0), (.I 0), (.I 0), .nil]),
       (none, .mv 3 (.c (.I 0))),
       (none, .mv 4 (.c (.I 0))),
       (none, .mv 5 (.c (.I 0)))])
    (.seq (.ops [(none, .mv 11 (.t 0)),
        (none, .build 12 [.nil, (.I 0), (.U 0)] [(0, 1, (.t 11))]),
        (none, .box 13 (.t 12)),
        (none, .mv 6 (.t 13))])
     (.seq (.ops [(none, .mv 14 (.t 6)),
         (none, .call (some 15) F.spec_l1Cur_heap [(.t 14)]),
         (none, .alloc 7 [(.I 0), (.I 0), (.I 0), .nil]),
         (none, .store 4 (.t 7) (.t 15))])
      (.seq (.ops [(none, .mv 17 (.t 6)),
          (none, .call (some 18) F.spec_l1Cur_sides [(.t 17)]),
          (none, .mv 16 (.t 18)),
          (none, .extract 19 (.t 16) 0),
          (none, .extract 20 (.t 16) 1),
          (none, .extract 21 (.t 16) 2),
          (none, .mv 8 (.t 19)),
          (none, .mv 9 (.t 20)),
          (none, .mv 10 (.t 21))])
       (.seq (.seq (.ops [(none, .mv 22 (.t 6)),
            (none, .call (some 23) F.spec_l1Cur_one [(.t 22), (.c (.I 2))])])
         (.cond (.t 23) (.seq (.ops [(none, .mv 24 (.t 8)),
              (none, .fieldAddr 25 (.t 7) 0),
              (none, .load1 26 (.t 25)),
              (none, .call (some 27) F.spec_l1Least [(.t 26), (.c (.I 4))]),
              (none, .call (some 28) F.spec_l1Most [(.t 24), (.t 27)]),
              (none, .mv 8 (.t 28))])
           (.seq (.ops [(none, .mv 29 (.t 9)),
               (none, .fieldAddr 30 (.t 7) 1),
               (none, .load1 31 (.t 30)),
               (none, .call (some 32) F.spec_l1Least [(.t 31), (.c (.I 4))]),
               (none, .call (some 33) F.spec_l1Most [(.t 29), (.t 32)]),
               (none, .mv 9 (.t 33))])
            (.ops [(none, .mv 34 (.t 10)),
               (none, .fieldAddr 35 (.t 7) 2),
               (none, .load1 36 (.t 35)),
               (none, .call (some 37) F.spec_l1Least [(.t 36), (.c (.I 4))]),
               (none, .call (some 38) F.spec_l1Most [(.t 34), (.t 37)]),
               (none, .mv 10 (.t 38))])))
          (.skip)))
        (.seq (.ops [(none, .loadN 39 4 (.t 7)),
            (none, .mv 40 (.t 8)),
            (none, .mv 41 (.t 9)),
            (none, .mv 42 (.t 10)),
            (none, .store 4 (.t 2) (.t 39)),
            (none, .mv 3 (.t 40)),
            (none, .mv 4 (.t 41)),
            (none, .mv 5 (.t 42))])
         (.ret))))))⟩
end Go.Ab.C

/- That the program has this code. -/
namespace Go.Ab.K
open Go Go.Ab
theorem spec_l1Cur_direction : prepF Go.Proofs.Try.prog F.spec_l1Cur_direction = some C.spec_l1Cur_direction := by kernel_rfl
theorem spec_DrawViewOf : prepF Go.Proofs.Try.prog F.spec_DrawViewOf = some C.spec_DrawViewOf := by kernel_rfl
theorem spec_DrawMirrorHeap : prepF Go.Proofs.Try.prog F.spec_DrawMirrorHeap = some C.spec_DrawMirrorHeap := by kernel_rfl
theorem spec_DrawSwapSides : prepF Go.Proofs.Try.prog F.spec_DrawSwapSides = some C.spec_DrawSwapSides := by kernel_rfl
theorem spec_DrawJoinHeaps : prepF Go.Proofs.Try.prog F.spec_DrawJoinHeaps = some C.spec_DrawJoinHeaps := by kernel_rfl
theorem spec_DrawShiftHeap : prepF Go.Proofs.Try.prog F.spec_DrawShiftHeap = some C.spec_DrawShiftHeap := by kernel_rfl
theorem spec_DrawWidenHeap : prepF Go.Proofs.Try.prog F.spec_DrawWidenHeap = some C.spec_DrawWidenHeap := by kernel_rfl
end Go.Ab.K

/- Contracts: what the law of heaps' forms draws. -/
namespace Go.Ab
open Go
set_option linter.unusedSimpArgs false
set_option linter.unusedVariables false
set_option maxRecDepth 20000

/-- A guarded step, an if, and then the rest: the rest is shown once. -/
theorem guard_cut {P : Program} {o : AOp} {w : Bool} {r : List GOp} {b c : ACode} {fr : Fr} {v : LV} {M : Mem} {Q : AExit → Fr → Mem → Prop} (I : Fr → Mem → Prop) (h : guardO v w P o fr M (opsK P r (seqK P b (thenK I Q) .normal))) (hb : ∀ fr M, I fr M → EvC P c fr M Q) : guardO v w P o fr M (opsK P r (seqK P b (seqK P c Q) .normal)) := by
  have hm : ∀ e fr M, thenK I Q e fr M → seqK P c Q e fr M := fun e fr M hh => by
    cases e with
    | normal => exact hb _ _ hh
    | exit i => exact hh
    | ret => exact hh
  have hK : ∀ fr M, opsK P r (seqK P b (thenK I Q) .normal) fr M → opsK P r (seqK P b (seqK P c Q) .normal) fr M := fun fr M h => evops_mono (fun fr M hh => evc_mono hm hh) h
  have hA : EvOp P o fr M (opsK P r (seqK P b (thenK I Q) .normal)) → EvOp P o fr M (opsK P r (seqK P b (seqK P c Q) .normal)) := fun h => evg_mono (g := (none, o)) hK h
  revert h
  unfold guardO guardV
  split
  · intro h
    unfold condB at *
    exact ⟨fun e => hA (h.1 e), fun e => hK _ _ (h.2 e)⟩
  · exact fun h => hK _ _ h
  · exact id
theorem d_direction {p t o a : Nat} {bs : List Nat} {M : Mem} (h : CurAt M p t o bs a) (ha : a ≤ 999900) : CallsR PG F.spec_l1Cur_direction [.ptr p 0] M fun v N => (∃ b : Int, v = .I b) ∧ DrawN M p t o bs (a + 4) N := by
  refine callsR_run K.spec_l1Cur_direction rfl ?_
  simp (disch := omega) only [C.spec_l1Cur_direction, ↓SXd, SXu, slBounds, ↓sop, ↓aop, ↓reduceIte, LV.cells, AOp.dst, LV.I, LV.B, LV.U, LV.S, LV.nil, Nat.reduceEqDiff, Nat.reduceAdd, Nat.reduceMul, Nat.reduceSub, Nat.reduceLeDiff, Nat.reduceBEq, Nat.reduceDiv, Nat.reduceMod, Int.reduceToNat, Int.reduceLT, Int.reduceLE, Int.reduceAdd, Int.reduceSub, Int.reduceMul, Int.reduceEq, Int.reduceNeg, reduceCtorEq, resV, resAll, ARes.ev, LV.flat, ite_true, ite_false, exists_eq_left', exists_eq_left, keyOf, implies_true, fillC, capOf]
  refine callR_of (d_one h (by omega)) ?_
  rintro _ N1 ⟨⟨b, rfl⟩, hd1⟩
  cases b
  · simp (disch := omega) only [↓SXd, SXu, slBounds, ↓sop, ↓aop, ↓reduceIte, LV.cells, AOp.dst, LV.I, LV.B, LV.U, LV.S, LV.nil, Nat.reduceEqDiff, Nat.reduceAdd, Nat.reduceMul, Nat.reduceSub, Nat.reduceLeDiff, Nat.reduceBEq, Nat.reduceDiv, Nat.reduceMod, Int.reduceToNat, Int.reduceLT, Int.reduceLE, Int.reduceAdd, Int.reduceSub, Int.reduceMul, Int.reduceEq, Int.reduceNeg, reduceCtorEq, resV, resAll, ARes.ev, LV.flat, ite_true, ite_false, exists_eq_left', exists_eq_left, keyOf, implies_true, fillC, capOf]
    refine callR_of (d_pick hd1.1 (by omega)) ?_
    rintro _ N2 ⟨⟨b, rfl, _⟩, hd2⟩
    simp (disch := omega) only [↓SXd, SXu, slBounds, ↓sop, ↓aop, ↓reduceIte, LV.cells, AOp.dst, LV.I, LV.B, LV.U, LV.S, LV.nil, Nat.reduceEqDiff, Nat.reduceAdd, Nat.reduceMul, Nat.reduceSub, Nat.reduceLeDiff, Nat.reduceBEq, Nat.reduceDiv, Nat.reduceMod, Int.reduceToNat, Int.reduceLT, Int.reduceLE, Int.reduceAdd, Int.reduceSub, Int.reduceMul, Int.reduceEq, Int.reduceNeg, reduceCtorEq, resV, resAll, ARes.ev, LV.flat, ite_true, ite_false, exists_eq_left', exists_eq_left, keyOf, implies_true, fillC, capOf]
    exact ⟨⟨_, rfl⟩, hd1.trans hd2⟩
  · simp (disch := omega) only [splice, ↓SXd, SXu, slBounds, ↓sop, ↓aop, ↓reduceIte, LV.cells, AOp.dst, LV.I, LV.B, LV.U, LV.S, LV.nil, Nat.reduceEqDiff, Nat.reduceAdd, Nat.reduceMul, Nat.reduceSub, Nat.reduceLeDiff, Nat.reduceBEq, Nat.reduceDiv, Nat.reduceMod, Int.reduceToNat, Int.reduceLT, Int.reduceLE, Int.reduceAdd, Int.reduceSub, Int.reduceMul, Int.reduceEq, Int.reduceNeg, reduceCtorEq, resV, resAll, ARes.ev, LV.flat, ite_true, ite_false, exists_eq_left', exists_eq_left, keyOf, implies_true, fillC, capOf]
    refine callR_of (d_amongNew (xs := [-1, 3, 4611686018427387904]) hd1.1 (by omega) (by simp) (by simp)) ?_
    rintro _ N2 ⟨⟨b, rfl, _⟩, hd2⟩
    simp (disch := omega) only [↓SXd, SXu, slBounds, ↓sop, ↓aop, ↓reduceIte, LV.cells, AOp.dst, LV.I, LV.B, LV.U, LV.S, LV.nil, Nat.reduceEqDiff, Nat.reduceAdd, Nat.reduceMul, Nat.reduceSub, Nat.reduceLeDiff, Nat.reduceBEq, Nat.reduceDiv, Nat.reduceMod, Int.reduceToNat, Int.reduceLT, Int.reduceLE, Int.reduceAdd, Int.reduceSub, Int.reduceMul, Int.reduceEq, Int.reduceNeg, reduceCtorEq, resV, resAll, ARes.ev, LV.flat, ite_true, ite_false, exists_eq_left', exists_eq_left, keyOf, implies_true, fillC, capOf]
    exact ⟨⟨_, rfl⟩, hd1.trans hd2⟩
theorem CurAt.new3 {t o : Nat} {bs : List Nat} {M : Mem} {b c : Option Blk} (hB : Bytes M t o bs) (h255 : ∀ b ∈ bs, b ≤ 255) (hl : bs.length ≤ 1000000000) : CurAt (M ++ [b, c, some (.row [.ref t o bs.length, .I 0, .val (.int .u64 0)] true 0)]) (M.length + 2) t o bs 0 := by
  have := CurAt.new (M := M ++ [b, c]) (t := t) (o := o) (bs := bs) (Has.app hB) h255 hl
  rw [List.append_assoc, List.length_append] at this
  exact this
section
variable {t o : Nat} {bs : List Nat} {M : Mem} (hB : Bytes M t o bs) (h255 : ∀ b ∈ bs, b ≤ 255) (hl : bs.length ≤ 1000000000)
include hB h255 hl
theorem d_DrawViewOf : CallsR PG F.spec_DrawViewOf [.ref t o bs.length] M fun v N => (∃ (hv : LV) (k : Int), v = .tup [hv, .I k] ∧ HeapE M hv N) ∧ Pre M N := by
  have htM := hB.lt
  refine callsR_run K.spec_DrawViewOf rfl ?_
  simp (disch := omega) only [C.spec_DrawViewOf, splice, ↓SXd, SXu, slBounds, ↓sop, ↓aop, ↓reduceIte, LV.cells, AOp.dst, LV.I, LV.B, LV.U, LV.S, LV.nil, Nat.reduceEqDiff, Nat.reduceAdd, Nat.reduceMul, Nat.reduceSub, Nat.reduceLeDiff, Nat.reduceBEq, Nat.reduceDiv, Nat.reduceMod, Int.reduceToNat, Int.reduceLT, Int.reduceLE, Int.reduceAdd, Int.reduceSub, Int.reduceMul, Int.reduceEq, Int.reduceNeg, reduceCtorEq, resV, resAll, ARes.ev, LV.flat, ite_true, ite_false, exists_eq_left', exists_eq_left, keyOf, implies_true, fillC, capOf]
  have hc := CurAt.new2 (b := some (.row [.I 0, .I 0, .I 0, .nil] true 0)) hB h255 hl
  refine callR_of (d_heapE hc (by omega)) ?_
  rintro _ N1 ⟨⟨x, y, z, cs, u, rfl, hu, hul, hcl⟩, hd1⟩
  rw [List.length_append] at hul
  simp only [List.length_cons, List.length_nil] at hul
  have b2 : Live N1 M.length (.row [.I 0, .I 0, .I 0, .nil] true 0) := hd1.live Live.new (by omega)
  have hP1 : Pre M N1 := hd1.pre (Pre.app _ _) (by omega)
  simp (disch := omega) only [splice, ↓SXd, SXu, slBounds, ↓sop, ↓aop, ↓reduceIte, LV.cells, AOp.dst, LV.I, LV.B, LV.U, LV.S, LV.nil, Nat.reduceEqDiff, Nat.reduceAdd, Nat.reduceMul, Nat.reduceSub, Nat.reduceLeDiff, Nat.reduceBEq, Nat.reduceDiv, Nat.reduceMod, Int.reduceToNat, Int.reduceLT, Int.reduceLE, Int.reduceAdd, Int.reduceSub, Int.reduceMul, Int.reduceEq, Int.reduceNeg, reduceCtorEq, resV, resAll, ARes.ev, LV.flat, ite_true, ite_false, exists_eq_left', exists_eq_left, keyOf, implies_true, fillC, capOf]
  refine callR_of (d_direction hd1.1 (by omega)) ?_
  rintro _ N4 ⟨⟨k, rfl⟩, hD⟩
  have e2 : Live N4 M.length (.row [.I 0, .I 0, .I 0, .nil] true 0) := hD.live b2 (by omega)
  have eu : Live N4 u (.row (triL cs) true 3) := hD.live hu (by omega)
  have hP4 : Pre M N4 := hD.pre hP1 (by omega)
  have e2l := e2.lt
  simp (disch := omega) only [↓SXd, SXu, slBounds, ↓sop, ↓aop, ↓reduceIte, LV.cells, AOp.dst, LV.I, LV.B, LV.U, LV.S, LV.nil, Nat.reduceEqDiff, Nat.reduceAdd, Nat.reduceMul, Nat.reduceSub, Nat.reduceLeDiff, Nat.reduceBEq, Nat.reduceDiv, Nat.reduceMod, Int.reduceToNat, Int.reduceLT, Int.reduceLE, Int.reduceAdd, Int.reduceSub, Int.reduceMul, Int.reduceEq, Int.reduceNeg, reduceCtorEq, resV, resAll, ARes.ev, LV.flat, ite_true, ite_false, exists_eq_left', exists_eq_left, keyOf, implies_true, fillC, capOf]
  refine memK_box e2 (by simp) fun N5 i1 i2 i3 => ?_
  simp (disch := omega) only [i2.cells, ↓SXd, SXu, slBounds, ↓sop, ↓aop, ↓reduceIte, LV.cells, AOp.dst, LV.I, LV.B, LV.U, LV.S, LV.nil, Nat.reduceEqDiff, Nat.reduceAdd, Nat.reduceMul, Nat.reduceSub, Nat.reduceLeDiff, Nat.reduceBEq, Nat.reduceDiv, Nat.reduceMod, Int.reduceToNat, Int.reduceLT, Int.reduceLE, Int.reduceAdd, Int.reduceSub, Int.reduceMul, Int.reduceEq, Int.reduceNeg, reduceCtorEq, resV, resAll, ARes.ev, LV.flat, ite_true, ite_false, exists_eq_left', exists_eq_left, keyOf, implies_true, fillC, capOf]
  exact ⟨⟨_, k, rfl, x, y, z, cs, u, rfl, live_step eu (by omega) i3, by omega, hcl⟩, pre_step hP4 (by omega) (j := 0) i1 i3⟩
theorem d_DrawMirrorHeap : CallsR PG F.spec_DrawMirrorHeap [.ref t o bs.length] M fun v N => (∃ (hv : LV) (k : Int), v = .tup [hv, .I k] ∧ HeapE M hv N) ∧ Pre M N := by
  refine callsR_run K.spec_DrawMirrorHeap rfl ?_
  simp (disch := omega) only [C.spec_DrawMirrorHeap, splice, ↓SXd, SXu, slBounds, ↓sop, ↓aop, ↓reduceIte, LV.cells, AOp.dst, LV.I, LV.B, LV.U, LV.S, LV.nil, Nat.reduceEqDiff, Nat.reduceAdd, Nat.reduceMul, Nat.reduceSub, Nat.reduceLeDiff, Nat.reduceBEq, Nat.reduceDiv, Nat.reduceMod, Int.reduceToNat, Int.reduceLT, Int.reduceLE, Int.reduceAdd, Int.reduceSub, Int.reduceMul, Int.reduceEq, Int.reduceNeg, reduceCtorEq, resV, resAll, ARes.ev, LV.flat, ite_true, ite_false, exists_eq_left', exists_eq_left, keyOf, implies_true, fillC, capOf]
  refine callR_of (d_DrawViewOf (M := M ++ [some (.row [.I 0, .I 0, .I 0, .nil] true 0)]) (Has.app hB) h255 hl) ?_
  rintro _ N1 ⟨⟨_, p, rfl, x, y, z, cs, u, rfl, hu, hul, hcl⟩, hp1⟩
  rw [List.length_append] at hul
  simp only [List.length_cons, List.length_nil] at hul
  have b2 : Live N1 M.length (.row [.I 0, .I 0, .I 0, .nil] true 0) := Live.new.pre hp1
  have hP1 : Pre M N1 := (Pre.app _ _).trans hp1
  have b2l := b2.lt
  simp (disch := omega) only [↓SXd, SXu, slBounds, ↓sop, ↓aop, ↓reduceIte, LV.cells, AOp.dst, LV.I, LV.B, LV.U, LV.S, LV.nil, Nat.reduceEqDiff, Nat.reduceAdd, Nat.reduceMul, Nat.reduceSub, Nat.reduceLeDiff, Nat.reduceBEq, Nat.reduceDiv, Nat.reduceMod, Int.reduceToNat, Int.reduceLT, Int.reduceLE, Int.reduceAdd, Int.reduceSub, Int.reduceMul, Int.reduceEq, Int.reduceNeg, reduceCtorEq, resV, resAll, ARes.ev, LV.flat, ite_true, ite_false, exists_eq_left', exists_eq_left, keyOf, implies_true, fillC, capOf]
  refine memK_box b2 (by simp) fun N5 i1 i2 i3 => ?_
  simp (disch := omega) only [i2.cells, ↓SXd, SXu, slBounds, ↓sop, ↓aop, ↓reduceIte, LV.cells, AOp.dst, LV.I, LV.B, LV.U, LV.S, LV.nil, Nat.reduceEqDiff, Nat.reduceAdd, Nat.reduceMul, Nat.reduceSub, Nat.reduceLeDiff, Nat.reduceBEq, Nat.reduceDiv, Nat.reduceMod, Int.reduceToNat, Int.reduceLT, Int.reduceLE, Int.reduceAdd, Int.reduceSub, Int.reduceMul, Int.reduceEq, Int.reduceNeg, reduceCtorEq, resV, resAll, ARes.ev, LV.flat, ite_true, ite_false, exists_eq_left', exists_eq_left, keyOf, implies_true, fillC, capOf]
  exact ⟨⟨_, p, rfl, x, y, z, cs, u, rfl, live_step hu (by omega) i3, by omega, hcl⟩, pre_step hP1 (by omega) (j := 0) i1 i3⟩
theorem d_DrawSwapSides : CallsR PG F.spec_DrawSwapSides [.ref t o bs.length] M fun v N => (∃ (hv : LV) (k m : Int), v = .tup [hv, .I k, .I m] ∧ HeapE M hv N) ∧ Pre M N := by
  have htM := hB.lt
  refine callsR_run K.spec_DrawSwapSides rfl ?_
  simp (disch := omega) only [C.spec_DrawSwapSides, splice, ↓SXd, SXu, slBounds, ↓sop, ↓aop, ↓reduceIte, LV.cells, AOp.dst, LV.I, LV.B, LV.U, LV.S, LV.nil, Nat.reduceEqDiff, Nat.reduceAdd, Nat.reduceMul, Nat.reduceSub, Nat.reduceLeDiff, Nat.reduceBEq, Nat.reduceDiv, Nat.reduceMod, Int.reduceToNat, Int.reduceLT, Int.reduceLE, Int.reduceAdd, Int.reduceSub, Int.reduceMul, Int.reduceEq, Int.reduceNeg, reduceCtorEq, resV, resAll, ARes.ev, LV.flat, ite_true, ite_false, exists_eq_left', exists_eq_left, keyOf, implies_true, fillC, capOf]
  have hc := CurAt.new2 (b := some (.row [.I 0, .I 0, .I 0, .nil] true 0)) hB h255 hl
  refine callR_of (d_heapE hc (by omega)) ?_
  rintro _ N1 ⟨⟨x, y, z, cs, u, rfl, hu, hul, hcl⟩, hd1⟩
  rw [List.length_append] at hul
  simp only [List.length_cons, List.length_nil] at hul
  have b2 : Live N1 M.length (.row [.I 0, .I 0, .I 0, .nil] true 0) := hd1.live Live.new (by omega)
  have hP1 : Pre M N1 := hd1.pre (Pre.app _ _) (by omega)
  simp (disch := omega) only [splice, ↓SXd, SXu, slBounds, ↓sop, ↓aop, ↓reduceIte, LV.cells, AOp.dst, LV.I, LV.B, LV.U, LV.S, LV.nil, Nat.reduceEqDiff, Nat.reduceAdd, Nat.reduceMul, Nat.reduceSub, Nat.reduceLeDiff, Nat.reduceBEq, Nat.reduceDiv, Nat.reduceMod, Int.reduceToNat, Int.reduceLT, Int.reduceLE, Int.reduceAdd, Int.reduceSub, Int.reduceMul, Int.reduceEq, Int.reduceNeg, reduceCtorEq, resV, resAll, ARes.ev, LV.flat, ite_true, ite_false, exists_eq_left', exists_eq_left, keyOf, implies_true, fillC, capOf]
  refine callR_of (d_direction hd1.1 (by omega)) ?_
  rintro _ N3 ⟨⟨k, rfl⟩, hd3⟩
  simp (disch := omega) only [↓SXd, SXu, slBounds, ↓sop, ↓aop, ↓reduceIte, LV.cells, AOp.dst, LV.I, LV.B, LV.U, LV.S, LV.nil, Nat.reduceEqDiff, Nat.reduceAdd, Nat.reduceMul, Nat.reduceSub, Nat.reduceLeDiff, Nat.reduceBEq, Nat.reduceDiv, Nat.reduceMod, Int.reduceToNat, Int.reduceLT, Int.reduceLE, Int.reduceAdd, Int.reduceSub, Int.reduceMul, Int.reduceEq, Int.reduceNeg, reduceCtorEq, resV, resAll, ARes.ev, LV.flat, ite_true, ite_false, exists_eq_left', exists_eq_left, keyOf, implies_true, fillC, capOf]
  refine callR_of (d_direction hd3.1 (by omega)) ?_
  rintro _ N4 ⟨⟨m, rfl⟩, hd4⟩
  have hD := hd3.trans hd4
  have e2 : Live N4 M.length (.row [.I 0, .I 0, .I 0, .nil] true 0) := hD.live b2 (by omega)
  have eu : Live N4 u (.row (triL cs) true 3) := hD.live hu (by omega)
  have hP4 : Pre M N4 := hD.pre hP1 (by omega)
  have e2l := e2.lt
  simp (disch := omega) only [↓SXd, SXu, slBounds, ↓sop, ↓aop, ↓reduceIte, LV.cells, AOp.dst, LV.I, LV.B, LV.U, LV.S, LV.nil, Nat.reduceEqDiff, Nat.reduceAdd, Nat.reduceMul, Nat.reduceSub, Nat.reduceLeDiff, Nat.reduceBEq, Nat.reduceDiv, Nat.reduceMod, Int.reduceToNat, Int.reduceLT, Int.reduceLE, Int.reduceAdd, Int.reduceSub, Int.reduceMul, Int.reduceEq, Int.reduceNeg, reduceCtorEq, resV, resAll, ARes.ev, LV.flat, ite_true, ite_false, exists_eq_left', exists_eq_left, keyOf, implies_true, fillC, capOf]
  refine memK_box e2 (by simp) fun N5 i1 i2 i3 => ?_
  simp (disch := omega) only [i2.cells, ↓SXd, SXu, slBounds, ↓sop, ↓aop, ↓reduceIte, LV.cells, AOp.dst, LV.I, LV.B, LV.U, LV.S, LV.nil, Nat.reduceEqDiff, Nat.reduceAdd, Nat.reduceMul, Nat.reduceSub, Nat.reduceLeDiff, Nat.reduceBEq, Nat.reduceDiv, Nat.reduceMod, Int.reduceToNat, Int.reduceLT, Int.reduceLE, Int.reduceAdd, Int.reduceSub, Int.reduceMul, Int.reduceEq, Int.reduceNeg, reduceCtorEq, resV, resAll, ARes.ev, LV.flat, ite_true, ite_false, exists_eq_left', exists_eq_left, keyOf, implies_true, fillC, capOf]
  exact ⟨⟨_, k, m, rfl, x, y, z, cs, u, rfl, live_step eu (by omega) i3, by omega, hcl⟩, pre_step hP4 (by omega) (j := 0) i1 i3⟩
theorem d_DrawJoinHeaps : CallsR PG F.spec_DrawJoinHeaps [.ref t o bs.length] M fun v N => (∃ hv hw : LV, v = .tup [hv, hw] ∧ HeapE M hv N ∧ HeapE M hw N) ∧ Pre M N := by
  have htM := hB.lt
  refine callsR_run K.spec_DrawJoinHeaps rfl ?_
  simp (disch := omega) only [C.spec_DrawJoinHeaps, splice, ↓SXd, SXu, slBounds, ↓sop, ↓aop, ↓reduceIte, LV.cells, AOp.dst, LV.I, LV.B, LV.U, LV.S, LV.nil, Nat.reduceEqDiff, Nat.reduceAdd, Nat.reduceMul, Nat.reduceSub, Nat.reduceLeDiff, Nat.reduceBEq, Nat.reduceDiv, Nat.reduceMod, Int.reduceToNat, Int.reduceLT, Int.reduceLE, Int.reduceAdd, Int.reduceSub, Int.reduceMul, Int.reduceEq, Int.reduceNeg, reduceCtorEq, resV, resAll, ARes.ev, LV.flat, ite_true, ite_false, exists_eq_left', exists_eq_left, keyOf, implies_true, fillC, capOf]
  have hc := CurAt.new3 (b := some (.row [.I 0, .I 0, .I 0, .nil] true 0)) (c := some (.row [.I 0, .I 0, .I 0, .nil] true 0)) hB h255 hl
  refine callR_of (d_heapE hc (by omega)) ?_
  rintro _ N1 ⟨⟨x, y, z, cs, u, rfl, hu, hul, hcl⟩, hd1⟩
  rw [List.length_append] at hul
  simp only [List.length_cons, List.length_nil] at hul
  have b2 : Live N1 M.length (.row [.I 0, .I 0, .I 0, .nil] true 0) := hd1.live Live.new (by omega)
  have b3 : Live N1 (M.length + 1) (.row [.I 0, .I 0, .I 0, .nil] true 0) := hd1.live (Live.newj (j := 1) rfl) (by omega)
  have hP1 : Pre M N1 := hd1.pre (Pre.app _ _) (by omega)
  have b2l := b3.lt
  have hull := hu.lt
  simp (disch := omega) only [splice, ↓SXd, SXu, slBounds, ↓sop, ↓aop, ↓reduceIte, LV.cells, AOp.dst, LV.I, LV.B, LV.U, LV.S, LV.nil, Nat.reduceEqDiff, Nat.reduceAdd, Nat.reduceMul, Nat.reduceSub, Nat.reduceLeDiff, Nat.reduceBEq, Nat.reduceDiv, Nat.reduceMod, Int.reduceToNat, Int.reduceLT, Int.reduceLE, Int.reduceAdd, Int.reduceSub, Int.reduceMul, Int.reduceEq, Int.reduceNeg, reduceCtorEq, resV, resAll, ARes.ev, LV.flat, ite_true, ite_false, exists_eq_left', exists_eq_left, keyOf, implies_true, fillC, capOf]
  have hc1 : CurAt (N1 ++ [some (.row [.I x, .I y, .I z, .ref u 0 cs.length] true 0)]) (M.length + 2) t o bs 160 := hd1.1.pre (Pre.app _ _)
  refine callR_of (d_one hc1 (by omega)) ?_
  rintro _ N2 ⟨⟨b, rfl⟩, hd2⟩
  have c5 : Live N2 N1.length (.row [.I x, .I y, .I z, .ref u 0 cs.length] true 0) := hd2.live Live.new (by have := hd1.2.1; simp only [List.length_append, List.length_cons, List.length_nil] at this; omega)
  have c2 := hd2.live b2.app (by omega)
  have c3 := hd2.live b3.app (by omega)
  have cu := hd2.live hu.app (by omega)
  have hP2 : Pre M N2 := hd2.pre (hP1.trans (Pre.app _ _)) (by omega)
  have hlN := hd1.2.1
  simp only [List.length_append, List.length_cons, List.length_nil] at hlN
  have hlN2 := hd2.2.1
  simp only [List.length_append, List.length_cons, List.length_nil] at hlN2
  have hcl2 := c5.lt
  have key : ∀ {N3 : Mem} {x' y' z' : Int} {ds : List Cell} {u' : Nat} {a' : Nat}, DrawN N2 (M.length + 2) t o bs a' N3 → Live N3 u' (.row (triL ds) true 3) → N2.length ≤ u' → Live N3 M.length (.row [.I 0, .I 0, .I 0, .nil] true 0) ∧ Live N3 (M.length + 1) (.row [.I 0, .I 0, .I 0, .nil] true 0) ∧ Live N3 u (.row (triL cs) true 3) ∧ Live N3 N1.length (.row [.I x, .I y, .I z, .ref u 0 cs.length] true 0) ∧ Pre M N3 := fun hd3 hu3 hl3 => ⟨hd3.live c2 (by omega), hd3.live c3 (by omega), hd3.live cu (by omega), hd3.live c5 (by omega), hd3.pre hP2 (by omega)⟩
  cases b
  · simp (disch := omega) only [c5.cells, c5.cell, ↓SXd, SXu, slBounds, ↓sop, ↓aop, ↓reduceIte, LV.cells, AOp.dst, LV.I, LV.B, LV.U, LV.S, LV.nil, Nat.reduceEqDiff, Nat.reduceAdd, Nat.reduceMul, Nat.reduceSub, Nat.reduceLeDiff, Nat.reduceBEq, Nat.reduceDiv, Nat.reduceMod, Int.reduceToNat, Int.reduceLT, Int.reduceLE, Int.reduceAdd, Int.reduceSub, Int.reduceMul, Int.reduceEq, Int.reduceNeg, reduceCtorEq, resV, resAll, ARes.ev, LV.flat, ite_true, ite_false, exists_eq_left', exists_eq_left, keyOf, implies_true, fillC, capOf]
    refine callR_of (d_someHeap hd2.1 (by omega)) ?_
    rintro _ N3 ⟨⟨ds, u', rfl, hu', hul', hdl⟩, hd3⟩
    obtain ⟨d2, d3, du, d5, hP3⟩ := key (x' := 0) (y' := 0) (z' := 0) hd3 hu' hul'
    have hd3l := d3.lt
    simp (disch := omega) only [↓SXd, SXu, slBounds, ↓sop, ↓aop, ↓reduceIte, LV.cells, AOp.dst, LV.I, LV.B, LV.U, LV.S, LV.nil, Nat.reduceEqDiff, Nat.reduceAdd, Nat.reduceMul, Nat.reduceSub, Nat.reduceLeDiff, Nat.reduceBEq, Nat.reduceDiv, Nat.reduceMod, Int.reduceToNat, Int.reduceLT, Int.reduceLE, Int.reduceAdd, Int.reduceSub, Int.reduceMul, Int.reduceEq, Int.reduceNeg, reduceCtorEq, resV, resAll, ARes.ev, LV.flat, ite_true, ite_false, exists_eq_left', exists_eq_left, keyOf, implies_true, fillC, capOf]
    refine ⟨hd3.stay c5.lt (by omega), ?_⟩
    refine memK_box d2 (by simp) fun N5 i1 i2 i3 => ?_
    simp (disch := omega) only [↓SXd, SXu, slBounds, ↓sop, ↓aop, ↓reduceIte, LV.cells, AOp.dst, LV.I, LV.B, LV.U, LV.S, LV.nil, Nat.reduceEqDiff, Nat.reduceAdd, Nat.reduceMul, Nat.reduceSub, Nat.reduceLeDiff, Nat.reduceBEq, Nat.reduceDiv, Nat.reduceMod, Int.reduceToNat, Int.reduceLT, Int.reduceLE, Int.reduceAdd, Int.reduceSub, Int.reduceMul, Int.reduceEq, Int.reduceNeg, reduceCtorEq, resV, resAll, ARes.ev, LV.flat, ite_true, ite_false, exists_eq_left', exists_eq_left, keyOf, implies_true, fillC, capOf]
    refine memK_box (live_step d3 (by omega) i3) (by simp) fun N6 j1 j2 j3 => ?_
    have i2' := live_step i2 (by omega) j3
    simp (disch := omega) only [i2'.cells, j2.cells, ↓SXd, SXu, slBounds, ↓sop, ↓aop, ↓reduceIte, LV.cells, AOp.dst, LV.I, LV.B, LV.U, LV.S, LV.nil, Nat.reduceEqDiff, Nat.reduceAdd, Nat.reduceMul, Nat.reduceSub, Nat.reduceLeDiff, Nat.reduceBEq, Nat.reduceDiv, Nat.reduceMod, Int.reduceToNat, Int.reduceLT, Int.reduceLE, Int.reduceAdd, Int.reduceSub, Int.reduceMul, Int.reduceEq, Int.reduceNeg, reduceCtorEq, resV, resAll, ARes.ev, LV.flat, ite_true, ite_false, exists_eq_left', exists_eq_left, keyOf, implies_true, fillC, capOf]
    exact ⟨⟨_, _, rfl, ⟨x, y, z, cs, u, rfl, live_step (live_step du (by omega) i3) (by omega) j3, by omega, hcl⟩, ⟨x, y, z, ds, u', rfl, live_step (live_step hu' (by omega) i3) (by omega) j3, by omega, by omega⟩⟩, pre_step (pre_step hP3 (by omega) (j := 0) i1 i3) (by omega) (j := 0) j1 j3⟩
  · simp (disch := omega) only [c5.cells, c5.cell, ↓SXd, SXu, slBounds, ↓sop, ↓aop, ↓reduceIte, LV.cells, AOp.dst, LV.I, LV.B, LV.U, LV.S, LV.nil, Nat.reduceEqDiff, Nat.reduceAdd, Nat.reduceMul, Nat.reduceSub, Nat.reduceLeDiff, Nat.reduceBEq, Nat.reduceDiv, Nat.reduceMod, Int.reduceToNat, Int.reduceLT, Int.reduceLE, Int.reduceAdd, Int.reduceSub, Int.reduceMul, Int.reduceEq, Int.reduceNeg, reduceCtorEq, resV, resAll, ARes.ev, LV.flat, ite_true, ite_false, exists_eq_left', exists_eq_left, keyOf, implies_true, fillC, capOf]
    refine callR_of (d_heapE hd2.1 (by omega)) ?_
    rintro _ N3 ⟨⟨x', y', z', ds, u', rfl, hu', hul', hdl⟩, hd3⟩
    obtain ⟨d2, d3, du, d5, hP3⟩ := key (x' := 0) (y' := 0) (z' := 0) hd3 hu' hul'
    have hd3l := d3.lt
    simp (disch := omega) only [↓SXd, SXu, slBounds, ↓sop, ↓aop, ↓reduceIte, LV.cells, AOp.dst, LV.I, LV.B, LV.U, LV.S, LV.nil, Nat.reduceEqDiff, Nat.reduceAdd, Nat.reduceMul, Nat.reduceSub, Nat.reduceLeDiff, Nat.reduceBEq, Nat.reduceDiv, Nat.reduceMod, Int.reduceToNat, Int.reduceLT, Int.reduceLE, Int.reduceAdd, Int.reduceSub, Int.reduceMul, Int.reduceEq, Int.reduceNeg, reduceCtorEq, resV, resAll, ARes.ev, LV.flat, ite_true, ite_false, exists_eq_left', exists_eq_left, keyOf, implies_true, fillC, capOf]
    refine ⟨hd3.stay c5.lt (by omega), ?_⟩
    refine memK_box d2 (by simp) fun N5 i1 i2 i3 => ?_
    simp (disch := omega) only [↓SXd, SXu, slBounds, ↓sop, ↓aop, ↓reduceIte, LV.cells, AOp.dst, LV.I, LV.B, LV.U, LV.S, LV.nil, Nat.reduceEqDiff, Nat.reduceAdd, Nat.reduceMul, Nat.reduceSub, Nat.reduceLeDiff, Nat.reduceBEq, Nat.reduceDiv, Nat.reduceMod, Int.reduceToNat, Int.reduceLT, Int.reduceLE, Int.reduceAdd, Int.reduceSub, Int.reduceMul, Int.reduceEq, Int.reduceNeg, reduceCtorEq, resV, resAll, ARes.ev, LV.flat, ite_true, ite_false, exists_eq_left', exists_eq_left, keyOf, implies_true, fillC, capOf]
    refine memK_box (live_step d3 (by omega) i3) (by simp) fun N6 j1 j2 j3 => ?_
    have i2' := live_step i2 (by omega) j3
    simp (disch := omega) only [i2'.cells, j2.cells, ↓SXd, SXu, slBounds, ↓sop, ↓aop, ↓reduceIte, LV.cells, AOp.dst, LV.I, LV.B, LV.U, LV.S, LV.nil, Nat.reduceEqDiff, Nat.reduceAdd, Nat.reduceMul, Nat.reduceSub, Nat.reduceLeDiff, Nat.reduceBEq, Nat.reduceDiv, Nat.reduceMod, Int.reduceToNat, Int.reduceLT, Int.reduceLE, Int.reduceAdd, Int.reduceSub, Int.reduceMul, Int.reduceEq, Int.reduceNeg, reduceCtorEq, resV, resAll, ARes.ev, LV.flat, ite_true, ite_false, exists_eq_left', exists_eq_left, keyOf, implies_true, fillC, capOf]
    exact ⟨⟨_, _, rfl, ⟨x, y, z, cs, u, rfl, live_step (live_step du (by omega) i3) (by omega) j3, by omega, hcl⟩, ⟨x', y', z', ds, u', rfl, live_step (live_step hu' (by omega) i3) (by omega) j3, by omega, by omega⟩⟩, pre_step (pre_step hP3 (by omega) (j := 0) i1 i3) (by omega) (j := 0) j1 j3⟩
theorem d_DrawWidenHeap : CallsR PG F.spec_DrawWidenHeap [.ref t o bs.length] M fun v N => (∃ (hv : LV) (X Y Z : Int), v = .tup [hv, .I X, .I Y, .I Z] ∧ HeapE M hv N) ∧ Pre M N := by
  have htM := hB.lt
  refine callsR_run K.spec_DrawWidenHeap rfl ?_
  simp (disch := omega) only [C.spec_DrawWidenHeap, splice, ↓SXd, SXu, slBounds, ↓sop, ↓aop, ↓reduceIte, LV.cells, AOp.dst, LV.I, LV.B, LV.U, LV.S, LV.nil, Nat.reduceEqDiff, Nat.reduceAdd, Nat.reduceMul, Nat.reduceSub, Nat.reduceLeDiff, Nat.reduceBEq, Nat.reduceDiv, Nat.reduceMod, Int.reduceToNat, Int.reduceLT, Int.reduceLE, Int.reduceAdd, Int.reduceSub, Int.reduceMul, Int.reduceEq, Int.reduceNeg, reduceCtorEq, resV, resAll, ARes.ev, LV.flat, ite_true, ite_false, exists_eq_left', exists_eq_left, keyOf, implies_true, fillC, capOf]
  have hc := CurAt.new2 (b := some (.row [.I 0, .I 0, .I 0, .nil] true 0)) hB h255 hl
  refine callR_of (d_heapE hc (by omega)) ?_
  rintro _ N1 ⟨⟨x, y, z, cs, u, rfl, hu, hul, hcl⟩, hd1⟩
  rw [List.length_append] at hul
  simp only [List.length_cons, List.length_nil] at hul
  have b2 : Live N1 M.length (.row [.I 0, .I 0, .I 0, .nil] true 0) := hd1.live Live.new (by omega)
  have hP1 : Pre M N1 := hd1.pre (Pre.app _ _) (by omega)
  have b2l := b2.lt
  have hull := hu.lt
  have hlN := hd1.2.1
  simp only [List.length_append, List.length_cons, List.length_nil] at hlN
  simp (disch := omega) only [splice, ↓SXd, SXu, slBounds, ↓sop, ↓aop, ↓reduceIte, LV.cells, AOp.dst, LV.I, LV.B, LV.U, LV.S, LV.nil, Nat.reduceEqDiff, Nat.reduceAdd, Nat.reduceMul, Nat.reduceSub, Nat.reduceLeDiff, Nat.reduceBEq, Nat.reduceDiv, Nat.reduceMod, Int.reduceToNat, Int.reduceLT, Int.reduceLE, Int.reduceAdd, Int.reduceSub, Int.reduceMul, Int.reduceEq, Int.reduceNeg, reduceCtorEq, resV, resAll, ARes.ev, LV.flat, ite_true, ite_false, exists_eq_left', exists_eq_left, keyOf, implies_true, fillC, capOf]
  have hc1 : CurAt (N1 ++ [some (.row [.I x, .I y, .I z, .ref u 0 cs.length] true 0)]) (M.length + 1) t o bs 160 := hd1.1.pre (Pre.app _ _)
  refine callR_of (d_sides hc1 (by omega)) ?_
  rintro _ N2 ⟨⟨X, Y, Z, rfl⟩, hd2⟩
  have hlN2 := hd2.2.1
  simp only [List.length_append, List.length_cons, List.length_nil] at hlN2
  simp (disch := omega) only [↓SXd, SXu, slBounds, ↓sop, ↓aop, ↓reduceIte, LV.cells, AOp.dst, LV.I, LV.B, LV.U, LV.S, LV.nil, Nat.reduceEqDiff, Nat.reduceAdd, Nat.reduceMul, Nat.reduceSub, Nat.reduceLeDiff, Nat.reduceBEq, Nat.reduceDiv, Nat.reduceMod, Int.reduceToNat, Int.reduceLT, Int.reduceLE, Int.reduceAdd, Int.reduceSub, Int.reduceMul, Int.reduceEq, Int.reduceNeg, reduceCtorEq, resV, resAll, ARes.ev, LV.flat, ite_true, ite_false, exists_eq_left', exists_eq_left, keyOf, implies_true, fillC, capOf]
  refine callR_of (d_one hd2.1 (by omega)) ?_
  rintro _ N3 ⟨⟨b, rfl⟩, hd3⟩
  have hD := hd2.trans hd3
  have c5 : Live N3 N1.length (.row [.I x, .I y, .I z, .ref u 0 cs.length] true 0) := hD.live Live.new (by omega)
  have c2 := hD.live b2.app (by omega)
  have cu := hD.live hu.app (by omega)
  have hP3 : Pre M N3 := hD.pre (hP1.trans (Pre.app _ _)) (by omega)
  cases b
  · simp (disch := omega) only [c5.cells, ↓SXd, SXu, slBounds, ↓sop, ↓aop, ↓reduceIte, LV.cells, AOp.dst, LV.I, LV.B, LV.U, LV.S, LV.nil, Nat.reduceEqDiff, Nat.reduceAdd, Nat.reduceMul, Nat.reduceSub, Nat.reduceLeDiff, Nat.reduceBEq, Nat.reduceDiv, Nat.reduceMod, Int.reduceToNat, Int.reduceLT, Int.reduceLE, Int.reduceAdd, Int.reduceSub, Int.reduceMul, Int.reduceEq, Int.reduceNeg, reduceCtorEq, resV, resAll, ARes.ev, LV.flat, ite_true, ite_false, exists_eq_left', exists_eq_left, keyOf, implies_true, fillC, capOf]
    refine memK_box c2 (by simp) fun N5 i1 i2 i3 => ?_
    simp (disch := omega) only [i2.cells, ↓SXd, SXu, slBounds, ↓sop, ↓aop, ↓reduceIte, LV.cells, AOp.dst, LV.I, LV.B, LV.U, LV.S, LV.nil, Nat.reduceEqDiff, Nat.reduceAdd, Nat.reduceMul, Nat.reduceSub, Nat.reduceLeDiff, Nat.reduceBEq, Nat.reduceDiv, Nat.reduceMod, Int.reduceToNat, Int.reduceLT, Int.reduceLE, Int.reduceAdd, Int.reduceSub, Int.reduceMul, Int.reduceEq, Int.reduceNeg, reduceCtorEq, resV, resAll, ARes.ev, LV.flat, ite_true, ite_false, exists_eq_left', exists_eq_left, keyOf, implies_true, fillC, capOf]
    exact ⟨⟨_, X, Y, Z, rfl, x, y, z, cs, u, rfl, live_step cu (by omega) i3, by omega, hcl⟩, pre_step hP3 (by omega) (j := 0) i1 i3⟩
  · simp (disch := omega) only [c5.cell, ↓SXd, SXu, slBounds, ↓sop, ↓aop, ↓reduceIte, LV.cells, AOp.dst, LV.I, LV.B, LV.U, LV.S, LV.nil, Nat.reduceEqDiff, Nat.reduceAdd, Nat.reduceMul, Nat.reduceSub, Nat.reduceLeDiff, Nat.reduceBEq, Nat.reduceDiv, Nat.reduceMod, Int.reduceToNat, Int.reduceLT, Int.reduceLE, Int.reduceAdd, Int.reduceSub, Int.reduceMul, Int.reduceEq, Int.reduceNeg, reduceCtorEq, resV, resAll, ARes.ev, LV.flat, ite_true, ite_false, exists_eq_left', exists_eq_left, keyOf, implies_true, fillC, capOf]
    refine callK_of (h_l1Least) ?_
    simp (disch := omega) only [↓SXd, SXu, slBounds, ↓sop, ↓aop, ↓reduceIte, LV.cells, AOp.dst, LV.I, LV.B, LV.U, LV.S, LV.nil, Nat.reduceEqDiff, Nat.reduceAdd, Nat.reduceMul, Nat.reduceSub, Nat.reduceLeDiff, Nat.reduceBEq, Nat.reduceDiv, Nat.reduceMod, Int.reduceToNat, Int.reduceLT, Int.reduceLE, Int.reduceAdd, Int.reduceSub, Int.reduceMul, Int.reduceEq, Int.reduceNeg, reduceCtorEq, resV, resAll, ARes.ev, LV.flat, ite_true, ite_false, exists_eq_left', exists_eq_left, keyOf, implies_true, fillC, capOf]
    refine callK_of (h_l1Most) ?_
    simp (disch := omega) only [c5.cell, ↓SXd, SXu, slBounds, ↓sop, ↓aop, ↓reduceIte, LV.cells, AOp.dst, LV.I, LV.B, LV.U, LV.S, LV.nil, Nat.reduceEqDiff, Nat.reduceAdd, Nat.reduceMul, Nat.reduceSub, Nat.reduceLeDiff, Nat.reduceBEq, Nat.reduceDiv, Nat.reduceMod, Int.reduceToNat, Int.reduceLT, Int.reduceLE, Int.reduceAdd, Int.reduceSub, Int.reduceMul, Int.reduceEq, Int.reduceNeg, reduceCtorEq, resV, resAll, ARes.ev, LV.flat, ite_true, ite_false, exists_eq_left', exists_eq_left, keyOf, implies_true, fillC, capOf]
    refine callK_of (h_l1Least) ?_
    simp (disch := omega) only [↓SXd, SXu, slBounds, ↓sop, ↓aop, ↓reduceIte, LV.cells, AOp.dst, LV.I, LV.B, LV.U, LV.S, LV.nil, Nat.reduceEqDiff, Nat.reduceAdd, Nat.reduceMul, Nat.reduceSub, Nat.reduceLeDiff, Nat.reduceBEq, Nat.reduceDiv, Nat.reduceMod, Int.reduceToNat, Int.reduceLT, Int.reduceLE, Int.reduceAdd, Int.reduceSub, Int.reduceMul, Int.reduceEq, Int.reduceNeg, reduceCtorEq, resV, resAll, ARes.ev, LV.flat, ite_true, ite_false, exists_eq_left', exists_eq_left, keyOf, implies_true, fillC, capOf]
    refine callK_of (h_l1Most) ?_
    simp (disch := omega) only [c5.cell, ↓SXd, SXu, slBounds, ↓sop, ↓aop, ↓reduceIte, LV.cells, AOp.dst, LV.I, LV.B, LV.U, LV.S, LV.nil, Nat.reduceEqDiff, Nat.reduceAdd, Nat.reduceMul, Nat.reduceSub, Nat.reduceLeDiff, Nat.reduceBEq, Nat.reduceDiv, Nat.reduceMod, Int.reduceToNat, Int.reduceLT, Int.reduceLE, Int.reduceAdd, Int.reduceSub, Int.reduceMul, Int.reduceEq, Int.reduceNeg, reduceCtorEq, resV, resAll, ARes.ev, LV.flat, ite_true, ite_false, exists_eq_left', exists_eq_left, keyOf, implies_true, fillC, capOf]
    refine callK_of (h_l1Least) ?_
    simp (disch := omega) only [↓SXd, SXu, slBounds, ↓sop, ↓aop, ↓reduceIte, LV.cells, AOp.dst, LV.I, LV.B, LV.U, LV.S, LV.nil, Nat.reduceEqDiff, Nat.reduceAdd, Nat.reduceMul, Nat.reduceSub, Nat.reduceLeDiff, Nat.reduceBEq, Nat.reduceDiv, Nat.reduceMod, Int.reduceToNat, Int.reduceLT, Int.reduceLE, Int.reduceAdd, Int.reduceSub, Int.reduceMul, Int.reduceEq, Int.reduceNeg, reduceCtorEq, resV, resAll, ARes.ev, LV.flat, ite_true, ite_false, exists_eq_left', exists_eq_left, keyOf, implies_true, fillC, capOf]
    refine callK_of (h_l1Most) ?_
    simp (disch := omega) only [c5.cells, ↓SXd, SXu, slBounds, ↓sop, ↓aop, ↓reduceIte, LV.cells, AOp.dst, LV.I, LV.B, LV.U, LV.S, LV.nil, Nat.reduceEqDiff, Nat.reduceAdd, Nat.reduceMul, Nat.reduceSub, Nat.reduceLeDiff, Nat.reduceBEq, Nat.reduceDiv, Nat.reduceMod, Int.reduceToNat, Int.reduceLT, Int.reduceLE, Int.reduceAdd, Int.reduceSub, Int.reduceMul, Int.reduceEq, Int.reduceNeg, reduceCtorEq, resV, resAll, ARes.ev, LV.flat, ite_true, ite_false, exists_eq_left', exists_eq_left, keyOf, implies_true, fillC, capOf]
    refine memK_box c2 (by simp) fun N5 i1 i2 i3 => ?_
    simp (disch := omega) only [i2.cells, ↓SXd, SXu, slBounds, ↓sop, ↓aop, ↓reduceIte, LV.cells, AOp.dst, LV.I, LV.B, LV.U, LV.S, LV.nil, Nat.reduceEqDiff, Nat.reduceAdd, Nat.reduceMul, Nat.reduceSub, Nat.reduceLeDiff, Nat.reduceBEq, Nat.reduceDiv, Nat.reduceMod, Int.reduceToNat, Int.reduceLT, Int.reduceLE, Int.reduceAdd, Int.reduceSub, Int.reduceMul, Int.reduceEq, Int.reduceNeg, reduceCtorEq, resV, resAll, ARes.ev, LV.flat, ite_true, ite_false, exists_eq_left', exists_eq_left, keyOf, implies_true, fillC, capOf]
    exact ⟨⟨_, _, _, _, rfl, x, y, z, cs, u, rfl, live_step cu (by omega) i3, by omega, hcl⟩, pre_step hP3 (by omega) (j := 0) i1 i3⟩
theorem d_DrawShiftHeap : CallsR PG F.spec_DrawShiftHeap [.ref t o bs.length] M fun v N => (∃ (hv : LV) (p : Cell), v = .tup [hv, .agg [.I p.a, .I p.b, .I p.c]] ∧ HeapE M hv N) ∧ Pre M N := by
  have htM := hB.lt
  refine callsR_run K.spec_DrawShiftHeap rfl ?_
  simp (disch := omega) only [C.spec_DrawShiftHeap, splice, ↓SXd, SXu, slBounds, ↓sop, ↓aop, ↓reduceIte, LV.cells, AOp.dst, LV.I, LV.B, LV.U, LV.S, LV.nil, Nat.reduceEqDiff, Nat.reduceAdd, Nat.reduceMul, Nat.reduceSub, Nat.reduceLeDiff, Nat.reduceBEq, Nat.reduceDiv, Nat.reduceMod, Int.reduceToNat, Int.reduceLT, Int.reduceLE, Int.reduceAdd, Int.reduceSub, Int.reduceMul, Int.reduceEq, Int.reduceNeg, reduceCtorEq, resV, resAll, ARes.ev, LV.flat, ite_true, ite_false, exists_eq_left', exists_eq_left, keyOf, implies_true, fillC, capOf]
  have hc := CurAt.new3 (b := some (.row [.I 0, .I 0, .I 0, .nil] true 0)) (c := some (.row [.I 0, .I 0, .I 0] true 0)) hB h255 hl
  refine callR_of (d_heapE hc (by omega)) ?_
  rintro _ N1 ⟨⟨x, y, z, cs, u, rfl, hu, hul, hcl⟩, hd1⟩
  rw [List.length_append] at hul
  simp only [List.length_cons, List.length_nil] at hul
  have b2 : Live N1 M.length (.row [.I 0, .I 0, .I 0, .nil] true 0) := hd1.live Live.new (by omega)
  have b3 : Live N1 (M.length + 1) (.row [.I 0, .I 0, .I 0] true 0) := hd1.live (Live.newj (j := 1) rfl) (by omega)
  have hP1 : Pre M N1 := hd1.pre (Pre.app _ _) (by omega)
  have b2l := b3.lt
  have hull := hu.lt
  have hlN := hd1.2.1
  simp only [List.length_append, List.length_cons, List.length_nil] at hlN
  simp (disch := omega) only [splice, ↓SXd, SXu, slBounds, ↓sop, ↓aop, ↓reduceIte, LV.cells, AOp.dst, LV.I, LV.B, LV.U, LV.S, LV.nil, Nat.reduceEqDiff, Nat.reduceAdd, Nat.reduceMul, Nat.reduceSub, Nat.reduceLeDiff, Nat.reduceBEq, Nat.reduceDiv, Nat.reduceMod, Int.reduceToNat, Int.reduceLT, Int.reduceLE, Int.reduceAdd, Int.reduceSub, Int.reduceMul, Int.reduceEq, Int.reduceNeg, reduceCtorEq, resV, resAll, ARes.ev, LV.flat, ite_true, ite_false, exists_eq_left', exists_eq_left, keyOf, implies_true, fillC, capOf]
  have hc1 : CurAt (N1 ++ [some (.row [.I x, .I y, .I z, .ref u 0 cs.length] true 0), some (.row [.I 0, .I 0, .I 0] true 0)]) (M.length + 2) t o bs 160 := hd1.1.pre (Pre.app _ _)
  refine ev_loop (fun m fr M' => ∃ (i a : Nat) (p : Cell), i + m = 3 ∧ a + 2 * m ≤ 166 ∧ CurAt M' (M.length + 2) t o bs a ∧ Pre M M' ∧ Live M' M.length (.row [.I 0, .I 0, .I 0, .nil] true 0) ∧ Live M' (M.length + 1) (.row [.I 0, .I 0, .I 0] true 0) ∧ Live M' N1.length (.row [.I x, .I y, .I z, .ref u 0 cs.length] true 0) ∧ Live M' (N1.length + 1) (.row p.row true 0) ∧ Live M' u (.row (triL cs) true 3) ∧
    fr 2 = .ptr M.length 0 ∧ fr 3 = .ptr (M.length + 1) 0 ∧ fr 4 = .ptr (M.length + 2) 0 ∧ fr 5 = .ptr N1.length 0 ∧ fr 6 = .ptr (N1.length + 1) 0 ∧ fr 7 = .I i) 3
    ⟨0, 160, ⟨0, 0, 0⟩, rfl, by omega, hc1, hP1.trans (Pre.app _ _), b2.app, b3.app, Live.new, Live.newj (j := 1) rfl, hu.app, rfl, rfl, rfl, rfl, rfl, rfl⟩ ?_
  clear hc1 hc b2 b3 hu
  rintro m fr M' ⟨i, a, p, hi, ha, hcur, hpre, b2, b3, b5, b6, hu, f2, f3, f4, f5, f6, f7⟩
  have hl6 := b6.lt
  simp (disch := omega) only [f2, f3, f4, f5, f6, f7, ↓SXd, SXu, slBounds, ↓sop, ↓aop, ↓reduceIte, LV.cells, AOp.dst, LV.I, LV.B, LV.U, LV.S, LV.nil, Nat.reduceEqDiff, Nat.reduceAdd, Nat.reduceMul, Nat.reduceSub, Nat.reduceLeDiff, Nat.reduceBEq, Nat.reduceDiv, Nat.reduceMod, Int.reduceToNat, Int.reduceLT, Int.reduceLE, Int.reduceAdd, Int.reduceSub, Int.reduceMul, Int.reduceEq, Int.reduceNeg, reduceCtorEq, resV, resAll, ARes.ev, LV.flat, ite_true, ite_false, exists_eq_left', exists_eq_left, keyOf, implies_true, fillC, capOf]
  refine condC_dec (fun hlt => ?_) (fun hlt => ?_)
  · have hi3 : i < 3 := by omega
    simp (disch := omega) only [f2, f3, f4, f5, f6, f7, splice, ↓SXd, SXu, slBounds, ↓sop, ↓aop, ↓reduceIte, LV.cells, AOp.dst, LV.I, LV.B, LV.U, LV.S, LV.nil, Nat.reduceEqDiff, Nat.reduceAdd, Nat.reduceMul, Nat.reduceSub, Nat.reduceLeDiff, Nat.reduceBEq, Nat.reduceDiv, Nat.reduceMod, Int.reduceToNat, Int.reduceLT, Int.reduceLE, Int.reduceAdd, Int.reduceSub, Int.reduceMul, Int.reduceEq, Int.reduceNeg, reduceCtorEq, resV, resAll, ARes.ev, LV.flat, ite_true, ite_false, exists_eq_left', exists_eq_left, keyOf, implies_true, fillC, capOf]
    refine callR_of (d_amongNew (xs := [0, 0, 1, -1, 0, 2, -4, 5]) hcur (by omega) (by simp) (by simp)) ?_
    rintro _ N2 ⟨⟨b, rfl, _⟩, hd2⟩
    have c2 := hd2.live b2 (by omega)
    have c3 := hd2.live b3 (by omega)
    have c5 := hd2.live b5 (by omega)
    have c6 := hd2.live b6 (by omega)
    have cu := hd2.live hu (by omega)
    have hP2 : Pre M N2 := hd2.pre hpre (by omega)
    simp (disch := omega) only [f2, f3, f4, f5, f6, f7, Nat.mul_one, Nat.zero_add, ↓SXd, SXu, slBounds, ↓sop, ↓aop, ↓reduceIte, LV.cells, AOp.dst, LV.I, LV.B, LV.U, LV.S, LV.nil, Nat.reduceEqDiff, Nat.reduceAdd, Nat.reduceMul, Nat.reduceSub, Nat.reduceLeDiff, Nat.reduceBEq, Nat.reduceDiv, Nat.reduceMod, Int.reduceToNat, Int.reduceLT, Int.reduceLE, Int.reduceAdd, Int.reduceSub, Int.reduceMul, Int.reduceEq, Int.reduceNeg, reduceCtorEq, resV, resAll, ARes.ev, LV.flat, ite_true, ite_false, exists_eq_left', exists_eq_left, keyOf, implies_true, fillC, capOf]
    refine memK_at c6 (show i < 3 from hi3) fun N3 k1 k2 k3 => ?_
    obtain ⟨p', hp'⟩ : ∃ p' : Cell, p.row.set i (.I b) = p'.row := by
      rcases (show i = 0 ∨ i = 1 ∨ i = 2 by omega) with rfl | rfl | rfl
      · exact ⟨⟨b, p.b, p.c⟩, rfl⟩
      · exact ⟨⟨p.a, b, p.c⟩, rfl⟩
      · exact ⟨⟨p.a, p.b, b⟩, rfl⟩
    rw [hp'] at k2
    simp (disch := omega) only [f2, f3, f4, f5, f6, f7, ↓SXd, SXu, slBounds, ↓sop, ↓aop, ↓reduceIte, LV.cells, AOp.dst, LV.I, LV.B, LV.U, LV.S, LV.nil, Nat.reduceEqDiff, Nat.reduceAdd, Nat.reduceMul, Nat.reduceSub, Nat.reduceLeDiff, Nat.reduceBEq, Nat.reduceDiv, Nat.reduceMod, Int.reduceToNat, Int.reduceLT, Int.reduceLE, Int.reduceAdd, Int.reduceSub, Int.reduceMul, Int.reduceEq, Int.reduceNeg, reduceCtorEq, resV, resAll, ARes.ev, LV.flat, ite_true, ite_false, exists_eq_left', exists_eq_left, keyOf, implies_true, fillC, capOf]
    exact ⟨m - 1, by omega, i + 1, a + 2, p', by omega, by omega, hd2.1.stepped (by omega) (by omega) k3, pre_step hP2 (by omega) (j := 0) k1 k3, live_step c2 (by omega) k3, live_step c3 (by omega) k3, live_step c5 (by omega) k3, k2, live_step cu (by omega) k3, f2, f3, f4, f5, f6, eqI (natI _)⟩
  · simp (disch := omega) only [f2, f3, f4, f5, f6, f7, b5.cells, ↓SXd, SXu, slBounds, ↓sop, ↓aop, ↓reduceIte, LV.cells, AOp.dst, LV.I, LV.B, LV.U, LV.S, LV.nil, Nat.reduceEqDiff, Nat.reduceAdd, Nat.reduceMul, Nat.reduceSub, Nat.reduceLeDiff, Nat.reduceBEq, Nat.reduceDiv, Nat.reduceMod, Int.reduceToNat, Int.reduceLT, Int.reduceLE, Int.reduceAdd, Int.reduceSub, Int.reduceMul, Int.reduceEq, Int.reduceNeg, reduceCtorEq, resV, resAll, ARes.ev, LV.flat, ite_true, ite_false, exists_eq_left', exists_eq_left, keyOf, implies_true, fillC, capOf]
    refine callK_of (h_l2Heap hu.has (by omega)) ?_
    simp (disch := omega) only [f2, f3, f4, f5, f6, f7, b5.cell, ↓SXd, SXu, slBounds, ↓sop, ↓aop, ↓reduceIte, LV.cells, AOp.dst, LV.I, LV.B, LV.U, LV.S, LV.nil, Nat.reduceEqDiff, Nat.reduceAdd, Nat.reduceMul, Nat.reduceSub, Nat.reduceLeDiff, Nat.reduceBEq, Nat.reduceDiv, Nat.reduceMod, Int.reduceToNat, Int.reduceLT, Int.reduceLE, Int.reduceAdd, Int.reduceSub, Int.reduceMul, Int.reduceEq, Int.reduceNeg, reduceCtorEq, resV, resAll, ARes.ev, LV.flat, ite_true, ite_false, exists_eq_left', exists_eq_left, keyOf, implies_true, fillC, capOf]
    refine guard_cut (fun fr' N => ∃ (x y z : Int) (cs : List Cell) (u : Nat), Pre M N ∧ Live N M.length (.row [.I 0, .I 0, .I 0, .nil] true 0) ∧ Live N (M.length + 1) (.row [.I 0, .I 0, .I 0] true 0) ∧ Live N N1.length (.row [.I x, .I y, .I z, .ref u 0 cs.length] true 0) ∧ Live N (N1.length + 1) (.row p.row true 0) ∧ Live N u (.row (triL cs) true 3) ∧ M.length + 2 < u ∧ cs.length ≤ 65 ∧
      fr' 2 = .ptr M.length 0 ∧ fr' 3 = .ptr (M.length + 1) 0 ∧ fr' 5 = .ptr N1.length 0 ∧ fr' 6 = .ptr (N1.length + 1) 0) ?_ ?_
    · by_cases hH : HeapOK x y z cs
      rotate_left
      · simp (disch := omega) only [f2, f3, f4, f5, f6, f7, hH, ↓SXd, SXu, slBounds, ↓sop, ↓aop, ↓reduceIte, LV.cells, AOp.dst, LV.I, LV.B, LV.U, LV.S, LV.nil, Nat.reduceEqDiff, Nat.reduceAdd, Nat.reduceMul, Nat.reduceSub, Nat.reduceLeDiff, Nat.reduceBEq, Nat.reduceDiv, Nat.reduceMod, Int.reduceToNat, Int.reduceLT, Int.reduceLE, Int.reduceAdd, Int.reduceSub, Int.reduceMul, Int.reduceEq, Int.reduceNeg, reduceCtorEq, resV, resAll, ARes.ev, LV.flat, ite_true, ite_false, exists_eq_left', exists_eq_left, keyOf, implies_true, fillC, capOf]
        exact ⟨x, y, z, cs, u, hpre, b2, b3, b5, b6, hu, by omega, hcl⟩
      by_cases h0 : (0 : Int) < ((cs.length : Nat) : Int)
      rotate_left
      · simp (disch := omega) only [f2, f3, f4, f5, f6, f7, hH, b5.cell, h0, ↓SXd, SXu, slBounds, ↓sop, ↓aop, ↓reduceIte, LV.cells, AOp.dst, LV.I, LV.B, LV.U, LV.S, LV.nil, Nat.reduceEqDiff, Nat.reduceAdd, Nat.reduceMul, Nat.reduceSub, Nat.reduceLeDiff, Nat.reduceBEq, Nat.reduceDiv, Nat.reduceMod, Int.reduceToNat, Int.reduceLT, Int.reduceLE, Int.reduceAdd, Int.reduceSub, Int.reduceMul, Int.reduceEq, Int.reduceNeg, reduceCtorEq, resV, resAll, ARes.ev, LV.flat, ite_true, ite_false, exists_eq_left', exists_eq_left, keyOf, implies_true, fillC, capOf]
        exact ⟨x, y, z, cs, u, hpre, b2, b3, b5, b6, hu, by omega, hcl⟩
      simp (disch := omega) only [f2, f3, f4, f5, f6, f7, hH, b5.cell, h0, ↓SXd, SXu, slBounds, ↓sop, ↓aop, ↓reduceIte, LV.cells, AOp.dst, LV.I, LV.B, LV.U, LV.S, LV.nil, Nat.reduceEqDiff, Nat.reduceAdd, Nat.reduceMul, Nat.reduceSub, Nat.reduceLeDiff, Nat.reduceBEq, Nat.reduceDiv, Nat.reduceMod, Int.reduceToNat, Int.reduceLT, Int.reduceLE, Int.reduceAdd, Int.reduceSub, Int.reduceMul, Int.reduceEq, Int.reduceNeg, reduceCtorEq, resV, resAll, ARes.ev, LV.flat, ite_true, ite_false, exists_eq_left', exists_eq_left, keyOf, implies_true, fillC, capOf]
      refine callR_of (d_one hcur (by omega)) ?_
      rintro _ N2 ⟨⟨b, rfl⟩, hd2⟩
      have c2 := hd2.live b2 (by omega)
      have c3 := hd2.live b3 (by omega)
      have c5 := hd2.live b5 (by omega)
      have c6 := hd2.live b6 (by omega)
      have cu := hd2.live hu (by omega)
      have hP2 : Pre M N2 := hd2.pre hpre (by omega)
      cases b
      · simp (disch := omega) only [f2, f3, f4, f5, f6, f7, ↓SXd, SXu, slBounds, ↓sop, ↓aop, ↓reduceIte, LV.cells, AOp.dst, LV.I, LV.B, LV.U, LV.S, LV.nil, Nat.reduceEqDiff, Nat.reduceAdd, Nat.reduceMul, Nat.reduceSub, Nat.reduceLeDiff, Nat.reduceBEq, Nat.reduceDiv, Nat.reduceMod, Int.reduceToNat, Int.reduceLT, Int.reduceLE, Int.reduceAdd, Int.reduceSub, Int.reduceMul, Int.reduceEq, Int.reduceNeg, reduceCtorEq, resV, resAll, ARes.ev, LV.flat, ite_true, ite_false, exists_eq_left', exists_eq_left, keyOf, implies_true, fillC, capOf]
        exact ⟨x, y, z, cs, u, hP2, c2, c3, c5, c6, cu, by omega, hcl⟩
      · simp (disch := omega) only [f2, f3, f4, f5, f6, f7, c5.cells, ↓SXd, SXu, slBounds, ↓sop, ↓aop, ↓reduceIte, LV.cells, AOp.dst, LV.I, LV.B, LV.U, LV.S, LV.nil, Nat.reduceEqDiff, Nat.reduceAdd, Nat.reduceMul, Nat.reduceSub, Nat.reduceLeDiff, Nat.reduceBEq, Nat.reduceDiv, Nat.reduceMod, Int.reduceToNat, Int.reduceLT, Int.reduceLE, Int.reduceAdd, Int.reduceSub, Int.reduceMul, Int.reduceEq, Int.reduceNeg, reduceCtorEq, resV, resAll, ARes.ev, LV.flat, ite_true, ite_false, exists_eq_left', exists_eq_left, keyOf, implies_true, fillC, capOf]
        refine callH_of (h_l2Cropped cu.has (by omega) (by omega) (cells_small hH)) ?_
        intro u3 N3 hu3 hp3 hb3
        have hN2 := hd2.2.1
        have c5l := c5.lt
        have c6l := c6.lt
        have hM2 := hP2.1
        have hle : (cropHp cs).cs.length ≤ 65 := by rw [cropHp_len]; omega
        simp (disch := omega) only [f2, f3, f4, f5, f6, f7, ↓SXd, SXu, slBounds, ↓sop, ↓aop, ↓reduceIte, LV.cells, AOp.dst, LV.I, LV.B, LV.U, LV.S, LV.nil, Nat.reduceEqDiff, Nat.reduceAdd, Nat.reduceMul, Nat.reduceSub, Nat.reduceLeDiff, Nat.reduceBEq, Nat.reduceDiv, Nat.reduceMod, Int.reduceToNat, Int.reduceLT, Int.reduceLE, Int.reduceAdd, Int.reduceSub, Int.reduceMul, Int.reduceEq, Int.reduceNeg, reduceCtorEq, resV, resAll, ARes.ev, LV.flat, ite_true, ite_false, exists_eq_left', exists_eq_left, keyOf, implies_true, fillC, capOf]
        refine memK_box (c5.pre hp3) (by simp) fun N4 k1 k2 k3 => ?_
        simp (disch := omega) only [f2, f3, f4, f5, f6, f7, ↓SXd, SXu, slBounds, ↓sop, ↓aop, ↓reduceIte, LV.cells, AOp.dst, LV.I, LV.B, LV.U, LV.S, LV.nil, Nat.reduceEqDiff, Nat.reduceAdd, Nat.reduceMul, Nat.reduceSub, Nat.reduceLeDiff, Nat.reduceBEq, Nat.reduceDiv, Nat.reduceMod, Int.reduceToNat, Int.reduceLT, Int.reduceLE, Int.reduceAdd, Int.reduceSub, Int.reduceMul, Int.reduceEq, Int.reduceNeg, reduceCtorEq, resV, resAll, ARes.ev, LV.flat, ite_true, ite_false, exists_eq_left', exists_eq_left, keyOf, implies_true, fillC, capOf]
        refine memK_at k2 (show 0 < 4 by omega) fun N5 j1 j2 j3 => ?_
        have hN3 := hp3.1
        have hb3l := hb3.lt
        simp (disch := omega) only [f2, f3, f4, f5, f6, f7, ↓SXd, SXu, slBounds, ↓sop, ↓aop, ↓reduceIte, LV.cells, AOp.dst, LV.I, LV.B, LV.U, LV.S, LV.nil, Nat.reduceEqDiff, Nat.reduceAdd, Nat.reduceMul, Nat.reduceSub, Nat.reduceLeDiff, Nat.reduceBEq, Nat.reduceDiv, Nat.reduceMod, Int.reduceToNat, Int.reduceLT, Int.reduceLE, Int.reduceAdd, Int.reduceSub, Int.reduceMul, Int.reduceEq, Int.reduceNeg, reduceCtorEq, resV, resAll, ARes.ev, LV.flat, ite_true, ite_false, exists_eq_left', exists_eq_left, keyOf, implies_true, fillC, capOf]
        exact ⟨_, _, _, _, u3, pre_step (pre_step (hP2.trans hp3) (by omega) (j := 0) k1 k3) (by omega) (j := 0) j1 j3, live_step (live_step (c2.pre hp3) (by omega) k3) (by omega) j3, live_step (live_step (c3.pre hp3) (by omega) k3) (by omega) j3, j2, live_step (live_step (c6.pre hp3) (by omega) k3) (by omega) j3, live_step (live_step hb3 (by omega) k3) (by omega) j3, by omega, hle⟩
    · clear f2 f3 f4 f5 f6 f7 hcur hpre b2 b3 b5 b6 hu hul hcl hull
      rintro fr N ⟨x, y, z, cs, u, hpre, b2, b3, b5, b6, hu, hul, hcl, f2, f3, f5, f6⟩
      simp (disch := omega) only [f2, f3, f5, f6, b5.cells, b6.cells, Cell.row, ↓SXd, SXu, slBounds, ↓sop, ↓aop, ↓reduceIte, LV.cells, AOp.dst, LV.I, LV.B, LV.U, LV.S, LV.nil, Nat.reduceEqDiff, Nat.reduceAdd, Nat.reduceMul, Nat.reduceSub, Nat.reduceLeDiff, Nat.reduceBEq, Nat.reduceDiv, Nat.reduceMod, Int.reduceToNat, Int.reduceLT, Int.reduceLE, Int.reduceAdd, Int.reduceSub, Int.reduceMul, Int.reduceEq, Int.reduceNeg, reduceCtorEq, resV, resAll, ARes.ev, LV.flat, ite_true, ite_false, exists_eq_left', exists_eq_left, keyOf, implies_true, fillC, capOf]
      refine memK_box b2 (by simp) fun N5 i1 i2 i3 => ?_
      simp (disch := omega) only [f2, f3, f5, f6, ↓SXd, SXu, slBounds, ↓sop, ↓aop, ↓reduceIte, LV.cells, AOp.dst, LV.I, LV.B, LV.U, LV.S, LV.nil, Nat.reduceEqDiff, Nat.reduceAdd, Nat.reduceMul, Nat.reduceSub, Nat.reduceLeDiff, Nat.reduceBEq, Nat.reduceDiv, Nat.reduceMod, Int.reduceToNat, Int.reduceLT, Int.reduceLE, Int.reduceAdd, Int.reduceSub, Int.reduceMul, Int.reduceEq, Int.reduceNeg, reduceCtorEq, resV, resAll, ARes.ev, LV.flat, ite_true, ite_false, exists_eq_left', exists_eq_left, keyOf, implies_true, fillC, capOf]
      have b3' := live_step b3 (by omega) i3
      refine ⟨fun b hb => by rw [i3 _ (by omega) b6.lt]; exact hb, ?_⟩
      refine memK_box b3' (by simp) fun N6 j1 j2 j3 => ?_
      have i2' := live_step i2 (by omega) j3
      simp (disch := omega) only [f2, f3, f5, f6, i2'.cells, j2.cells, ↓SXd, SXu, slBounds, ↓sop, ↓aop, ↓reduceIte, LV.cells, AOp.dst, LV.I, LV.B, LV.U, LV.S, LV.nil, Nat.reduceEqDiff, Nat.reduceAdd, Nat.reduceMul, Nat.reduceSub, Nat.reduceLeDiff, Nat.reduceBEq, Nat.reduceDiv, Nat.reduceMod, Int.reduceToNat, Int.reduceLT, Int.reduceLE, Int.reduceAdd, Int.reduceSub, Int.reduceMul, Int.reduceEq, Int.reduceNeg, reduceCtorEq, resV, resAll, ARes.ev, LV.flat, ite_true, ite_false, exists_eq_left', exists_eq_left, keyOf, implies_true, fillC, capOf]
      exact ⟨⟨_, p, rfl, x, y, z, cs, u, rfl, live_step (live_step hu (by omega) i3) (by omega) j3, by omega, hcl⟩, pre_step (pre_step hpre (by omega) (j := 0) i1 i3) (by omega) (j := 0) j1 j3⟩
end
end Go.Ab
