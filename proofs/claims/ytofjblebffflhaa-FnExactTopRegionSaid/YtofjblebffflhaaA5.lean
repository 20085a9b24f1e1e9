/- Parts of the proof of FnExactTopRegionSaid: Ea Eb Mb Mc Md Ec Ed Ee Ef. -/
import Derived.Test.YtofjblebffflhaaA3
import Derived.Test.YtofjblebffflhaaA4
import Derived.Laws.Bits64
set_option linter.all false
/- Contracts: the program's boxes, cells, valid heaps. -/
namespace Go.Ab
open Go
set_option linter.unusedSimpArgs false
set_option linter.unusedVariables false

theorem g_within {n lo hi : Int} {M : Mem} : CallsTo PG F.impl_within [.I n, .I lo, .I hi] M (.B (decide (lo ≤ n ∧ n ≤ hi))) M := by
  refine calls_run K.impl_within rfl ?_
  simp (disch := omega) only [C.impl_within, ↓SXd, SXu, slBounds, ↓sop, ↓aop, ↓reduceIte, LV.cells, AOp.dst, LV.I, LV.B, LV.U, LV.S, LV.nil, Nat.reduceEqDiff, Nat.reduceAdd, Nat.reduceMul, Nat.reduceSub, Nat.reduceLeDiff, Nat.reduceBEq, Nat.reduceDiv, Nat.reduceMod, Int.reduceToNat, Int.reduceLT, Int.reduceLE, Int.reduceAdd, Int.reduceSub, Int.reduceMul, Int.reduceEq, Int.reduceNeg, reduceCtorEq, resV, resAll, ARes.ev, LV.flat, ite_true, ite_false, exists_eq_left', exists_eq_left, keyOf, implies_true, fillC]
  by_cases h1 : lo ≤ n
  · simp (disch := omega) only [h1, ↓SXd, SXu, slBounds, ↓sop, ↓aop, ↓reduceIte, LV.cells, AOp.dst, LV.I, LV.B, LV.U, LV.S, LV.nil, Nat.reduceEqDiff, Nat.reduceAdd, Nat.reduceMul, Nat.reduceSub, Nat.reduceLeDiff, Nat.reduceBEq, Nat.reduceDiv, Nat.reduceMod, Int.reduceToNat, Int.reduceLT, Int.reduceLE, Int.reduceAdd, Int.reduceSub, Int.reduceMul, Int.reduceEq, Int.reduceNeg, reduceCtorEq, resV, resAll, ARes.ev, LV.flat, ite_true, ite_false, exists_eq_left', exists_eq_left, keyOf, implies_true, fillC]
    exact cmp_drop0 rfl
  · simp (disch := omega) only [h1, ↓SXd, SXu, slBounds, ↓sop, ↓aop, ↓reduceIte, LV.cells, AOp.dst, LV.I, LV.B, LV.U, LV.S, LV.nil, Nat.reduceEqDiff, Nat.reduceAdd, Nat.reduceMul, Nat.reduceSub, Nat.reduceLeDiff, Nat.reduceBEq, Nat.reduceDiv, Nat.reduceMod, Int.reduceToNat, Int.reduceLT, Int.reduceLE, Int.reduceAdd, Int.reduceSub, Int.reduceMul, Int.reduceEq, Int.reduceNeg, reduceCtorEq, resV, resAll, ARes.ev, LV.flat, ite_true, ite_false, exists_eq_left', exists_eq_left, keyOf, implies_true, fillC]
    exact cmp_drop0 rfl

theorem g_box {x y z : Int} {v : LV} {M : Mem} : CallsTo PG F.impl_Heap_box [.agg [.I x, .I y, .I z, v]] M (.agg [.I x, .I y, .I z]) M := by
  refine calls_run K.impl_Heap_box rfl ?_
  simp (disch := omega) only [C.impl_Heap_box, ↓SXd, SXu, slBounds, ↓sop, ↓aop, ↓reduceIte, LV.cells, AOp.dst, LV.I, LV.B, LV.U, LV.S, LV.nil, Nat.reduceEqDiff, Nat.reduceAdd, Nat.reduceMul, Nat.reduceSub, Nat.reduceLeDiff, Nat.reduceBEq, Nat.reduceDiv, Nat.reduceMod, Int.reduceToNat, Int.reduceLT, Int.reduceLE, Int.reduceAdd, Int.reduceSub, Int.reduceMul, Int.reduceEq, Int.reduceNeg, reduceCtorEq, resV, resAll, ARes.ev, LV.flat, ite_true, ite_false, exists_eq_left', exists_eq_left, keyOf, implies_true, fillC]
  exact cmp_drop rfl

theorem g_valid {x y z : Int} {M : Mem} : CallsTo PG F.impl_box_valid [.agg [.I x, .I y, .I z]] M (.B (decide (Sides x y z))) M := by
  refine calls_run K.impl_box_valid rfl ?_
  simp (disch := omega) only [C.impl_box_valid, ↓SXd, SXu, slBounds, ↓sop, ↓aop, ↓reduceIte, LV.cells, AOp.dst, LV.I, LV.B, LV.U, LV.S, LV.nil, Nat.reduceEqDiff, Nat.reduceAdd, Nat.reduceMul, Nat.reduceSub, Nat.reduceLeDiff, Nat.reduceBEq, Nat.reduceDiv, Nat.reduceMod, Int.reduceToNat, Int.reduceLT, Int.reduceLE, Int.reduceAdd, Int.reduceSub, Int.reduceMul, Int.reduceEq, Int.reduceNeg, reduceCtorEq, resV, resAll, ARes.ev, LV.flat, ite_true, ite_false, exists_eq_left', exists_eq_left, keyOf, implies_true, fillC]
  refine callK_of g_within ?_
  simp (disch := omega) only [↓SXd, SXu, slBounds, ↓sop, ↓aop, ↓reduceIte, LV.cells, AOp.dst, LV.I, LV.B, LV.U, LV.S, LV.nil, Nat.reduceEqDiff, Nat.reduceAdd, Nat.reduceMul, Nat.reduceSub, Nat.reduceLeDiff, Nat.reduceBEq, Nat.reduceDiv, Nat.reduceMod, Int.reduceToNat, Int.reduceLT, Int.reduceLE, Int.reduceAdd, Int.reduceSub, Int.reduceMul, Int.reduceEq, Int.reduceNeg, reduceCtorEq, resV, resAll, ARes.ev, LV.flat, ite_true, ite_false, exists_eq_left', exists_eq_left, keyOf, implies_true, fillC]
  unfold Sides
  by_cases h1 : 1 ≤ x ∧ x ≤ 4
  · simp (disch := omega) only [h1, ↓SXd, SXu, slBounds, ↓sop, ↓aop, ↓reduceIte, LV.cells, AOp.dst, LV.I, LV.B, LV.U, LV.S, LV.nil, Nat.reduceEqDiff, Nat.reduceAdd, Nat.reduceMul, Nat.reduceSub, Nat.reduceLeDiff, Nat.reduceBEq, Nat.reduceDiv, Nat.reduceMod, Int.reduceToNat, Int.reduceLT, Int.reduceLE, Int.reduceAdd, Int.reduceSub, Int.reduceMul, Int.reduceEq, Int.reduceNeg, reduceCtorEq, resV, resAll, ARes.ev, LV.flat, ite_true, ite_false, exists_eq_left', exists_eq_left, keyOf, implies_true, fillC]
    refine callK_of g_within ?_
    simp (disch := omega) only [↓SXd, SXu, slBounds, ↓sop, ↓aop, ↓reduceIte, LV.cells, AOp.dst, LV.I, LV.B, LV.U, LV.S, LV.nil, Nat.reduceEqDiff, Nat.reduceAdd, Nat.reduceMul, Nat.reduceSub, Nat.reduceLeDiff, Nat.reduceBEq, Nat.reduceDiv, Nat.reduceMod, Int.reduceToNat, Int.reduceLT, Int.reduceLE, Int.reduceAdd, Int.reduceSub, Int.reduceMul, Int.reduceEq, Int.reduceNeg, reduceCtorEq, resV, resAll, ARes.ev, LV.flat, ite_true, ite_false, exists_eq_left', exists_eq_left, keyOf, implies_true, fillC]
    by_cases h2 : 1 ≤ y ∧ y ≤ 4
    · simp (disch := omega) only [h2, ↓SXd, SXu, slBounds, ↓sop, ↓aop, ↓reduceIte, LV.cells, AOp.dst, LV.I, LV.B, LV.U, LV.S, LV.nil, Nat.reduceEqDiff, Nat.reduceAdd, Nat.reduceMul, Nat.reduceSub, Nat.reduceLeDiff, Nat.reduceBEq, Nat.reduceDiv, Nat.reduceMod, Int.reduceToNat, Int.reduceLT, Int.reduceLE, Int.reduceAdd, Int.reduceSub, Int.reduceMul, Int.reduceEq, Int.reduceNeg, reduceCtorEq, resV, resAll, ARes.ev, LV.flat, ite_true, ite_false, exists_eq_left', exists_eq_left, keyOf, implies_true, fillC]
      refine callK_of g_within ?_
      simp (disch := omega) only [↓SXd, SXu, slBounds, ↓sop, ↓aop, ↓reduceIte, LV.cells, AOp.dst, LV.I, LV.B, LV.U, LV.S, LV.nil, Nat.reduceEqDiff, Nat.reduceAdd, Nat.reduceMul, Nat.reduceSub, Nat.reduceLeDiff, Nat.reduceBEq, Nat.reduceDiv, Nat.reduceMod, Int.reduceToNat, Int.reduceLT, Int.reduceLE, Int.reduceAdd, Int.reduceSub, Int.reduceMul, Int.reduceEq, Int.reduceNeg, reduceCtorEq, resV, resAll, ARes.ev, LV.flat, ite_true, ite_false, exists_eq_left', exists_eq_left, keyOf, implies_true, fillC]
      exact cmp_drop rfl
    · simp (disch := omega) only [h2, false_and, ↓SXd, SXu, slBounds, ↓sop, ↓aop, ↓reduceIte, LV.cells, AOp.dst, LV.I, LV.B, LV.U, LV.S, LV.nil, Nat.reduceEqDiff, Nat.reduceAdd, Nat.reduceMul, Nat.reduceSub, Nat.reduceLeDiff, Nat.reduceBEq, Nat.reduceDiv, Nat.reduceMod, Int.reduceToNat, Int.reduceLT, Int.reduceLE, Int.reduceAdd, Int.reduceSub, Int.reduceMul, Int.reduceEq, Int.reduceNeg, reduceCtorEq, resV, resAll, ARes.ev, LV.flat, ite_true, ite_false, exists_eq_left', exists_eq_left, keyOf, implies_true, fillC]
      exact cmp_drop rfl
  · simp (disch := omega) only [h1, false_and, ↓SXd, SXu, slBounds, ↓sop, ↓aop, ↓reduceIte, LV.cells, AOp.dst, LV.I, LV.B, LV.U, LV.S, LV.nil, Nat.reduceEqDiff, Nat.reduceAdd, Nat.reduceMul, Nat.reduceSub, Nat.reduceLeDiff, Nat.reduceBEq, Nat.reduceDiv, Nat.reduceMod, Int.reduceToNat, Int.reduceLT, Int.reduceLE, Int.reduceAdd, Int.reduceSub, Int.reduceMul, Int.reduceEq, Int.reduceNeg, reduceCtorEq, resV, resAll, ARes.ev, LV.flat, ite_true, ite_false, exists_eq_left', exists_eq_left, keyOf, implies_true, fillC]
    exact cmp_drop rfl

theorem g_has {x y z a b c : Int} {M : Mem} (hS : Sides x y z) : CallsTo PG F.impl_box_has [.agg [.I x, .I y, .I z], .agg [.I a, .I b, .I c]] M (.B (decide (Cell.inBox x y z ⟨a, b, c⟩))) M := by
  obtain ⟨hx, hy, hz⟩ := hS
  refine calls_run K.impl_box_has rfl ?_
  simp (disch := omega) only [C.impl_box_has, ↓SXd, SXu, slBounds, ↓sop, ↓aop, ↓reduceIte, LV.cells, AOp.dst, LV.I, LV.B, LV.U, LV.S, LV.nil, Nat.reduceEqDiff, Nat.reduceAdd, Nat.reduceMul, Nat.reduceSub, Nat.reduceLeDiff, Nat.reduceBEq, Nat.reduceDiv, Nat.reduceMod, Int.reduceToNat, Int.reduceLT, Int.reduceLE, Int.reduceAdd, Int.reduceSub, Int.reduceMul, Int.reduceEq, Int.reduceNeg, reduceCtorEq, resV, resAll, ARes.ev, LV.flat, ite_true, ite_false, exists_eq_left', exists_eq_left, keyOf, implies_true, fillC]
  refine callK_of g_within ?_
  simp (disch := omega) only [↓SXd, SXu, slBounds, ↓sop, ↓aop, ↓reduceIte, LV.cells, AOp.dst, LV.I, LV.B, LV.U, LV.S, LV.nil, Nat.reduceEqDiff, Nat.reduceAdd, Nat.reduceMul, Nat.reduceSub, Nat.reduceLeDiff, Nat.reduceBEq, Nat.reduceDiv, Nat.reduceMod, Int.reduceToNat, Int.reduceLT, Int.reduceLE, Int.reduceAdd, Int.reduceSub, Int.reduceMul, Int.reduceEq, Int.reduceNeg, reduceCtorEq, resV, resAll, ARes.ev, LV.flat, ite_true, ite_false, exists_eq_left', exists_eq_left, keyOf, implies_true, fillC]
  unfold Cell.inBox
  by_cases h1 : 0 ≤ a ∧ a ≤ x - 1
  · simp (disch := omega) only [h1, ↓SXd, SXu, slBounds, ↓sop, ↓aop, ↓reduceIte, LV.cells, AOp.dst, LV.I, LV.B, LV.U, LV.S, LV.nil, Nat.reduceEqDiff, Nat.reduceAdd, Nat.reduceMul, Nat.reduceSub, Nat.reduceLeDiff, Nat.reduceBEq, Nat.reduceDiv, Nat.reduceMod, Int.reduceToNat, Int.reduceLT, Int.reduceLE, Int.reduceAdd, Int.reduceSub, Int.reduceMul, Int.reduceEq, Int.reduceNeg, reduceCtorEq, resV, resAll, ARes.ev, LV.flat, ite_true, ite_false, exists_eq_left', exists_eq_left, keyOf, implies_true, fillC]
    refine callK_of g_within ?_
    simp (disch := omega) only [↓SXd, SXu, slBounds, ↓sop, ↓aop, ↓reduceIte, LV.cells, AOp.dst, LV.I, LV.B, LV.U, LV.S, LV.nil, Nat.reduceEqDiff, Nat.reduceAdd, Nat.reduceMul, Nat.reduceSub, Nat.reduceLeDiff, Nat.reduceBEq, Nat.reduceDiv, Nat.reduceMod, Int.reduceToNat, Int.reduceLT, Int.reduceLE, Int.reduceAdd, Int.reduceSub, Int.reduceMul, Int.reduceEq, Int.reduceNeg, reduceCtorEq, resV, resAll, ARes.ev, LV.flat, ite_true, ite_false, exists_eq_left', exists_eq_left, keyOf, implies_true, fillC]
    by_cases h2 : 0 ≤ b ∧ b ≤ y - 1
    · simp (disch := omega) only [h2, ↓SXd, SXu, slBounds, ↓sop, ↓aop, ↓reduceIte, LV.cells, AOp.dst, LV.I, LV.B, LV.U, LV.S, LV.nil, Nat.reduceEqDiff, Nat.reduceAdd, Nat.reduceMul, Nat.reduceSub, Nat.reduceLeDiff, Nat.reduceBEq, Nat.reduceDiv, Nat.reduceMod, Int.reduceToNat, Int.reduceLT, Int.reduceLE, Int.reduceAdd, Int.reduceSub, Int.reduceMul, Int.reduceEq, Int.reduceNeg, reduceCtorEq, resV, resAll, ARes.ev, LV.flat, ite_true, ite_false, exists_eq_left', exists_eq_left, keyOf, implies_true, fillC]
      refine callK_of g_within ?_
      simp (disch := omega) only [↓SXd, SXu, slBounds, ↓sop, ↓aop, ↓reduceIte, LV.cells, AOp.dst, LV.I, LV.B, LV.U, LV.S, LV.nil, Nat.reduceEqDiff, Nat.reduceAdd, Nat.reduceMul, Nat.reduceSub, Nat.reduceLeDiff, Nat.reduceBEq, Nat.reduceDiv, Nat.reduceMod, Int.reduceToNat, Int.reduceLT, Int.reduceLE, Int.reduceAdd, Int.reduceSub, Int.reduceMul, Int.reduceEq, Int.reduceNeg, reduceCtorEq, resV, resAll, ARes.ev, LV.flat, ite_true, ite_false, exists_eq_left', exists_eq_left, keyOf, implies_true, fillC]
      exact cmp_drop rfl
    · simp (disch := omega) only [h2, false_and, ↓SXd, SXu, slBounds, ↓sop, ↓aop, ↓reduceIte, LV.cells, AOp.dst, LV.I, LV.B, LV.U, LV.S, LV.nil, Nat.reduceEqDiff, Nat.reduceAdd, Nat.reduceMul, Nat.reduceSub, Nat.reduceLeDiff, Nat.reduceBEq, Nat.reduceDiv, Nat.reduceMod, Int.reduceToNat, Int.reduceLT, Int.reduceLE, Int.reduceAdd, Int.reduceSub, Int.reduceMul, Int.reduceEq, Int.reduceNeg, reduceCtorEq, resV, resAll, ARes.ev, LV.flat, ite_true, ite_false, exists_eq_left', exists_eq_left, keyOf, implies_true, fillC]
      exact cmp_drop rfl
  · simp (disch := omega) only [h1, false_and, ↓SXd, SXu, slBounds, ↓sop, ↓aop, ↓reduceIte, LV.cells, AOp.dst, LV.I, LV.B, LV.U, LV.S, LV.nil, Nat.reduceEqDiff, Nat.reduceAdd, Nat.reduceMul, Nat.reduceSub, Nat.reduceLeDiff, Nat.reduceBEq, Nat.reduceDiv, Nat.reduceMod, Int.reduceToNat, Int.reduceLT, Int.reduceLE, Int.reduceAdd, Int.reduceSub, Int.reduceMul, Int.reduceEq, Int.reduceNeg, reduceCtorEq, resV, resAll, ARes.ev, LV.flat, ite_true, ite_false, exists_eq_left', exists_eq_left, keyOf, implies_true, fillC]
    exact cmp_drop rfl

theorem g_isNaN {n : Int} {M : Mem} : CallsTo PG F.cmp_isNaN_int [.I n] M (.B false) M := by
  refine calls_run K.cmp_isNaN_int rfl ?_
  simp (disch := omega) only [C.cmp_isNaN_int, ↓SXd, SXu, slBounds, ↓sop, ↓aop, ↓reduceIte, LV.cells, AOp.dst, LV.I, LV.B, LV.U, LV.S, LV.nil, Nat.reduceEqDiff, Nat.reduceAdd, Nat.reduceMul, Nat.reduceSub, Nat.reduceLeDiff, Nat.reduceBEq, Nat.reduceDiv, Nat.reduceMod, Int.reduceToNat, Int.reduceLT, Int.reduceLE, Int.reduceAdd, Int.reduceSub, Int.reduceMul, Int.reduceEq, Int.reduceNeg, reduceCtorEq, resV, resAll, ARes.ev, LV.flat, ite_true, ite_false, exists_eq_left', exists_eq_left, keyOf, implies_true, fillC]
  exact cmp_drop0 rfl

def cmpI (a b : Int) : Int := if a < b then -1 else if b < a then 1 else 0
theorem g_cmp {a b : Int} {M : Mem} : CallsTo PG F.cmp_Compare_int [.I a, .I b] M (.I (cmpI a b)) M := by
  refine calls_run K.cmp_Compare_int rfl ?_
  simp (disch := omega) only [C.cmp_Compare_int, ↓SXd, SXu, slBounds, ↓sop, ↓aop, ↓reduceIte, LV.cells, AOp.dst, LV.I, LV.B, LV.U, LV.S, LV.nil, Nat.reduceEqDiff, Nat.reduceAdd, Nat.reduceMul, Nat.reduceSub, Nat.reduceLeDiff, Nat.reduceBEq, Nat.reduceDiv, Nat.reduceMod, Int.reduceToNat, Int.reduceLT, Int.reduceLE, Int.reduceAdd, Int.reduceSub, Int.reduceMul, Int.reduceEq, Int.reduceNeg, reduceCtorEq, resV, resAll, ARes.ev, LV.flat, ite_true, ite_false, exists_eq_left', exists_eq_left, keyOf, implies_true, fillC]
  refine callK_of g_isNaN ?_
  simp (disch := omega) only [↓SXd, SXu, slBounds, ↓sop, ↓aop, ↓reduceIte, LV.cells, AOp.dst, LV.I, LV.B, LV.U, LV.S, LV.nil, Nat.reduceEqDiff, Nat.reduceAdd, Nat.reduceMul, Nat.reduceSub, Nat.reduceLeDiff, Nat.reduceBEq, Nat.reduceDiv, Nat.reduceMod, Int.reduceToNat, Int.reduceLT, Int.reduceLE, Int.reduceAdd, Int.reduceSub, Int.reduceMul, Int.reduceEq, Int.reduceNeg, reduceCtorEq, resV, resAll, ARes.ev, LV.flat, ite_true, ite_false, exists_eq_left', exists_eq_left, keyOf, implies_true, fillC]
  refine callK_of g_isNaN ?_
  simp (disch := omega) only [↓SXd, SXu, slBounds, ↓sop, ↓aop, ↓reduceIte, LV.cells, AOp.dst, LV.I, LV.B, LV.U, LV.S, LV.nil, Nat.reduceEqDiff, Nat.reduceAdd, Nat.reduceMul, Nat.reduceSub, Nat.reduceLeDiff, Nat.reduceBEq, Nat.reduceDiv, Nat.reduceMod, Int.reduceToNat, Int.reduceLT, Int.reduceLE, Int.reduceAdd, Int.reduceSub, Int.reduceMul, Int.reduceEq, Int.reduceNeg, reduceCtorEq, resV, resAll, ARes.ev, LV.flat, ite_true, ite_false, exists_eq_left', exists_eq_left, keyOf, implies_true, fillC]
  refine condC_dec (fun h1 => ?_) (fun h1 => ?_) <;> simp (disch := omega) only [↓SXd, SXu, slBounds, ↓sop, ↓aop, ↓reduceIte, LV.cells, AOp.dst, LV.I, LV.B, LV.U, LV.S, LV.nil, Nat.reduceEqDiff, Nat.reduceAdd, Nat.reduceMul, Nat.reduceSub, Nat.reduceLeDiff, Nat.reduceBEq, Nat.reduceDiv, Nat.reduceMod, Int.reduceToNat, Int.reduceLT, Int.reduceLE, Int.reduceAdd, Int.reduceSub, Int.reduceMul, Int.reduceEq, Int.reduceNeg, reduceCtorEq, resV, resAll, ARes.ev, LV.flat, ite_true, ite_false, exists_eq_left', exists_eq_left, keyOf, implies_true, fillC]
  · rw [show cmpI a b = -1 by simp [cmpI, h1]]; exact cmp_drop0 rfl
  · refine condC_dec (fun h2 => ?_) (fun h2 => ?_) <;> simp (disch := omega) only [↓SXd, SXu, slBounds, ↓sop, ↓aop, ↓reduceIte, LV.cells, AOp.dst, LV.I, LV.B, LV.U, LV.S, LV.nil, Nat.reduceEqDiff, Nat.reduceAdd, Nat.reduceMul, Nat.reduceSub, Nat.reduceLeDiff, Nat.reduceBEq, Nat.reduceDiv, Nat.reduceMod, Int.reduceToNat, Int.reduceLT, Int.reduceLE, Int.reduceAdd, Int.reduceSub, Int.reduceMul, Int.reduceEq, Int.reduceNeg, reduceCtorEq, resV, resAll, ARes.ev, LV.flat, ite_true, ite_false, exists_eq_left', exists_eq_left, keyOf, implies_true, fillC]
    · rw [show cmpI a b = 1 by simp [cmpI, h1, h2]]; exact cmp_drop0 rfl
    · rw [show cmpI a b = 0 by simp [cmpI, h1, h2]]; exact cmp_drop0 rfl

/-- Two lists of numbers, compared. -/
def cmpL : List Int → List Int → Int
  | [], [] => 0
  | [], _ :: _ => -1
  | _ :: _, [] => 1
  | a :: r, b :: r' => if cmpI a b = 0 then cmpL r r' else cmpI a b

theorem g_compare {xs ys : List Int} {t o t' o' : Nat} {M : Mem} (h : Ints M t o xs) (h' : Ints M t' o' ys) (hn : xs.length ≤ 1000000000) (hn' : ys.length ≤ 1000000000) :
    CallsTo PG F.slices_Compare_Sint_int [.ref t o xs.length, .ref t' o' ys.length] M (.I (cmpL xs ys)) M := by
  refine calls_run K.slices_Compare_Sint_int rfl ?_
  simp (disch := omega) only [C.slices_Compare_Sint_int, ↓SXd, SXu, slBounds, ↓sop, ↓aop, ↓reduceIte, LV.cells, AOp.dst, LV.I, LV.B, LV.U, LV.S, LV.nil, Nat.reduceEqDiff, Nat.reduceAdd, Nat.reduceMul, Nat.reduceSub, Nat.reduceLeDiff, Nat.reduceBEq, Nat.reduceDiv, Nat.reduceMod, Int.reduceToNat, Int.reduceLT, Int.reduceLE, Int.reduceAdd, Int.reduceSub, Int.reduceMul, Int.reduceEq, Int.reduceNeg, reduceCtorEq, resV, resAll, ARes.ev, LV.flat, ite_true, ite_false, exists_eq_left', exists_eq_left, keyOf, implies_true, fillC]
  refine ev_loop (fun m fr M' => ∃ k : Nat, k + m = xs.length ∧ M' = M ∧ k ≤ ys.length ∧ fr 0 = .ref t o xs.length ∧ fr 1 = .ref t' o' ys.length ∧ fr 9 = .ref t o xs.length ∧ fr 10 = .I (xs.length : Nat) ∧ fr 11 = .I k ∧ cmpL xs ys = cmpL (xs.drop k) (ys.drop k)) xs.length
    ⟨0, by omega, rfl, by omega, rfl, rfl, rfl, rfl, rfl, rfl⟩ ?_
  rintro m fr M' ⟨k, hk, rfl, hky, h0, h1, h9, h10, h11, he⟩
  simp (disch := omega) only [h0, h1, h9, h10, h11, ↓SXd, SXu, slBounds, ↓sop, ↓aop, ↓reduceIte, LV.cells, AOp.dst, LV.I, LV.B, LV.U, LV.S, LV.nil, Nat.reduceEqDiff, Nat.reduceAdd, Nat.reduceMul, Nat.reduceSub, Nat.reduceLeDiff, Nat.reduceBEq, Nat.reduceDiv, Nat.reduceMod, Int.reduceToNat, Int.reduceLT, Int.reduceLE, Int.reduceAdd, Int.reduceSub, Int.reduceMul, Int.reduceEq, Int.reduceNeg, reduceCtorEq, resV, resAll, ARes.ev, LV.flat, ite_true, ite_false, exists_eq_left', exists_eq_left, keyOf, implies_true, fillC]
  refine condC_dec (fun hlt => ?_) (fun hlt => ?_)
  · have hx : xs.drop k = xs.getD k 0 :: xs.drop (k + 1) := by
      rw [List.drop_eq_getElem_cons (show k < xs.length by omega)]; simp [show k < xs.length by omega]
    simp (disch := omega) only [h0, h1, h9, h10, h11, Ints.get h, ↓SXd, SXu, slBounds, ↓sop, ↓aop, ↓reduceIte, LV.cells, AOp.dst, LV.I, LV.B, LV.U, LV.S, LV.nil, Nat.reduceEqDiff, Nat.reduceAdd, Nat.reduceMul, Nat.reduceSub, Nat.reduceLeDiff, Nat.reduceBEq, Nat.reduceDiv, Nat.reduceMod, Int.reduceToNat, Int.reduceLT, Int.reduceLE, Int.reduceAdd, Int.reduceSub, Int.reduceMul, Int.reduceEq, Int.reduceNeg, reduceCtorEq, resV, resAll, ARes.ev, LV.flat, ite_true, ite_false, exists_eq_left', exists_eq_left, keyOf, implies_true, fillC]
    refine condC_dec (fun h2 => ?_) (fun h2 => ?_)
    · simp (disch := omega) only [h0, h1, h9, h10, h11, ↓SXd, SXu, slBounds, ↓sop, ↓aop, ↓reduceIte, LV.cells, AOp.dst, LV.I, LV.B, LV.U, LV.S, LV.nil, Nat.reduceEqDiff, Nat.reduceAdd, Nat.reduceMul, Nat.reduceSub, Nat.reduceLeDiff, Nat.reduceBEq, Nat.reduceDiv, Nat.reduceMod, Int.reduceToNat, Int.reduceLT, Int.reduceLE, Int.reduceAdd, Int.reduceSub, Int.reduceMul, Int.reduceEq, Int.reduceNeg, reduceCtorEq, resV, resAll, ARes.ev, LV.flat, ite_true, ite_false, exists_eq_left', exists_eq_left, keyOf, implies_true, fillC]
      have : ys.drop k = [] := List.drop_eq_nil_of_le (by omega)
      rw [he, hx, this]; exact cmp_drop0 rfl
    · have hy : ys.drop k = ys.getD k 0 :: ys.drop (k + 1) := by
        rw [List.drop_eq_getElem_cons (show k < ys.length by omega)]; simp [show k < ys.length by omega]
      simp (disch := omega) only [h0, h1, h9, h10, h11, Ints.get h, Ints.get h', ↓SXd, SXu, slBounds, ↓sop, ↓aop, ↓reduceIte, LV.cells, AOp.dst, LV.I, LV.B, LV.U, LV.S, LV.nil, Nat.reduceEqDiff, Nat.reduceAdd, Nat.reduceMul, Nat.reduceSub, Nat.reduceLeDiff, Nat.reduceBEq, Nat.reduceDiv, Nat.reduceMod, Int.reduceToNat, Int.reduceLT, Int.reduceLE, Int.reduceAdd, Int.reduceSub, Int.reduceMul, Int.reduceEq, Int.reduceNeg, reduceCtorEq, resV, resAll, ARes.ev, LV.flat, ite_true, ite_false, exists_eq_left', exists_eq_left, keyOf, implies_true, fillC]
      refine callK_of g_cmp ?_
      simp (disch := omega) only [h0, h1, h9, h10, h11, ↓SXd, SXu, slBounds, ↓sop, ↓aop, ↓reduceIte, LV.cells, AOp.dst, LV.I, LV.B, LV.U, LV.S, LV.nil, Nat.reduceEqDiff, Nat.reduceAdd, Nat.reduceMul, Nat.reduceSub, Nat.reduceLeDiff, Nat.reduceBEq, Nat.reduceDiv, Nat.reduceMod, Int.reduceToNat, Int.reduceLT, Int.reduceLE, Int.reduceAdd, Int.reduceSub, Int.reduceMul, Int.reduceEq, Int.reduceNeg, reduceCtorEq, resV, resAll, ARes.ev, LV.flat, ite_true, ite_false, exists_eq_left', exists_eq_left, keyOf, implies_true, fillC]
      refine condC_dec (fun h3 => ?_) (fun h3 => ?_)
      · simp (disch := omega) only [h0, h1, h9, h10, h11, ↓SXd, SXu, slBounds, ↓sop, ↓aop, ↓reduceIte, LV.cells, AOp.dst, LV.I, LV.B, LV.U, LV.S, LV.nil, Nat.reduceEqDiff, Nat.reduceAdd, Nat.reduceMul, Nat.reduceSub, Nat.reduceLeDiff, Nat.reduceBEq, Nat.reduceDiv, Nat.reduceMod, Int.reduceToNat, Int.reduceLT, Int.reduceLE, Int.reduceAdd, Int.reduceSub, Int.reduceMul, Int.reduceEq, Int.reduceNeg, reduceCtorEq, resV, resAll, ARes.ev, LV.flat, ite_true, ite_false, exists_eq_left', exists_eq_left, keyOf, implies_true, fillC]
        exact ⟨m - 1, by omega, k + 1, by omega, rfl, by omega, h0, h1, h9, h10, eqI (natI _), by rw [he, hx, hy, cmpL, if_pos h3]⟩
      · simp (disch := omega) only [h0, h1, h9, h10, h11, ↓SXd, SXu, slBounds, ↓sop, ↓aop, ↓reduceIte, LV.cells, AOp.dst, LV.I, LV.B, LV.U, LV.S, LV.nil, Nat.reduceEqDiff, Nat.reduceAdd, Nat.reduceMul, Nat.reduceSub, Nat.reduceLeDiff, Nat.reduceBEq, Nat.reduceDiv, Nat.reduceMod, Int.reduceToNat, Int.reduceLT, Int.reduceLE, Int.reduceAdd, Int.reduceSub, Int.reduceMul, Int.reduceEq, Int.reduceNeg, reduceCtorEq, resV, resAll, ARes.ev, LV.flat, ite_true, ite_false, exists_eq_left', exists_eq_left, keyOf, implies_true, fillC]
        rw [he, hx, hy, cmpL, if_neg h3]; exact cmp_drop0 rfl
  · simp (disch := omega) only [h0, h1, h9, h10, h11, ↓SXd, SXu, slBounds, ↓sop, ↓aop, ↓reduceIte, LV.cells, AOp.dst, LV.I, LV.B, LV.U, LV.S, LV.nil, Nat.reduceEqDiff, Nat.reduceAdd, Nat.reduceMul, Nat.reduceSub, Nat.reduceLeDiff, Nat.reduceBEq, Nat.reduceDiv, Nat.reduceMod, Int.reduceToNat, Int.reduceLT, Int.reduceLE, Int.reduceAdd, Int.reduceSub, Int.reduceMul, Int.reduceEq, Int.reduceNeg, reduceCtorEq, resV, resAll, ARes.ev, LV.flat, ite_true, ite_false, exists_eq_left', exists_eq_left, keyOf, implies_true, fillC]
    have hx : xs.drop k = [] := List.drop_eq_nil_of_le (by omega)
    refine condC_dec (fun h2 => ?_) (fun h2 => ?_) <;> simp (disch := omega) only [h0, h1, h9, h10, h11, ↓SXd, SXu, slBounds, ↓sop, ↓aop, ↓reduceIte, LV.cells, AOp.dst, LV.I, LV.B, LV.U, LV.S, LV.nil, Nat.reduceEqDiff, Nat.reduceAdd, Nat.reduceMul, Nat.reduceSub, Nat.reduceLeDiff, Nat.reduceBEq, Nat.reduceDiv, Nat.reduceMod, Int.reduceToNat, Int.reduceLT, Int.reduceLE, Int.reduceAdd, Int.reduceSub, Int.reduceMul, Int.reduceEq, Int.reduceNeg, reduceCtorEq, resV, resAll, ARes.ev, LV.flat, ite_true, ite_false, exists_eq_left', exists_eq_left, keyOf, implies_true, fillC]
    · have hy : ys.drop k = ys.getD k 0 :: ys.drop (k + 1) := by
        rw [List.drop_eq_getElem_cons (show k < ys.length by omega)]; simp [show k < ys.length by omega]
      rw [he, hx, hy]; exact cmp_drop0 rfl
    · have hy : ys.drop k = [] := List.drop_eq_nil_of_le (by omega)
      rw [he, hx, hy]; exact cmp_drop0 rfl

theorem cmpL_lt {a b c a' b' c' : Int} : 0 ≤ cmpL [a, b, c] [a', b', c'] ↔ ¬ Cell.lt ⟨a, b, c⟩ ⟨a', b', c'⟩ := by
  have hc : ∀ a b : Int, cmpI a b = if a < b then -1 else if b < a then 1 else 0 := fun _ _ => rfl
  simp only [cmpL, hc, Cell.lt]
  by_cases h1 : a < a' <;> by_cases h2 : a' < a <;> by_cases h3 : b < b' <;> by_cases h4 : b' < b <;> by_cases h5 : c < c' <;> by_cases h6 : c' < c <;> simp only [h1, h2, h3, h4, h5, h6, if_true, if_false] <;> simp <;> omega

theorem g_compareCells {a b c a' b' c' : Int} {M : Mem} : CallsTo PG F.impl_compareCells [.agg [.I a, .I b, .I c], .agg [.I a', .I b', .I c']] M (.I (cmpL [a, b, c] [a', b', c'])) M := by
  refine calls_run K.impl_compareCells rfl ?_
  simp (disch := omega) only [C.impl_compareCells, slBounds, Option.isSome_some, and_self, if_true, ↓SXd, SXu, slBounds, ↓sop, ↓aop, ↓reduceIte, LV.cells, AOp.dst, LV.I, LV.B, LV.U, LV.S, LV.nil, Nat.reduceEqDiff, Nat.reduceAdd, Nat.reduceMul, Nat.reduceSub, Nat.reduceLeDiff, Nat.reduceBEq, Nat.reduceDiv, Nat.reduceMod, Int.reduceToNat, Int.reduceLT, Int.reduceLE, Int.reduceAdd, Int.reduceSub, Int.reduceMul, Int.reduceEq, Int.reduceNeg, reduceCtorEq, resV, resAll, ARes.ev, LV.flat, ite_true, ite_false, exists_eq_left', exists_eq_left, keyOf, implies_true, fillC]
  refine callK_of (g_compare (xs := [a, b, c]) (ys := [a', b', c']) (o := 0) (o' := 0) (Live.new (b := .row (intL [a, b, c]) true 0)).has (Live.newj (j := 1) (b := .row (intL [a', b', c']) true 0) rfl).has (by simp) (by simp)) ?_
  simp (disch := omega) only [↓SXd, SXu, slBounds, ↓sop, ↓aop, ↓reduceIte, LV.cells, AOp.dst, LV.I, LV.B, LV.U, LV.S, LV.nil, Nat.reduceEqDiff, Nat.reduceAdd, Nat.reduceMul, Nat.reduceSub, Nat.reduceLeDiff, Nat.reduceBEq, Nat.reduceDiv, Nat.reduceMod, Int.reduceToNat, Int.reduceLT, Int.reduceLE, Int.reduceAdd, Int.reduceSub, Int.reduceMul, Int.reduceEq, Int.reduceNeg, reduceCtorEq, resV, resAll, ARes.ev, LV.flat, ite_true, ite_false, exists_eq_left', exists_eq_left, keyOf, implies_true, fillC]
  exact cmp_drop rfl

theorem g_IsHeap {x y z : Int} {t o : Nat} {cs : List Cell} {M : Mem} (h : Tri M t o cs) (hn : cs.length ≤ 1000000000) :
    CallsTo PG F.impl_IsHeap [.agg [.I x, .I y, .I z, .ref t o cs.length]] M (.B (decide (HeapOK x y z cs))) M := by
  refine calls_run K.impl_IsHeap rfl ?_
  simp (disch := omega) only [C.impl_IsHeap, ↓SXd, SXu, slBounds, ↓sop, ↓aop, ↓reduceIte, LV.cells, AOp.dst, LV.I, LV.B, LV.U, LV.S, LV.nil, Nat.reduceEqDiff, Nat.reduceAdd, Nat.reduceMul, Nat.reduceSub, Nat.reduceLeDiff, Nat.reduceBEq, Nat.reduceDiv, Nat.reduceMod, Int.reduceToNat, Int.reduceLT, Int.reduceLE, Int.reduceAdd, Int.reduceSub, Int.reduceMul, Int.reduceEq, Int.reduceNeg, reduceCtorEq, resV, resAll, ARes.ev, LV.flat, ite_true, ite_false, exists_eq_left', exists_eq_left, keyOf, implies_true, fillC]
  refine callK_of g_box ?_
  simp (disch := omega) only [↓SXd, SXu, slBounds, ↓sop, ↓aop, ↓reduceIte, LV.cells, AOp.dst, LV.I, LV.B, LV.U, LV.S, LV.nil, Nat.reduceEqDiff, Nat.reduceAdd, Nat.reduceMul, Nat.reduceSub, Nat.reduceLeDiff, Nat.reduceBEq, Nat.reduceDiv, Nat.reduceMod, Int.reduceToNat, Int.reduceLT, Int.reduceLE, Int.reduceAdd, Int.reduceSub, Int.reduceMul, Int.reduceEq, Int.reduceNeg, reduceCtorEq, resV, resAll, ARes.ev, LV.flat, ite_true, ite_false, exists_eq_left', exists_eq_left, keyOf, implies_true, fillC]
  refine callK_of g_valid ?_
  simp (disch := omega) only [↓SXd, SXu, slBounds, ↓sop, ↓aop, ↓reduceIte, LV.cells, AOp.dst, LV.I, LV.B, LV.U, LV.S, LV.nil, Nat.reduceEqDiff, Nat.reduceAdd, Nat.reduceMul, Nat.reduceSub, Nat.reduceLeDiff, Nat.reduceBEq, Nat.reduceDiv, Nat.reduceMod, Int.reduceToNat, Int.reduceLT, Int.reduceLE, Int.reduceAdd, Int.reduceSub, Int.reduceMul, Int.reduceEq, Int.reduceNeg, reduceCtorEq, resV, resAll, ARes.ev, LV.flat, ite_true, ite_false, exists_eq_left', exists_eq_left, keyOf, implies_true, fillC]
  by_cases hS : Sides x y z
  · simp (disch := omega) only [hS, ↓SXd, SXu, slBounds, ↓sop, ↓aop, ↓reduceIte, LV.cells, AOp.dst, LV.I, LV.B, LV.U, LV.S, LV.nil, Nat.reduceEqDiff, Nat.reduceAdd, Nat.reduceMul, Nat.reduceSub, Nat.reduceLeDiff, Nat.reduceBEq, Nat.reduceDiv, Nat.reduceMod, Int.reduceToNat, Int.reduceLT, Int.reduceLE, Int.reduceAdd, Int.reduceSub, Int.reduceMul, Int.reduceEq, Int.reduceNeg, reduceCtorEq, resV, resAll, ARes.ev, LV.flat, ite_true, ite_false, exists_eq_left', exists_eq_left, keyOf, implies_true, fillC]
    refine ev_loop (fun m fr M' => ∃ k : Nat, k + m = cs.length ∧ Pre M M' ∧ Live M' M.length (.row [.I x, .I y, .I z, .ref t o cs.length] true 0) ∧ fr 1 = .ptr M.length 0 ∧ fr 10 = .ref t o cs.length ∧ fr 11 = .I (cs.length : Nat) ∧ fr 12 = .I k ∧
      ∀ j, j < k → (cs.getD j default).inBox x y z ∧ (0 < j → (cs.getD (j - 1) default).lt (cs.getD j default))) cs.length ⟨0, by omega, Pre.app _ _, Live.new, rfl, rfl, rfl, rfl, by omega⟩ ?_
    rintro m fr M' ⟨k, hk, hpre, hbox, h1, h10, h11, h12, hj⟩
    have h' : Tri M' t o cs := h.pre hpre
    have ht := h'.lt
    simp (disch := omega) only [h1, h10, h11, h12, ↓SXd, SXu, slBounds, ↓sop, ↓aop, ↓reduceIte, LV.cells, AOp.dst, LV.I, LV.B, LV.U, LV.S, LV.nil, Nat.reduceEqDiff, Nat.reduceAdd, Nat.reduceMul, Nat.reduceSub, Nat.reduceLeDiff, Nat.reduceBEq, Nat.reduceDiv, Nat.reduceMod, Int.reduceToNat, Int.reduceLT, Int.reduceLE, Int.reduceAdd, Int.reduceSub, Int.reduceMul, Int.reduceEq, Int.reduceNeg, reduceCtorEq, resV, resAll, ARes.ev, LV.flat, ite_true, ite_false, exists_eq_left', exists_eq_left, keyOf, implies_true, fillC]
    refine condC_dec (fun hlt => ?_) (fun hlt => ?_)
    · have hbox' : ∀ {L : Mem} {o n : Nat}, getCells (M' ++ L) M.length o n = _ := fun {L o n} => (hbox.app (L := L)).cells
      have hboxc : ∀ {L : Mem} {o : Nat}, getCell (M' ++ L) M.length o = _ := fun {L o} => (hbox.app (L := L)).cell
      simp (disch := omega) only [h1, h10, h11, h12, Tri.get h', Cell.row, hbox', hboxc, ↓SXd, SXu, slBounds, ↓sop, ↓aop, ↓reduceIte, LV.cells, AOp.dst, LV.I, LV.B, LV.U, LV.S, LV.nil, Nat.reduceEqDiff, Nat.reduceAdd, Nat.reduceMul, Nat.reduceSub, Nat.reduceLeDiff, Nat.reduceBEq, Nat.reduceDiv, Nat.reduceMod, Int.reduceToNat, Int.reduceLT, Int.reduceLE, Int.reduceAdd, Int.reduceSub, Int.reduceMul, Int.reduceEq, Int.reduceNeg, reduceCtorEq, resV, resAll, ARes.ev, LV.flat, ite_true, ite_false, exists_eq_left', exists_eq_left, keyOf, implies_true, fillC]
      refine callK_of g_box ?_
      simp (disch := omega) only [h1, h10, h11, h12, Tri.get h', Cell.row, hbox', hboxc, ↓SXd, SXu, slBounds, ↓sop, ↓aop, ↓reduceIte, LV.cells, AOp.dst, LV.I, LV.B, LV.U, LV.S, LV.nil, Nat.reduceEqDiff, Nat.reduceAdd, Nat.reduceMul, Nat.reduceSub, Nat.reduceLeDiff, Nat.reduceBEq, Nat.reduceDiv, Nat.reduceMod, Int.reduceToNat, Int.reduceLT, Int.reduceLE, Int.reduceAdd, Int.reduceSub, Int.reduceMul, Int.reduceEq, Int.reduceNeg, reduceCtorEq, resV, resAll, ARes.ev, LV.flat, ite_true, ite_false, exists_eq_left', exists_eq_left, keyOf, implies_true, fillC]
      refine callK_of (g_has hS) ?_
      simp (disch := omega) only [h1, h10, h11, h12, Cell.row, cell_eta, ↓SXd, SXu, slBounds, ↓sop, ↓aop, ↓reduceIte, LV.cells, AOp.dst, LV.I, LV.B, LV.U, LV.S, LV.nil, Nat.reduceEqDiff, Nat.reduceAdd, Nat.reduceMul, Nat.reduceSub, Nat.reduceLeDiff, Nat.reduceBEq, Nat.reduceDiv, Nat.reduceMod, Int.reduceToNat, Int.reduceLT, Int.reduceLE, Int.reduceAdd, Int.reduceSub, Int.reduceMul, Int.reduceEq, Int.reduceNeg, reduceCtorEq, resV, resAll, ARes.ev, LV.flat, ite_true, ite_false, exists_eq_left', exists_eq_left, keyOf, implies_true, fillC]
      by_cases hin : (cs.getD k default).inBox x y z
      · by_cases hk0 : k = 0
        · subst hk0
          simp (disch := omega) only [hin, h1, h10, h11, h12, cell_eta, Int.natCast_zero, gt_iff_lt, Int.lt_irrefl, ↓SXd, SXu, slBounds, ↓sop, ↓aop, ↓reduceIte, LV.cells, AOp.dst, LV.I, LV.B, LV.U, LV.S, LV.nil, Nat.reduceEqDiff, Nat.reduceAdd, Nat.reduceMul, Nat.reduceSub, Nat.reduceLeDiff, Nat.reduceBEq, Nat.reduceDiv, Nat.reduceMod, Int.reduceToNat, Int.reduceLT, Int.reduceLE, Int.reduceAdd, Int.reduceSub, Int.reduceMul, Int.reduceEq, Int.reduceNeg, reduceCtorEq, resV, resAll, ARes.ev, LV.flat, ite_true, ite_false, exists_eq_left', exists_eq_left, keyOf, implies_true, fillC]
          exact ⟨m - 1, by omega, 1, by omega, Pre.app' hpre, hbox.app, h1, h10, h11, rfl, fun j hj1 => by
            have : j = 0 := by omega
            subst this
            exact ⟨hin, by omega⟩⟩
        · have e1 : ((k : Int) - 1).toNat = k - 1 := by omega
          have e2 : (0 : Int) < k := by omega
          simp (disch := omega) only [hin, h1, h10, h11, h12, getCells_app, Tri.get h', Cell.row, cell_eta, hbox', hboxc, e1, e2, ↓SXd, SXu, slBounds, ↓sop, ↓aop, ↓reduceIte, LV.cells, AOp.dst, LV.I, LV.B, LV.U, LV.S, LV.nil, Nat.reduceEqDiff, Nat.reduceAdd, Nat.reduceMul, Nat.reduceSub, Nat.reduceLeDiff, Nat.reduceBEq, Nat.reduceDiv, Nat.reduceMod, Int.reduceToNat, Int.reduceLT, Int.reduceLE, Int.reduceAdd, Int.reduceSub, Int.reduceMul, Int.reduceEq, Int.reduceNeg, reduceCtorEq, resV, resAll, ARes.ev, LV.flat, ite_true, ite_false, exists_eq_left', exists_eq_left, keyOf, implies_true, fillC]
          refine callK_of g_compareCells ?_
          simp (disch := omega) only [hin, h1, h10, h11, h12, cell_eta, ↓SXd, SXu, slBounds, ↓sop, ↓aop, ↓reduceIte, LV.cells, AOp.dst, LV.I, LV.B, LV.U, LV.S, LV.nil, Nat.reduceEqDiff, Nat.reduceAdd, Nat.reduceMul, Nat.reduceSub, Nat.reduceLeDiff, Nat.reduceBEq, Nat.reduceDiv, Nat.reduceMod, Int.reduceToNat, Int.reduceLT, Int.reduceLE, Int.reduceAdd, Int.reduceSub, Int.reduceMul, Int.reduceEq, Int.reduceNeg, reduceCtorEq, resV, resAll, ARes.ev, LV.flat, ite_true, ite_false, exists_eq_left', exists_eq_left, keyOf, implies_true, fillC]
          by_cases hb : (cs.getD (k - 1) default).lt (cs.getD k default)
          · have hb' : ¬ 0 ≤ cmpL [(cs.getD (k - 1) default).a, (cs.getD (k - 1) default).b, (cs.getD (k - 1) default).c] [(cs.getD k default).a, (cs.getD k default).b, (cs.getD k default).c] := fun e => (cmpL_lt.1 e) hb
            simp (disch := omega) only [hb', h1, h10, h11, h12, ↓SXd, SXu, slBounds, ↓sop, ↓aop, ↓reduceIte, LV.cells, AOp.dst, LV.I, LV.B, LV.U, LV.S, LV.nil, Nat.reduceEqDiff, Nat.reduceAdd, Nat.reduceMul, Nat.reduceSub, Nat.reduceLeDiff, Nat.reduceBEq, Nat.reduceDiv, Nat.reduceMod, Int.reduceToNat, Int.reduceLT, Int.reduceLE, Int.reduceAdd, Int.reduceSub, Int.reduceMul, Int.reduceEq, Int.reduceNeg, reduceCtorEq, resV, resAll, ARes.ev, LV.flat, ite_true, ite_false, exists_eq_left', exists_eq_left, keyOf, implies_true, fillC]
            exact ⟨m - 1, by omega, k + 1, by omega, Pre.app' hpre, hbox.app, h1, h10, h11, eqI (natI _), fun j hj1 => by
              by_cases hjk : j = k
              · subst hjk; exact ⟨hin, fun _ => hb⟩
              · exact hj j (by omega)⟩
          · have hb' : 0 ≤ cmpL [(cs.getD (k - 1) default).a, (cs.getD (k - 1) default).b, (cs.getD (k - 1) default).c] [(cs.getD k default).a, (cs.getD k default).b, (cs.getD k default).c] := cmpL_lt.2 hb
            simp (disch := omega) only [hb', h1, h10, h11, h12, ↓SXd, SXu, slBounds, ↓sop, ↓aop, ↓reduceIte, LV.cells, AOp.dst, LV.I, LV.B, LV.U, LV.S, LV.nil, Nat.reduceEqDiff, Nat.reduceAdd, Nat.reduceMul, Nat.reduceSub, Nat.reduceLeDiff, Nat.reduceBEq, Nat.reduceDiv, Nat.reduceMod, Int.reduceToNat, Int.reduceLT, Int.reduceLE, Int.reduceAdd, Int.reduceSub, Int.reduceMul, Int.reduceEq, Int.reduceNeg, reduceCtorEq, resV, resAll, ARes.ev, LV.flat, ite_true, ite_false, exists_eq_left', exists_eq_left, keyOf, implies_true, fillC]
            rw [decide_eq_false (fun hh : HeapOK x y z cs => hb ((hh.2 k (by omega)).2 (by omega)))]
            exact cmp_pre (Pre.app' hpre) rfl
      · simp (disch := omega) only [hin, h1, h10, h11, h12, ↓SXd, SXu, slBounds, ↓sop, ↓aop, ↓reduceIte, LV.cells, AOp.dst, LV.I, LV.B, LV.U, LV.S, LV.nil, Nat.reduceEqDiff, Nat.reduceAdd, Nat.reduceMul, Nat.reduceSub, Nat.reduceLeDiff, Nat.reduceBEq, Nat.reduceDiv, Nat.reduceMod, Int.reduceToNat, Int.reduceLT, Int.reduceLE, Int.reduceAdd, Int.reduceSub, Int.reduceMul, Int.reduceEq, Int.reduceNeg, reduceCtorEq, resV, resAll, ARes.ev, LV.flat, ite_true, ite_false, exists_eq_left', exists_eq_left, keyOf, implies_true, fillC]
        rw [decide_eq_false (fun hh : HeapOK x y z cs => hin (hh.2 k (by omega)).1)]
        exact cmp_pre (Pre.app' hpre) rfl
    · simp (disch := omega) only [h1, h10, h11, h12, ↓SXd, SXu, slBounds, ↓sop, ↓aop, ↓reduceIte, LV.cells, AOp.dst, LV.I, LV.B, LV.U, LV.S, LV.nil, Nat.reduceEqDiff, Nat.reduceAdd, Nat.reduceMul, Nat.reduceSub, Nat.reduceLeDiff, Nat.reduceBEq, Nat.reduceDiv, Nat.reduceMod, Int.reduceToNat, Int.reduceLT, Int.reduceLE, Int.reduceAdd, Int.reduceSub, Int.reduceMul, Int.reduceEq, Int.reduceNeg, reduceCtorEq, resV, resAll, ARes.ev, LV.flat, ite_true, ite_false, exists_eq_left', exists_eq_left, keyOf, implies_true, fillC]
      rw [decide_eq_true (show HeapOK x y z cs from ⟨hS, fun j hj1 => hj j (by omega)⟩)]
      exact cmp_pre hpre rfl
  · simp (disch := omega) only [hS, ↓SXd, SXu, slBounds, ↓sop, ↓aop, ↓reduceIte, LV.cells, AOp.dst, LV.I, LV.B, LV.U, LV.S, LV.nil, Nat.reduceEqDiff, Nat.reduceAdd, Nat.reduceMul, Nat.reduceSub, Nat.reduceLeDiff, Nat.reduceBEq, Nat.reduceDiv, Nat.reduceMod, Int.reduceToNat, Int.reduceLT, Int.reduceLE, Int.reduceAdd, Int.reduceSub, Int.reduceMul, Int.reduceEq, Int.reduceNeg, reduceCtorEq, resV, resAll, ARes.ev, LV.flat, ite_true, ite_false, exists_eq_left', exists_eq_left, keyOf, implies_true, fillC]
    exact cmp_dropF fun hh => hS hh.1
end Go.Ab

/- Contracts: the program's heights; whether columns are there. -/
namespace Go.Ab
open Go
set_option linter.unusedSimpArgs false
set_option linter.unusedVariables false

theorem HeapOK.cell' {x y z : Int} {cs : List Cell} (h : HeapOK x y z cs) {k : Nat} (hk : k < cs.length) : (cs.getD k default).inBox x y z := (h.2 k hk).1

theorem g_others2 {M : Mem} : CallsTo PG F.impl_others [.I 2] M (.tup [.I 0, .I 1]) M := by
  refine calls_run K.impl_others rfl ?_
  simp (disch := omega) only [C.impl_others, ↓SXd, SXu, slBounds, ↓sop, ↓aop, ↓reduceIte, LV.cells, AOp.dst, LV.I, LV.B, LV.U, LV.S, LV.nil, Nat.reduceEqDiff, Nat.reduceAdd, Nat.reduceMul, Nat.reduceSub, Nat.reduceLeDiff, Nat.reduceBEq, Nat.reduceDiv, Nat.reduceMod, Int.reduceToNat, Int.reduceLT, Int.reduceLE, Int.reduceAdd, Int.reduceSub, Int.reduceMul, Int.reduceEq, Int.reduceNeg, reduceCtorEq, resV, resAll, ARes.ev, LV.flat, ite_true, ite_false, exists_eq_left', exists_eq_left, keyOf, implies_true, fillC]
  exact cmp_drop0 rfl
theorem g_others1 {M : Mem} : CallsTo PG F.impl_others [.I 1] M (.tup [.I 0, .I 2]) M := by
  refine calls_run K.impl_others rfl ?_
  simp (disch := omega) only [C.impl_others, ↓SXd, SXu, slBounds, ↓sop, ↓aop, ↓reduceIte, LV.cells, AOp.dst, LV.I, LV.B, LV.U, LV.S, LV.nil, Nat.reduceEqDiff, Nat.reduceAdd, Nat.reduceMul, Nat.reduceSub, Nat.reduceLeDiff, Nat.reduceBEq, Nat.reduceDiv, Nat.reduceMod, Int.reduceToNat, Int.reduceLT, Int.reduceLE, Int.reduceAdd, Int.reduceSub, Int.reduceMul, Int.reduceEq, Int.reduceNeg, reduceCtorEq, resV, resAll, ARes.ev, LV.flat, ite_true, ite_false, exists_eq_left', exists_eq_left, keyOf, implies_true, fillC]
  exact cmp_drop0 rfl
theorem g_others0 {M : Mem} : CallsTo PG F.impl_others [.I 0] M (.tup [.I 1, .I 2]) M := by
  refine calls_run K.impl_others rfl ?_
  simp (disch := omega) only [C.impl_others, ↓SXd, SXu, slBounds, ↓sop, ↓aop, ↓reduceIte, LV.cells, AOp.dst, LV.I, LV.B, LV.U, LV.S, LV.nil, Nat.reduceEqDiff, Nat.reduceAdd, Nat.reduceMul, Nat.reduceSub, Nat.reduceLeDiff, Nat.reduceBEq, Nat.reduceDiv, Nat.reduceMod, Int.reduceToNat, Int.reduceLT, Int.reduceLE, Int.reduceAdd, Int.reduceSub, Int.reduceMul, Int.reduceEq, Int.reduceNeg, reduceCtorEq, resV, resAll, ARes.ev, LV.flat, ite_true, ite_false, exists_eq_left', exists_eq_left, keyOf, implies_true, fillC]
  exact cmp_drop0 rfl

theorem g_line2 {x y z a b c : Int} {M : Mem} (h0 : 0 ≤ a * y ∧ a * y ≤ 1000) (hb : 0 ≤ b ∧ b ≤ 1000) : CallsTo PG F.impl_box_line [.agg [.I x, .I y, .I z], .agg [.I a, .I b, .I c], .I 2] M (.I (a * y + b)) M := by
  refine calls_run K.impl_box_line rfl ?_
  simp (disch := omega) only [C.impl_box_line, ↓SXd, SXu, slBounds, ↓sop, ↓aop, ↓reduceIte, LV.cells, AOp.dst, LV.I, LV.B, LV.U, LV.S, LV.nil, Nat.reduceEqDiff, Nat.reduceAdd, Nat.reduceMul, Nat.reduceSub, Nat.reduceLeDiff, Nat.reduceBEq, Nat.reduceDiv, Nat.reduceMod, Int.reduceToNat, Int.reduceLT, Int.reduceLE, Int.reduceAdd, Int.reduceSub, Int.reduceMul, Int.reduceEq, Int.reduceNeg, reduceCtorEq, resV, resAll, ARes.ev, LV.flat, ite_true, ite_false, exists_eq_left', exists_eq_left, keyOf, implies_true, fillC]
  refine callK_of g_others2 ?_
  simp (disch := omega) only [↓SXd, SXu, slBounds, ↓sop, ↓aop, ↓reduceIte, LV.cells, AOp.dst, LV.I, LV.B, LV.U, LV.S, LV.nil, Nat.reduceEqDiff, Nat.reduceAdd, Nat.reduceMul, Nat.reduceSub, Nat.reduceLeDiff, Nat.reduceBEq, Nat.reduceDiv, Nat.reduceMod, Int.reduceToNat, Int.reduceLT, Int.reduceLE, Int.reduceAdd, Int.reduceSub, Int.reduceMul, Int.reduceEq, Int.reduceNeg, reduceCtorEq, resV, resAll, ARes.ev, LV.flat, ite_true, ite_false, exists_eq_left', exists_eq_left, keyOf, implies_true, fillC]
  exact cmp_drop rfl

theorem g_heights {x y z : Int} {t o : Nat} {cs : List Cell} {M : Mem} (h : Tri M t o cs) (hn : cs.length ≤ 1000000000) (hH : HeapOK x y z cs) :
    CallsTo PG F.impl_Heap_heights [.agg [.I x, .I y, .I z, .ref t o cs.length]] M (.ref M.length 0 (x * y).toNat) (M ++ [some (.row (intL (topsOf x y cs)) true 1)]) := by
  have hb := mul_bound hH.1.1 hH.1.2.1
  refine calls_run K.impl_Heap_heights rfl ?_
  simp (disch := omega) only [C.impl_Heap_heights, made_int, ↓SXd, SXu, slBounds, ↓sop, ↓aop, ↓reduceIte, LV.cells, AOp.dst, LV.I, LV.B, LV.U, LV.S, LV.nil, Nat.reduceEqDiff, Nat.reduceAdd, Nat.reduceMul, Nat.reduceSub, Nat.reduceLeDiff, Nat.reduceBEq, Nat.reduceDiv, Nat.reduceMod, Int.reduceToNat, Int.reduceLT, Int.reduceLE, Int.reduceAdd, Int.reduceSub, Int.reduceMul, Int.reduceEq, Int.reduceNeg, reduceCtorEq, resV, resAll, ARes.ev, LV.flat, ite_true, ite_false, exists_eq_left', exists_eq_left, keyOf, implies_true, fillC]
  refine ev_loop (fun m fr M' => ∃ (k : Nat) (out : List Int), k + m = cs.length ∧ Pre M M' ∧ Live M' M.length (.row [.I x, .I y, .I z, .ref t o cs.length] true 0) ∧ Live M' (M.length + 1) (.row (intL out) true 1) ∧
    fr 1 = .ptr M.length 0 ∧ fr 3 = .ref (M.length + 1) 0 (x * y).toNat ∧ fr 14 = .ref t o cs.length ∧ fr 15 = .I (cs.length : Nat) ∧ fr 16 = .I k ∧
    out = (cs.take k).foldl (topStep y) (List.replicate (x * y).toNat 0) ∧ out.length = (x * y).toNat) cs.length ⟨0, _, by omega, Pre.app _ _, Live.new, Live.newj rfl, rfl, rfl, rfl, rfl, rfl, rfl, by simp⟩ ?_
  rintro m fr M' ⟨k, out, hk, hpre, hbox, hout, h1, h3, h14, h15, h16, ho, hol⟩
  have h' : Tri M' t o cs := h.pre hpre
  have ht := h'.lt
  simp (disch := omega) only [h1, h3, h14, h15, h16, ↓SXd, SXu, slBounds, ↓sop, ↓aop, ↓reduceIte, LV.cells, AOp.dst, LV.I, LV.B, LV.U, LV.S, LV.nil, Nat.reduceEqDiff, Nat.reduceAdd, Nat.reduceMul, Nat.reduceSub, Nat.reduceLeDiff, Nat.reduceBEq, Nat.reduceDiv, Nat.reduceMod, Int.reduceToNat, Int.reduceLT, Int.reduceLE, Int.reduceAdd, Int.reduceSub, Int.reduceMul, Int.reduceEq, Int.reduceNeg, reduceCtorEq, resV, resAll, ARes.ev, LV.flat, ite_true, ite_false, exists_eq_left', exists_eq_left, keyOf, implies_true, fillC]
  refine condC_dec (fun hlt => ?_) (fun hlt => ?_)
  · obtain ⟨ca, cb, cc⟩ := hH.cell' (k := k) (by omega)
    have hS := hH.1
    obtain ⟨b1, b2, b3, b4⟩ := col_bound hS.1 hS.2.1 ca cb
    obtain ⟨_, hy, hz⟩ := hS
    have hbox' : ∀ {L : Mem} {o n : Nat}, getCells (M' ++ L) M.length o n = _ := fun {L o n} => (hbox.app (L := L)).cells
    have houtc : ∀ {L : Mem} {o : Nat}, getCell (M' ++ L) (M.length + 1) o = _ := fun {L o} => (hout.app (L := L)).cell
    simp (disch := omega) only [h1, h3, h14, h15, h16, Tri.get h', Cell.row, hbox', ↓SXd, SXu, slBounds, ↓sop, ↓aop, ↓reduceIte, LV.cells, AOp.dst, LV.I, LV.B, LV.U, LV.S, LV.nil, Nat.reduceEqDiff, Nat.reduceAdd, Nat.reduceMul, Nat.reduceSub, Nat.reduceLeDiff, Nat.reduceBEq, Nat.reduceDiv, Nat.reduceMod, Int.reduceToNat, Int.reduceLT, Int.reduceLE, Int.reduceAdd, Int.reduceSub, Int.reduceMul, Int.reduceEq, Int.reduceNeg, reduceCtorEq, resV, resAll, ARes.ev, LV.flat, ite_true, ite_false, exists_eq_left', exists_eq_left, keyOf, implies_true, fillC]
    refine callK_of g_box ?_
    simp (disch := omega) only [h1, h3, h14, h15, h16, Tri.get h', Cell.row, hbox', ↓SXd, SXu, slBounds, ↓sop, ↓aop, ↓reduceIte, LV.cells, AOp.dst, LV.I, LV.B, LV.U, LV.S, LV.nil, Nat.reduceEqDiff, Nat.reduceAdd, Nat.reduceMul, Nat.reduceSub, Nat.reduceLeDiff, Nat.reduceBEq, Nat.reduceDiv, Nat.reduceMod, Int.reduceToNat, Int.reduceLT, Int.reduceLE, Int.reduceAdd, Int.reduceSub, Int.reduceMul, Int.reduceEq, Int.reduceNeg, reduceCtorEq, resV, resAll, ARes.ev, LV.flat, ite_true, ite_false, exists_eq_left', exists_eq_left, keyOf, implies_true, fillC]
    refine callK_of (g_line2 (by omega) (by omega)) ?_
    simp (disch := omega) only [h1, h3, h14, h15, h16, Tri.get h', Cell.row, hbox', houtc, intL_get, maxV, if_true, ↓SXd, SXu, slBounds, ↓sop, ↓aop, ↓reduceIte, LV.cells, AOp.dst, LV.I, LV.B, LV.U, LV.S, LV.nil, Nat.reduceEqDiff, Nat.reduceAdd, Nat.reduceMul, Nat.reduceSub, Nat.reduceLeDiff, Nat.reduceBEq, Nat.reduceDiv, Nat.reduceMod, Int.reduceToNat, Int.reduceLT, Int.reduceLE, Int.reduceAdd, Int.reduceSub, Int.reduceMul, Int.reduceEq, Int.reduceNeg, reduceCtorEq, resV, resAll, ARes.ev, LV.flat, ite_true, ite_false, exists_eq_left', exists_eq_left, keyOf, implies_true, fillC]
    refine memK_int hout.app (by omega) fun N l1 l2 l3 => ?_
    simp (disch := omega) only [h1, h3, h14, h15, h16, ↓SXd, SXu, slBounds, ↓sop, ↓aop, ↓reduceIte, LV.cells, AOp.dst, LV.I, LV.B, LV.U, LV.S, LV.nil, Nat.reduceEqDiff, Nat.reduceAdd, Nat.reduceMul, Nat.reduceSub, Nat.reduceLeDiff, Nat.reduceBEq, Nat.reduceDiv, Nat.reduceMod, Int.reduceToNat, Int.reduceLT, Int.reduceLE, Int.reduceAdd, Int.reduceSub, Int.reduceMul, Int.reduceEq, Int.reduceNeg, reduceCtorEq, resV, resAll, ARes.ev, LV.flat, ite_true, ite_false, exists_eq_left', exists_eq_left, keyOf, implies_true, fillC]
    refine ⟨m - 1, by omega, k + 1, _, by omega, pre_step (Pre.app' hpre) (by omega) (j := 0) l1 l3, live_step hbox.app (by omega) l3, l2, h1, h3, h14, h15, eqI (natI _), ?_, by simpa using hol⟩
    rw [take_succ_foldl _ _ _ _ default (by omega), ← ho]
    rfl
  · simp (disch := omega) only [h1, h3, h14, h15, h16, ↓SXd, SXu, slBounds, ↓sop, ↓aop, ↓reduceIte, LV.cells, AOp.dst, LV.I, LV.B, LV.U, LV.S, LV.nil, Nat.reduceEqDiff, Nat.reduceAdd, Nat.reduceMul, Nat.reduceSub, Nat.reduceLeDiff, Nat.reduceBEq, Nat.reduceDiv, Nat.reduceMod, Int.reduceToNat, Int.reduceLT, Int.reduceLE, Int.reduceAdd, Int.reduceSub, Int.reduceMul, Int.reduceEq, Int.reduceNeg, reduceCtorEq, resV, resAll, ARes.ev, LV.flat, ite_true, ite_false, exists_eq_left', exists_eq_left, keyOf, implies_true, fillC]
    have : k = cs.length := by omega
    subst this
    rw [List.take_length] at ho
    rw [show topsOf x y cs = out from ho.symm]
    exact cmp_keepL hpre (by omega) hout (intL_lo out) (by simp [rn, rn0, rn1])

theorem g_top {x y z : Int} {t o : Nat} {cs : List Cell} {M : Mem} (h : Tri M t o cs) (hn : cs.length ≤ 1000000000) (hH : HeapOK x y z cs) :
    CallsTo PG F.impl_Heap_top [.agg [.I x, .I y, .I z, .ref t o cs.length]] M (.agg [.ref M.length 0 (x * y).toNat, .I y]) (M ++ [some (.row (intL (topsOf x y cs)) true 1)]) := by
  refine calls_run K.impl_Heap_top rfl ?_
  simp (disch := omega) only [C.impl_Heap_top, ↓SXd, SXu, slBounds, ↓sop, ↓aop, ↓reduceIte, LV.cells, AOp.dst, LV.I, LV.B, LV.U, LV.S, LV.nil, Nat.reduceEqDiff, Nat.reduceAdd, Nat.reduceMul, Nat.reduceSub, Nat.reduceLeDiff, Nat.reduceBEq, Nat.reduceDiv, Nat.reduceMod, Int.reduceToNat, Int.reduceLT, Int.reduceLE, Int.reduceAdd, Int.reduceSub, Int.reduceMul, Int.reduceEq, Int.reduceNeg, reduceCtorEq, resV, resAll, ARes.ev, LV.flat, ite_true, ite_false, exists_eq_left', exists_eq_left, keyOf, implies_true, fillC]
  refine callK_of (g_heights h.app hn hH) ?_
  simp (disch := omega) only [↓SXd, SXu, slBounds, ↓sop, ↓aop, ↓reduceIte, LV.cells, AOp.dst, LV.I, LV.B, LV.U, LV.S, LV.nil, Nat.reduceEqDiff, Nat.reduceAdd, Nat.reduceMul, Nat.reduceSub, Nat.reduceLeDiff, Nat.reduceBEq, Nat.reduceDiv, Nat.reduceMod, Int.reduceToNat, Int.reduceLT, Int.reduceLE, Int.reduceAdd, Int.reduceSub, Int.reduceMul, Int.reduceEq, Int.reduceNeg, reduceCtorEq, resV, resAll, ARes.ev, LV.flat, ite_true, ite_false, exists_eq_left', exists_eq_left, keyOf, implies_true, fillC]
  exact cmp_keep1 (j := 2) rfl (intL_lo _) (by simp [rn, rn0, rn1, keepR_n])

theorem g_allWithin {lo hi : Int} {t o : Nat} {xs : List Int} {M : Mem} (h : Ints M t o xs) (hn : xs.length ≤ 1000000000) :
    CallsTo PG F.impl_allWithin [.ref t o xs.length, .I lo, .I hi] M (.B (decide (∀ k, k < xs.length → lo ≤ xs.getD k 0 ∧ xs.getD k 0 ≤ hi))) M := by
  refine calls_run K.impl_allWithin rfl ?_
  simp (disch := omega) only [C.impl_allWithin, ↓SXd, SXu, slBounds, ↓sop, ↓aop, ↓reduceIte, LV.cells, AOp.dst, LV.I, LV.B, LV.U, LV.S, LV.nil, Nat.reduceEqDiff, Nat.reduceAdd, Nat.reduceMul, Nat.reduceSub, Nat.reduceLeDiff, Nat.reduceBEq, Nat.reduceDiv, Nat.reduceMod, Int.reduceToNat, Int.reduceLT, Int.reduceLE, Int.reduceAdd, Int.reduceSub, Int.reduceMul, Int.reduceEq, Int.reduceNeg, reduceCtorEq, resV, resAll, ARes.ev, LV.flat, ite_true, ite_false, exists_eq_left', exists_eq_left, keyOf, implies_true, fillC]
  refine ev_loop (fun m fr M' => ∃ k : Nat, k + m = xs.length ∧ M' = M ∧ fr 1 = .I lo ∧ fr 2 = .I hi ∧ fr 9 = .ref t o xs.length ∧ fr 10 = .I (xs.length : Nat) ∧ fr 11 = .I k ∧ ∀ j, j < k → lo ≤ xs.getD j 0 ∧ xs.getD j 0 ≤ hi) xs.length
    ⟨0, by omega, rfl, rfl, rfl, rfl, rfl, rfl, by omega⟩ ?_
  rintro m fr M' ⟨k, hk, rfl, h1, h2, h9, h10, h11, hj⟩
  simp (disch := omega) only [h1, h2, h9, h10, h11, ↓SXd, SXu, slBounds, ↓sop, ↓aop, ↓reduceIte, LV.cells, AOp.dst, LV.I, LV.B, LV.U, LV.S, LV.nil, Nat.reduceEqDiff, Nat.reduceAdd, Nat.reduceMul, Nat.reduceSub, Nat.reduceLeDiff, Nat.reduceBEq, Nat.reduceDiv, Nat.reduceMod, Int.reduceToNat, Int.reduceLT, Int.reduceLE, Int.reduceAdd, Int.reduceSub, Int.reduceMul, Int.reduceEq, Int.reduceNeg, reduceCtorEq, resV, resAll, ARes.ev, LV.flat, ite_true, ite_false, exists_eq_left', exists_eq_left, keyOf, implies_true, fillC]
  refine condC_dec (fun hlt => ?_) (fun hlt => ?_)
  · simp (disch := omega) only [h1, h2, h9, h10, h11, Ints.get h, ↓SXd, SXu, slBounds, ↓sop, ↓aop, ↓reduceIte, LV.cells, AOp.dst, LV.I, LV.B, LV.U, LV.S, LV.nil, Nat.reduceEqDiff, Nat.reduceAdd, Nat.reduceMul, Nat.reduceSub, Nat.reduceLeDiff, Nat.reduceBEq, Nat.reduceDiv, Nat.reduceMod, Int.reduceToNat, Int.reduceLT, Int.reduceLE, Int.reduceAdd, Int.reduceSub, Int.reduceMul, Int.reduceEq, Int.reduceNeg, reduceCtorEq, resV, resAll, ARes.ev, LV.flat, ite_true, ite_false, exists_eq_left', exists_eq_left, keyOf, implies_true, fillC]
    refine callK_of g_within ?_
    simp (disch := omega) only [h1, h2, h9, h10, h11, ↓SXd, SXu, slBounds, ↓sop, ↓aop, ↓reduceIte, LV.cells, AOp.dst, LV.I, LV.B, LV.U, LV.S, LV.nil, Nat.reduceEqDiff, Nat.reduceAdd, Nat.reduceMul, Nat.reduceSub, Nat.reduceLeDiff, Nat.reduceBEq, Nat.reduceDiv, Nat.reduceMod, Int.reduceToNat, Int.reduceLT, Int.reduceLE, Int.reduceAdd, Int.reduceSub, Int.reduceMul, Int.reduceEq, Int.reduceNeg, reduceCtorEq, resV, resAll, ARes.ev, LV.flat, ite_true, ite_false, exists_eq_left', exists_eq_left, keyOf, implies_true, fillC]
    refine condC_dec (fun h3 => ?_) (fun h3 => ?_) <;> simp (disch := omega) only [h1, h2, h9, h10, h11, ↓SXd, SXu, slBounds, ↓sop, ↓aop, ↓reduceIte, LV.cells, AOp.dst, LV.I, LV.B, LV.U, LV.S, LV.nil, Nat.reduceEqDiff, Nat.reduceAdd, Nat.reduceMul, Nat.reduceSub, Nat.reduceLeDiff, Nat.reduceBEq, Nat.reduceDiv, Nat.reduceMod, Int.reduceToNat, Int.reduceLT, Int.reduceLE, Int.reduceAdd, Int.reduceSub, Int.reduceMul, Int.reduceEq, Int.reduceNeg, reduceCtorEq, resV, resAll, ARes.ev, LV.flat, ite_true, ite_false, exists_eq_left', exists_eq_left, keyOf, implies_true, fillC]
    · refine ⟨m - 1, by omega, k + 1, by omega, rfl, h1, h2, h9, h10, eqI (natI _), fun j hj1 => ?_⟩
      by_cases hjk : j = k
      · subst hjk; exact h3
      · exact hj j (by omega)
    · exact cmp_dropF0 fun hh => h3 (hh k (by omega))
  · simp (disch := omega) only [h1, h2, h9, h10, h11, ↓SXd, SXu, slBounds, ↓sop, ↓aop, ↓reduceIte, LV.cells, AOp.dst, LV.I, LV.B, LV.U, LV.S, LV.nil, Nat.reduceEqDiff, Nat.reduceAdd, Nat.reduceMul, Nat.reduceSub, Nat.reduceLeDiff, Nat.reduceBEq, Nat.reduceDiv, Nat.reduceMod, Int.reduceToNat, Int.reduceLT, Int.reduceLE, Int.reduceAdd, Int.reduceSub, Int.reduceMul, Int.reduceEq, Int.reduceNeg, reduceCtorEq, resV, resAll, ARes.ev, LV.flat, ite_true, ite_false, exists_eq_left', exists_eq_left, keyOf, implies_true, fillC]
    exact cmp_dropT0 fun j hj1 => hj j (by omega)

theorem g_allWithin_nil {lo hi : Int} {M : Mem} : CallsTo PG F.impl_allWithin [.nil, .I lo, .I hi] M (.B true) M := by
  refine calls_run K.impl_allWithin rfl ?_
  simp (disch := omega) only [C.impl_allWithin, ↓SXd, SXu, slBounds, ↓sop, ↓aop, ↓reduceIte, LV.cells, AOp.dst, LV.I, LV.B, LV.U, LV.S, LV.nil, Nat.reduceEqDiff, Nat.reduceAdd, Nat.reduceMul, Nat.reduceSub, Nat.reduceLeDiff, Nat.reduceBEq, Nat.reduceDiv, Nat.reduceMod, Int.reduceToNat, Int.reduceLT, Int.reduceLE, Int.reduceAdd, Int.reduceSub, Int.reduceMul, Int.reduceEq, Int.reduceNeg, reduceCtorEq, resV, resAll, ARes.ev, LV.flat, ite_true, ite_false, exists_eq_left', exists_eq_left, keyOf, implies_true, fillC]
  refine ev_loop (fun m fr M' => M' = M ∧ fr 10 = .I 0 ∧ fr 11 = .I 0) 0 ⟨rfl, rfl, rfl⟩ ?_
  rintro m fr M' ⟨rfl, h10, h11⟩
  simp (disch := omega) only [h10, h11, Int.lt_irrefl, ↓SXd, SXu, slBounds, ↓sop, ↓aop, ↓reduceIte, LV.cells, AOp.dst, LV.I, LV.B, LV.U, LV.S, LV.nil, Nat.reduceEqDiff, Nat.reduceAdd, Nat.reduceMul, Nat.reduceSub, Nat.reduceLeDiff, Nat.reduceBEq, Nat.reduceDiv, Nat.reduceMod, Int.reduceToNat, Int.reduceLT, Int.reduceLE, Int.reduceAdd, Int.reduceSub, Int.reduceMul, Int.reduceEq, Int.reduceNeg, reduceCtorEq, resV, resAll, ARes.ev, LV.flat, ite_true, ite_false, exists_eq_left', exists_eq_left, keyOf, implies_true, fillC]
  exact cmp_drop0 rfl

theorem g_isTop {x y z s : Int} {t o t' o' : Nat} {cs : List Cell} {xs : List Int} {M : Mem} (h : Tri M t o cs) (hn : cs.length ≤ 1000000000) (h' : Ints M t' o' xs) (hn' : xs.length ≤ 1000000000) :
    CallsTo PG F.impl_isTop [.agg [.I x, .I y, .I z, .ref t o cs.length], .I s, .ref t' o' xs.length] M
      (.B (decide (HeapOK x y z cs ∧ 0 ≤ s ∧ ∀ k, k < xs.length → 0 ≤ xs.getD k 0 ∧ xs.getD k 0 ≤ x * y - 1))) M := by
  refine calls_run K.impl_isTop rfl ?_
  simp (disch := omega) only [C.impl_isTop, ↓SXd, SXu, slBounds, ↓sop, ↓aop, ↓reduceIte, LV.cells, AOp.dst, LV.I, LV.B, LV.U, LV.S, LV.nil, Nat.reduceEqDiff, Nat.reduceAdd, Nat.reduceMul, Nat.reduceSub, Nat.reduceLeDiff, Nat.reduceBEq, Nat.reduceDiv, Nat.reduceMod, Int.reduceToNat, Int.reduceLT, Int.reduceLE, Int.reduceAdd, Int.reduceSub, Int.reduceMul, Int.reduceEq, Int.reduceNeg, reduceCtorEq, resV, resAll, ARes.ev, LV.flat, ite_true, ite_false, exists_eq_left', exists_eq_left, keyOf, implies_true, fillC]
  refine callK_of (g_IsHeap h.app hn) ?_
  by_cases hH : HeapOK x y z cs
  · have hb := mul_bound hH.1.1 hH.1.2.1
    by_cases hs : 0 ≤ s
    · simp (disch := omega) only [hH, hs, ↓SXd, SXu, slBounds, ↓sop, ↓aop, ↓reduceIte, LV.cells, AOp.dst, LV.I, LV.B, LV.U, LV.S, LV.nil, Nat.reduceEqDiff, Nat.reduceAdd, Nat.reduceMul, Nat.reduceSub, Nat.reduceLeDiff, Nat.reduceBEq, Nat.reduceDiv, Nat.reduceMod, Int.reduceToNat, Int.reduceLT, Int.reduceLE, Int.reduceAdd, Int.reduceSub, Int.reduceMul, Int.reduceEq, Int.reduceNeg, reduceCtorEq, resV, resAll, ARes.ev, LV.flat, ite_true, ite_false, exists_eq_left', exists_eq_left, keyOf, implies_true, fillC]
      refine callK_of (g_allWithin h'.app hn') ?_
      simp (disch := omega) only [↓SXd, SXu, slBounds, ↓sop, ↓aop, ↓reduceIte, LV.cells, AOp.dst, LV.I, LV.B, LV.U, LV.S, LV.nil, Nat.reduceEqDiff, Nat.reduceAdd, Nat.reduceMul, Nat.reduceSub, Nat.reduceLeDiff, Nat.reduceBEq, Nat.reduceDiv, Nat.reduceMod, Int.reduceToNat, Int.reduceLT, Int.reduceLE, Int.reduceAdd, Int.reduceSub, Int.reduceMul, Int.reduceEq, Int.reduceNeg, reduceCtorEq, resV, resAll, ARes.ev, LV.flat, ite_true, ite_false, exists_eq_left', exists_eq_left, keyOf, implies_true, fillC]
      exact cmp_drop rfl
    · simp (disch := omega) only [hH, hs, false_and, ↓SXd, SXu, slBounds, ↓sop, ↓aop, ↓reduceIte, LV.cells, AOp.dst, LV.I, LV.B, LV.U, LV.S, LV.nil, Nat.reduceEqDiff, Nat.reduceAdd, Nat.reduceMul, Nat.reduceSub, Nat.reduceLeDiff, Nat.reduceBEq, Nat.reduceDiv, Nat.reduceMod, Int.reduceToNat, Int.reduceLT, Int.reduceLE, Int.reduceAdd, Int.reduceSub, Int.reduceMul, Int.reduceEq, Int.reduceNeg, reduceCtorEq, resV, resAll, ARes.ev, LV.flat, ite_true, ite_false, exists_eq_left', exists_eq_left, keyOf, implies_true, fillC]
      exact cmp_drop rfl
  · simp (disch := omega) only [hH, false_and, ↓SXd, SXu, slBounds, ↓sop, ↓aop, ↓reduceIte, LV.cells, AOp.dst, LV.I, LV.B, LV.U, LV.S, LV.nil, Nat.reduceEqDiff, Nat.reduceAdd, Nat.reduceMul, Nat.reduceSub, Nat.reduceLeDiff, Nat.reduceBEq, Nat.reduceDiv, Nat.reduceMod, Int.reduceToNat, Int.reduceLT, Int.reduceLE, Int.reduceAdd, Int.reduceSub, Int.reduceMul, Int.reduceEq, Int.reduceNeg, reduceCtorEq, resV, resAll, ARes.ev, LV.flat, ite_true, ite_false, exists_eq_left', exists_eq_left, keyOf, implies_true, fillC]
    exact cmp_drop rfl

theorem g_isTop_nil {x y z s : Int} {t o : Nat} {cs : List Cell} {M : Mem} (h : Tri M t o cs) (hn : cs.length ≤ 1000000000) :
    CallsTo PG F.impl_isTop [.agg [.I x, .I y, .I z, .ref t o cs.length], .I s, .nil] M (.B (decide (HeapOK x y z cs ∧ 0 ≤ s))) M := by
  refine calls_run K.impl_isTop rfl ?_
  simp (disch := omega) only [C.impl_isTop, ↓SXd, SXu, slBounds, ↓sop, ↓aop, ↓reduceIte, LV.cells, AOp.dst, LV.I, LV.B, LV.U, LV.S, LV.nil, Nat.reduceEqDiff, Nat.reduceAdd, Nat.reduceMul, Nat.reduceSub, Nat.reduceLeDiff, Nat.reduceBEq, Nat.reduceDiv, Nat.reduceMod, Int.reduceToNat, Int.reduceLT, Int.reduceLE, Int.reduceAdd, Int.reduceSub, Int.reduceMul, Int.reduceEq, Int.reduceNeg, reduceCtorEq, resV, resAll, ARes.ev, LV.flat, ite_true, ite_false, exists_eq_left', exists_eq_left, keyOf, implies_true, fillC]
  refine callK_of (g_IsHeap h.app hn) ?_
  by_cases hH : HeapOK x y z cs
  · have hb := mul_bound hH.1.1 hH.1.2.1
    by_cases hs : 0 ≤ s
    · simp (disch := omega) only [hH, hs, ↓SXd, SXu, slBounds, ↓sop, ↓aop, ↓reduceIte, LV.cells, AOp.dst, LV.I, LV.B, LV.U, LV.S, LV.nil, Nat.reduceEqDiff, Nat.reduceAdd, Nat.reduceMul, Nat.reduceSub, Nat.reduceLeDiff, Nat.reduceBEq, Nat.reduceDiv, Nat.reduceMod, Int.reduceToNat, Int.reduceLT, Int.reduceLE, Int.reduceAdd, Int.reduceSub, Int.reduceMul, Int.reduceEq, Int.reduceNeg, reduceCtorEq, resV, resAll, ARes.ev, LV.flat, ite_true, ite_false, exists_eq_left', exists_eq_left, keyOf, implies_true, fillC]
      refine callK_of g_allWithin_nil ?_
      simp (disch := omega) only [↓SXd, SXu, slBounds, ↓sop, ↓aop, ↓reduceIte, LV.cells, AOp.dst, LV.I, LV.B, LV.U, LV.S, LV.nil, Nat.reduceEqDiff, Nat.reduceAdd, Nat.reduceMul, Nat.reduceSub, Nat.reduceLeDiff, Nat.reduceBEq, Nat.reduceDiv, Nat.reduceMod, Int.reduceToNat, Int.reduceLT, Int.reduceLE, Int.reduceAdd, Int.reduceSub, Int.reduceMul, Int.reduceEq, Int.reduceNeg, reduceCtorEq, resV, resAll, ARes.ev, LV.flat, ite_true, ite_false, exists_eq_left', exists_eq_left, keyOf, implies_true, fillC]
      exact cmp_drop rfl
    · simp (disch := omega) only [hH, hs, false_and, ↓SXd, SXu, slBounds, ↓sop, ↓aop, ↓reduceIte, LV.cells, AOp.dst, LV.I, LV.B, LV.U, LV.S, LV.nil, Nat.reduceEqDiff, Nat.reduceAdd, Nat.reduceMul, Nat.reduceSub, Nat.reduceLeDiff, Nat.reduceBEq, Nat.reduceDiv, Nat.reduceMod, Int.reduceToNat, Int.reduceLT, Int.reduceLE, Int.reduceAdd, Int.reduceSub, Int.reduceMul, Int.reduceEq, Int.reduceNeg, reduceCtorEq, resV, resAll, ARes.ev, LV.flat, ite_true, ite_false, exists_eq_left', exists_eq_left, keyOf, implies_true, fillC]
      exact cmp_drop rfl
  · simp (disch := omega) only [hH, false_and, ↓SXd, SXu, slBounds, ↓sop, ↓aop, ↓reduceIte, LV.cells, AOp.dst, LV.I, LV.B, LV.U, LV.S, LV.nil, Nat.reduceEqDiff, Nat.reduceAdd, Nat.reduceMul, Nat.reduceSub, Nat.reduceLeDiff, Nat.reduceBEq, Nat.reduceDiv, Nat.reduceMod, Int.reduceToNat, Int.reduceLT, Int.reduceLE, Int.reduceAdd, Int.reduceSub, Int.reduceMul, Int.reduceEq, Int.reduceNeg, reduceCtorEq, resV, resAll, ARes.ev, LV.flat, ite_true, ite_false, exists_eq_left', exists_eq_left, keyOf, implies_true, fillC]
    exact cmp_drop rfl
end Go.Ab

/- Plain words: how far columns are, step by step. -/
namespace Go.Ab

theorem nexts_mem {x y p q : Int} (h : q ∈ nexts x y p) : 0 ≤ q ∧ q < x * y := by
  unfold nexts at h
  rw [List.mem_filter] at h
  obtain ⟨k, hk, rfl⟩ := List.mem_map.1 h.1
  rw [List.mem_range] at hk
  simp only [Int.ofNat_eq_natCast]
  omega
theorem stepsOf_mem {x y p q s : Int} {ts : List Int} (h : q ∈ stepsOf x y ts p s) : 0 ≤ q ∧ q < x * y := nexts_mem (List.mem_filter.1 h).1
theorem nexts_len {x y p : Int} (h : x * y ≤ 16) : (nexts x y p).length ≤ 16 := by
  have := List.length_filter_le (fun q => decide (apart (colOf y p) (colOf y q) = 1)) (nums (x * y).toNat)
  rw [nums_len] at this
  unfold nexts
  omega
theorem stepsOf_len {x y p s : Int} {ts : List Int} (h : x * y ≤ 16) : (stepsOf x y ts p s).length ≤ 16 := Nat.le_trans (List.length_filter_le ..) (nexts_len h)
theorem getD_mem {α : Type} {l : List α} {k : Nat} {d : α} (h : k < l.length) : l.getD k d ∈ l := by
  simp [h]

/-- One neighbour of column p is looked at. -/
def visit (p : Int) (st : List Int × List Int) (q : Int) : List Int × List Int :=
  if st.1.getD q.toNat 0 < 0 then (st.1.set q.toNat (st.1.getD p.toNat 0 + 1), st.2 ++ [q]) else st
def bfs (N : Int → List Int) : Nat → Nat → List Int × List Int → List Int
  | 0, _, st => st.1
  | f + 1, n, st => if n < st.2.length then bfs N f (n + 1) ((N (st.2.getD n 0)).foldl (visit (st.2.getD n 0)) st) else st.1
/-- How many steps lead from column p to each column, or -1. -/
def farFrom (c : Nat) (N : Int → List Int) (p : Int) : List Int := bfs N c 0 ((List.replicate c (-1)).set p.toNat 0, [p])

structure BInv (c : Nat) (st : List Int × List Int) : Prop where
  len : st.1.length = c
  cnt : st.1.countP (fun v => decide (v < 0)) + st.2.length = c
  mem : ∀ q ∈ st.2, 0 ≤ q ∧ q < (c : Int)
  val : ∀ k, k < c → -1 ≤ st.1.getD k 0 ∧ st.1.getD k 0 ≤ (st.2.length : Int)

theorem BInv.le {c : Nat} {st : List Int × List Int} (h : BInv c st) : st.2.length ≤ c := by have := h.cnt; omega

theorem BInv.visit {c : Nat} {st : List Int × List Int} {p q : Int} (h : BInv c st) (hp : 0 ≤ p ∧ p < c) (hq : 0 ≤ q ∧ q < c) : BInv c (Go.Ab.visit p st q) := by
  unfold Go.Ab.visit
  split
  · rename_i hlt
    have hql : q.toNat < st.1.length := by rw [h.len]; omega
    have hvp := h.val p.toNat (by omega)
    refine ⟨by simpa using h.len, ?_, fun r hr => ?_, fun k hk => ?_⟩
    · have h1 := h.cnt
      simp only [List.length_append, List.length_singleton]
      rw [List.countP_set hql]
      have e : st.1[q.toNat] = st.1.getD q.toNat 0 := by simp [hql]
      have h2 : 0 < st.1.countP (fun v => decide (v < 0)) := List.countP_pos_iff.2 ⟨st.1[q.toNat], List.getElem_mem _, by rw [e]; simpa using hlt⟩
      rw [e]
      simp only [hlt, decide_true, if_true, show decide (st.1.getD p.toNat 0 + 1 < 0) = false from decide_eq_false (by omega), Bool.false_eq_true, if_false]
      omega
    · rcases List.mem_append.1 hr with hr | hr
      · exact h.mem r hr
      · rw [List.mem_singleton.1 hr]; exact hq
    · simp only [List.length_append, List.length_singleton]
      rw [getD_set]
      have := h.val k hk
      split <;> omega
  · exact h

theorem visit_keep {p q : Int} {st : List Int × List Int} {n : Nat} (h : n < st.2.length) : n < (Go.Ab.visit p st q).2.length ∧ (Go.Ab.visit p st q).2.getD n 0 = st.2.getD n 0 := by
  unfold Go.Ab.visit
  split
  · simp only [List.length_append, List.length_singleton, List.getD_eq_getElem?_getD]
    rw [List.getElem?_append_left h]
    exact ⟨by omega, rfl⟩
  · exact ⟨h, rfl⟩
theorem BInv.fold {c : Nat} {p : Int} (hp : 0 ≤ p ∧ p < c) : ∀ (l : List Int) (st : List Int × List Int), BInv c st → (∀ q ∈ l, 0 ≤ q ∧ q < (c : Int)) → BInv c (l.foldl (Go.Ab.visit p) st)
  | [], st, h, _ => h
  | q :: l, st, h, hl => BInv.fold hp l _ (h.visit hp (hl q (by simp))) fun r hr => hl r (by simp [hr])

theorem BInv.start {c : Nat} {p : Int} (hp : 0 ≤ p ∧ p < c) : BInv c ((List.replicate c (-1)).set p.toNat 0, [p]) := by
  refine ⟨by simp, ?_, fun q hq => by rw [List.mem_singleton.1 hq]; exact hp, fun k hk => ?_⟩
  · have hl : p.toNat < (List.replicate c (-1 : Int)).length := by simp; omega
    simp only
    rw [List.countP_set hl, List.countP_replicate]
    simp
    omega
  · simp only [getD_set]
    split
    · simp
    · simp [hk]

theorem farFrom_len {c : Nat} {N : Int → List Int} (hN : ∀ p q, q ∈ N p → 0 ≤ q ∧ q < (c : Int)) {p : Int} (hp : 0 ≤ p ∧ p < c) : (farFrom c N p).length = c ∧ ∀ k, k < c → -1 ≤ (farFrom c N p).getD k 0 ∧ (farFrom c N p).getD k 0 ≤ c := by
  have key : ∀ f n st, BInv c st → (bfs N f n st).length = c ∧ ∀ k, k < c → -1 ≤ (bfs N f n st).getD k 0 ∧ (bfs N f n st).getD k 0 ≤ c := by
    intro f
    induction f with
    | zero => intro n st h; exact ⟨h.len, fun k hk => by have := h.val k hk; have := h.le; simp only [bfs]; omega⟩
    | succ f ih =>
      intro n st h
      simp only [bfs]
      split
      · rename_i hn
        have hm := h.mem _ (getD_mem (d := 0) hn)
        exact ih _ _ (h.fold hm _ _ fun q hq => hN _ _ hq)
      · exact ⟨h.len, fun k hk => by have := h.val k hk; have := h.le; omega⟩
  exact key _ _ _ (BInv.start hp)
end Go.Ab

/- Plain words: regions. -/
namespace Go.Ab

theorem visit_nonneg {p q : Int} {st : List Int × List Int} {k : Nat} (hp : -1 ≤ st.1.getD p.toNat 0) (h : 0 ≤ st.1.getD k 0) : 0 ≤ (visit p st q).1.getD k 0 := by
  unfold visit
  split
  · simp only [getD_set]
    split <;> omega
  · exact h

theorem bfs_nonneg {c : Nat} {N : Int → List Int} (hN : ∀ p q, q ∈ N p → 0 ≤ q ∧ q < (c : Int)) {k : Nat} : ∀ f n st, BInv c st → 0 ≤ st.1.getD k 0 → 0 ≤ (bfs N f n st).getD k 0 := by
  intro f
  induction f with
  | zero => intro n st _ h; exact h
  | succ f ih =>
    intro n st hi h
    simp only [bfs]
    split
    · rename_i hn
      have hm := hi.mem _ (getD_mem (d := 0) hn)
      have hb := BInv.fold hm (N (st.2.getD n 0)) st hi (fun q hq => hN _ q hq)
      refine ih _ _ hb ?_
      have key : ∀ (l : List Int) (st : List Int × List Int), BInv c st → (∀ q ∈ l, 0 ≤ q ∧ q < (c : Int)) → 0 ≤ st.1.getD k 0 → ∀ p : Int, 0 ≤ p ∧ p < (c : Int) → 0 ≤ (l.foldl (visit p) st).1.getD k 0 := by
        intro l
        induction l with
        | nil => intro st _ _ h p _; exact h
        | cons q l ih => intro st hi hl h p hp; exact ih _ (hi.visit hp (hl q (by simp))) (fun r hr => hl r (by simp [hr])) (visit_nonneg (hi.val p.toNat (by omega)).1 h) p hp
      exact key _ _ hi (fun q hq => hN _ q hq) h _ hm
    · exact h

theorem farFrom_self {c : Nat} {N : Int → List Int} (hN : ∀ p q, q ∈ N p → 0 ≤ q ∧ q < (c : Int)) {p : Int} (hp : 0 ≤ p ∧ p < c) : 0 ≤ (farFrom c N p).getD p.toNat 0 := by
  refine bfs_nonneg hN _ _ _ (BInv.start hp) ?_
  simp only [getD_set, List.length_replicate]
  rw [if_pos ⟨by trivial, by omega⟩]
  exact Int.le_refl 0

def spreadOf (x y : Int) (cs : List Cell) (p s : Int) : List Int := farFrom (x * y).toNat (fun q => stepsOf x y (topsOf x y cs) q s) p
theorem steps_in {x y s : Int} {ts : List Int} : ∀ p q, q ∈ stepsOf x y ts p s → 0 ≤ q ∧ q < (((x * y).toNat : Nat) : Int) := fun p q h => by have := stepsOf_mem h; omega
theorem spreadOf_len {x y : Int} {cs : List Cell} {p s : Int} (hp : 0 ≤ p ∧ p ≤ x * y - 1) : (spreadOf x y cs p s).length = (x * y).toNat := (farFrom_len steps_in (by omega)).1
theorem spreadOf_val {x y : Int} {cs : List Cell} {p s : Int} (hp : 0 ≤ p ∧ p ≤ x * y - 1) {k : Nat} (hk : k < (x * y).toNat) : -1 ≤ (spreadOf x y cs p s).getD k 0 ∧ (spreadOf x y cs p s).getD k 0 ≤ (x * y).toNat := (farFrom_len steps_in (by omega)).2 k hk
def regionOf (x y : Int) (cs : List Cell) (p s : Int) : List Int := (nums (x * y).toNat).filter fun q => decide (0 ≤ (spreadOf x y cs p s).getD q.toNat 0)
theorem regionOf_self {x y : Int} {cs : List Cell} {p s : Int} (hp : 0 ≤ p ∧ p ≤ x * y - 1) : p ∈ regionOf x y cs p s := by
  unfold regionOf
  rw [List.mem_filter]
  refine ⟨List.mem_map.2 ⟨p.toNat, List.mem_range.2 (by omega), by simp only [Int.ofNat_eq_natCast]; omega⟩, ?_⟩
  exact decide_eq_true (farFrom_self (c := (x * y).toNat) steps_in (by omega))
theorem regionOf_len {x y : Int} {cs : List Cell} {p s : Int} (hb : x * y ≤ 16) : (regionOf x y cs p s).length ≤ 16 := by
  have := List.length_filter_le (fun q => decide (0 ≤ (spreadOf x y cs p s).getD q.toNat 0)) (nums (x * y).toNat)
  rw [nums_len] at this
  unfold regionOf
  omega
def countRegions (x y : Int) (cs : List Cell) (s : Int) : Int := ((nums (x * y).toNat).filter fun p => decide ((regionOf x y cs p s).getD 0 0 = p)).length
end Go.Ab

/- Plain words: the neighbours of a column, the program's way; they are those of the reference. -/
namespace Go.Ab

def nearL (y c p : Int) : List Int :=
  (if y ≤ p then [p - y] else []) ++ ((if 0 < p.tmod y then [p - 1] else []) ++ ((if p.tmod y < y - 1 then [p + 1] else []) ++ (if p + y < c then [p + y] else [])))

theorem near_all : ∀ x : Fin 4, ∀ y : Fin 4, ∀ p : Fin 16, (p.val : Int) < ((x.val : Int) + 1) * ((y.val : Int) + 1) →
    nearL ((y.val : Int) + 1) (((x.val : Int) + 1) * ((y.val : Int) + 1)) p.val = nexts ((x.val : Int) + 1) ((y.val : Int) + 1) p.val := by decide

theorem near_eq {x y p : Int} (hx : 1 ≤ x ∧ x ≤ 4) (hy : 1 ≤ y ∧ y ≤ 4) (hp : 0 ≤ p ∧ p < x * y) : nearL y (x * y) p = nexts x y p := by
  have hb := mul_bound hx hy
  have := near_all ⟨(x - 1).toNat, by omega⟩ ⟨(y - 1).toNat, by omega⟩ ⟨p.toNat, by omega⟩
  have e1 : (((x - 1).toNat : Nat) : Int) + 1 = x := by omega
  have e2 : (((y - 1).toNat : Nat) : Int) + 1 = y := by omega
  have e3 : ((p.toNat : Nat) : Int) = p := by omega
  simp only [e1, e2, e3] at this
  exact this hp.2
end Go.Ab

/- Contracts: the program's steps between columns. -/
namespace Go.Ab
open Go
set_option linter.unusedSimpArgs false
set_option linter.unusedVariables false

theorem g_near {t o : Nat} {y p c : Int} {n : Nat} {M : Mem} (hy : 1 ≤ y ∧ y ≤ 4) (hc : 0 ≤ c ∧ c ≤ 16) (hn : (n : Int) = c) (hp : 0 ≤ p ∧ p < c) :
    CallsTo PG F.impl_top_near [.agg [.ref t o n, .I y], .I p] M (.ref M.length 0 (nearL y c p).length) (M ++ [some (.row (intL (nearL y c p)) true 1)]) := by
  have hy0 : y ≠ 0 := by omega
  have hd := div_bound hy (p := p) (by omega)
  refine calls_run K.impl_top_near rfl ?_
  simp (disch := omega) only [C.impl_top_near, ↓SXd, SXu, slBounds, ↓sop, ↓aop, ↓reduceIte, LV.cells, AOp.dst, LV.I, LV.B, LV.U, LV.S, LV.nil, Nat.reduceEqDiff, Nat.reduceAdd, Nat.reduceMul, Nat.reduceSub, Nat.reduceLeDiff, Nat.reduceBEq, Nat.reduceDiv, Nat.reduceMod, Int.reduceToNat, Int.reduceLT, Int.reduceLE, Int.reduceAdd, Int.reduceSub, Int.reduceMul, Int.reduceEq, Int.reduceNeg, reduceCtorEq, resV, resAll, ARes.ev, LV.flat, ite_true, ite_false, exists_eq_left', exists_eq_left, keyOf, implies_true, fillC]
  have hpre0 : Pre M (M ++ [some (Blk.row [.ref t o n, .I y] true 0), some (Blk.row [] true 1)]) := Pre.app _ _
  have hbox0 : Live (M ++ [some (Blk.row [.ref t o n, .I y] true 0), some (Blk.row [] true 1)]) M.length (.row [.ref t o n, .I y] true 0) := Live.new
  have hout0 : Live (M ++ [some (Blk.row [.ref t o n, .I y] true 0), some (Blk.row [] true 1)]) (M.length + 1) (.row (intL []) true 1) := Live.newj rfl
  generalize M ++ [some (Blk.row [.ref t o n, .I y] true 0), some (Blk.row [] true 1)] = M0 at hpre0 hbox0 hout0 ⊢
  refine condC_cut (fun fr M' => ∃ u, Pre M M' ∧ Live M' M.length (.row [.ref t o n, .I y] true 0) ∧ M.length < u ∧ Live M' u (.row (intL (if y ≤ p then [p - y] else [])) true 1) ∧ fr 1 = .I p ∧ fr 2 = .ptr M.length 0 ∧ fr 5 = .ref u 0 (if y ≤ p then [p - y] else []).length) ?_ ?_
  · refine condC_dec (fun h => ?_) (fun h => ?_)
    · simp (disch := omega) only [hbox0.cell, ↓SXd, SXu, slBounds, ↓sop, ↓aop, ↓reduceIte, LV.cells, AOp.dst, LV.I, LV.B, LV.U, LV.S, LV.nil, Nat.reduceEqDiff, Nat.reduceAdd, Nat.reduceMul, Nat.reduceSub, Nat.reduceLeDiff, Nat.reduceBEq, Nat.reduceDiv, Nat.reduceMod, Int.reduceToNat, Int.reduceLT, Int.reduceLE, Int.reduceAdd, Int.reduceSub, Int.reduceMul, Int.reduceEq, Int.reduceNeg, reduceCtorEq, resV, resAll, ARes.ev, LV.flat, ite_true, ite_false, exists_eq_left', exists_eq_left, keyOf, implies_true, fillC]
      refine appendK_int (acc := []) hout0 (by simp) fun M' l1 l2 l3 => ?_
      simp (disch := omega) only [↓SXd, SXu, slBounds, ↓sop, ↓aop, ↓reduceIte, LV.cells, AOp.dst, LV.I, LV.B, LV.U, LV.S, LV.nil, Nat.reduceEqDiff, Nat.reduceAdd, Nat.reduceMul, Nat.reduceSub, Nat.reduceLeDiff, Nat.reduceBEq, Nat.reduceDiv, Nat.reduceMod, Int.reduceToNat, Int.reduceLT, Int.reduceLE, Int.reduceAdd, Int.reduceSub, Int.reduceMul, Int.reduceEq, Int.reduceNeg, reduceCtorEq, resV, resAll, ARes.ev, LV.flat, ite_true, ite_false, exists_eq_left', exists_eq_left, keyOf, implies_true, fillC]
      simp only [if_pos h]
      exact ⟨_, pre_step hpre0 (by omega) l1 l3, live_step hbox0 (by omega) l3, by have := hpre0.1; omega, l2, rfl, rfl, rfl⟩
    · simp (disch := omega) only [↓SXd, SXu, slBounds, ↓sop, ↓aop, ↓reduceIte, LV.cells, AOp.dst, LV.I, LV.B, LV.U, LV.S, LV.nil, Nat.reduceEqDiff, Nat.reduceAdd, Nat.reduceMul, Nat.reduceSub, Nat.reduceLeDiff, Nat.reduceBEq, Nat.reduceDiv, Nat.reduceMod, Int.reduceToNat, Int.reduceLT, Int.reduceLE, Int.reduceAdd, Int.reduceSub, Int.reduceMul, Int.reduceEq, Int.reduceNeg, reduceCtorEq, resV, resAll, ARes.ev, LV.flat, ite_true, ite_false, exists_eq_left', exists_eq_left, keyOf, implies_true, fillC]
      simp only [if_neg h]
      exact ⟨M.length + 1, hpre0, hbox0, by omega, hout0, rfl, rfl, rfl⟩
  generalize hA1 : (if y ≤ p then [p - y] else []) = A1
  have hA1l : A1.length ≤ 1 := by rw [← hA1]; split <;> simp
  rintro fr M1 ⟨u, hpre, hbox, hu, hout, h1, h2, h5⟩
  simp (disch := omega) only [h1, h2, h5, hbox.cell, hy0, not_false_eq_true, ne_eq, ↓SXd, SXu, slBounds, ↓sop, ↓aop, ↓reduceIte, LV.cells, AOp.dst, LV.I, LV.B, LV.U, LV.S, LV.nil, Nat.reduceEqDiff, Nat.reduceAdd, Nat.reduceMul, Nat.reduceSub, Nat.reduceLeDiff, Nat.reduceBEq, Nat.reduceDiv, Nat.reduceMod, Int.reduceToNat, Int.reduceLT, Int.reduceLE, Int.reduceAdd, Int.reduceSub, Int.reduceMul, Int.reduceEq, Int.reduceNeg, reduceCtorEq, resV, resAll, ARes.ev, LV.flat, ite_true, ite_false, exists_eq_left', exists_eq_left, keyOf, implies_true, fillC]
  refine condC_cut (fun fr M' => ∃ u, Pre M M' ∧ Live M' M.length (.row [.ref t o n, .I y] true 0) ∧ M.length < u ∧ Live M' u (.row (intL (A1 ++ (if 0 < p.tmod y then [p - 1] else []))) true 1) ∧ fr 1 = .I p ∧ fr 2 = .ptr M.length 0 ∧ fr 5 = .ref u 0 (A1 ++ (if 0 < p.tmod y then [p - 1] else [])).length) ?_ ?_
  · refine condC_dec (fun h => ?_) (fun h => ?_)
    · simp (disch := omega) only [h1, h2, h5, hbox.cell, ↓SXd, SXu, slBounds, ↓sop, ↓aop, ↓reduceIte, LV.cells, AOp.dst, LV.I, LV.B, LV.U, LV.S, LV.nil, Nat.reduceEqDiff, Nat.reduceAdd, Nat.reduceMul, Nat.reduceSub, Nat.reduceLeDiff, Nat.reduceBEq, Nat.reduceDiv, Nat.reduceMod, Int.reduceToNat, Int.reduceLT, Int.reduceLE, Int.reduceAdd, Int.reduceSub, Int.reduceMul, Int.reduceEq, Int.reduceNeg, reduceCtorEq, resV, resAll, ARes.ev, LV.flat, ite_true, ite_false, exists_eq_left', exists_eq_left, keyOf, implies_true, fillC]
      refine appendK_int hout (by omega) fun M' l1 l2 l3 => ?_
      simp (disch := omega) only [h1, h2, h5, ↓SXd, SXu, slBounds, ↓sop, ↓aop, ↓reduceIte, LV.cells, AOp.dst, LV.I, LV.B, LV.U, LV.S, LV.nil, Nat.reduceEqDiff, Nat.reduceAdd, Nat.reduceMul, Nat.reduceSub, Nat.reduceLeDiff, Nat.reduceBEq, Nat.reduceDiv, Nat.reduceMod, Int.reduceToNat, Int.reduceLT, Int.reduceLE, Int.reduceAdd, Int.reduceSub, Int.reduceMul, Int.reduceEq, Int.reduceNeg, reduceCtorEq, resV, resAll, ARes.ev, LV.flat, ite_true, ite_false, exists_eq_left', exists_eq_left, keyOf, implies_true, fillC]
      simp only [if_pos h]
      exact ⟨_, pre_step hpre (by omega) l1 l3, live_step hbox (by omega) l3, by have := hpre.1; omega, l2, h1, h2, rfl⟩
    · simp (disch := omega) only [h1, h2, h5, ↓SXd, SXu, slBounds, ↓sop, ↓aop, ↓reduceIte, LV.cells, AOp.dst, LV.I, LV.B, LV.U, LV.S, LV.nil, Nat.reduceEqDiff, Nat.reduceAdd, Nat.reduceMul, Nat.reduceSub, Nat.reduceLeDiff, Nat.reduceBEq, Nat.reduceDiv, Nat.reduceMod, Int.reduceToNat, Int.reduceLT, Int.reduceLE, Int.reduceAdd, Int.reduceSub, Int.reduceMul, Int.reduceEq, Int.reduceNeg, reduceCtorEq, resV, resAll, ARes.ev, LV.flat, ite_true, ite_false, exists_eq_left', exists_eq_left, keyOf, implies_true, fillC]
      simp only [if_neg h, List.append_nil]
      exact ⟨u, hpre, hbox, hu, hout, h1, h2, h5⟩
  generalize hA2 : A1 ++ (if 0 < p.tmod y then [p - 1] else []) = A2
  have hA2l : A2.length ≤ 2 := by rw [← hA2]; simp only [List.length_append]; split <;> simp <;> omega
  clear hout h1 h2 h5 hbox hpre hu
  rintro fr M2 ⟨u, hpre, hbox, hu, hout, h1, h2, h5⟩
  simp (disch := omega) only [h1, h2, h5, hbox.cell, hy0, not_false_eq_true, ne_eq, ↓SXd, SXu, slBounds, ↓sop, ↓aop, ↓reduceIte, LV.cells, AOp.dst, LV.I, LV.B, LV.U, LV.S, LV.nil, Nat.reduceEqDiff, Nat.reduceAdd, Nat.reduceMul, Nat.reduceSub, Nat.reduceLeDiff, Nat.reduceBEq, Nat.reduceDiv, Nat.reduceMod, Int.reduceToNat, Int.reduceLT, Int.reduceLE, Int.reduceAdd, Int.reduceSub, Int.reduceMul, Int.reduceEq, Int.reduceNeg, reduceCtorEq, resV, resAll, ARes.ev, LV.flat, ite_true, ite_false, exists_eq_left', exists_eq_left, keyOf, implies_true, fillC]
  refine condC_cut (fun fr M' => ∃ u, Pre M M' ∧ Live M' M.length (.row [.ref t o n, .I y] true 0) ∧ M.length < u ∧ Live M' u (.row (intL (A2 ++ (if p.tmod y < y - 1 then [p + 1] else []))) true 1) ∧ fr 1 = .I p ∧ fr 2 = .ptr M.length 0 ∧ fr 5 = .ref u 0 (A2 ++ (if p.tmod y < y - 1 then [p + 1] else [])).length) ?_ ?_
  · refine condC_dec (fun h => ?_) (fun h => ?_)
    · simp (disch := omega) only [h1, h2, h5, hbox.cell, ↓SXd, SXu, slBounds, ↓sop, ↓aop, ↓reduceIte, LV.cells, AOp.dst, LV.I, LV.B, LV.U, LV.S, LV.nil, Nat.reduceEqDiff, Nat.reduceAdd, Nat.reduceMul, Nat.reduceSub, Nat.reduceLeDiff, Nat.reduceBEq, Nat.reduceDiv, Nat.reduceMod, Int.reduceToNat, Int.reduceLT, Int.reduceLE, Int.reduceAdd, Int.reduceSub, Int.reduceMul, Int.reduceEq, Int.reduceNeg, reduceCtorEq, resV, resAll, ARes.ev, LV.flat, ite_true, ite_false, exists_eq_left', exists_eq_left, keyOf, implies_true, fillC]
      refine appendK_int hout (by omega) fun M' l1 l2 l3 => ?_
      simp (disch := omega) only [h1, h2, h5, ↓SXd, SXu, slBounds, ↓sop, ↓aop, ↓reduceIte, LV.cells, AOp.dst, LV.I, LV.B, LV.U, LV.S, LV.nil, Nat.reduceEqDiff, Nat.reduceAdd, Nat.reduceMul, Nat.reduceSub, Nat.reduceLeDiff, Nat.reduceBEq, Nat.reduceDiv, Nat.reduceMod, Int.reduceToNat, Int.reduceLT, Int.reduceLE, Int.reduceAdd, Int.reduceSub, Int.reduceMul, Int.reduceEq, Int.reduceNeg, reduceCtorEq, resV, resAll, ARes.ev, LV.flat, ite_true, ite_false, exists_eq_left', exists_eq_left, keyOf, implies_true, fillC]
      simp only [if_pos h]
      exact ⟨_, pre_step hpre (by omega) l1 l3, live_step hbox (by omega) l3, by have := hpre.1; omega, l2, h1, h2, rfl⟩
    · simp (disch := omega) only [h1, h2, h5, ↓SXd, SXu, slBounds, ↓sop, ↓aop, ↓reduceIte, LV.cells, AOp.dst, LV.I, LV.B, LV.U, LV.S, LV.nil, Nat.reduceEqDiff, Nat.reduceAdd, Nat.reduceMul, Nat.reduceSub, Nat.reduceLeDiff, Nat.reduceBEq, Nat.reduceDiv, Nat.reduceMod, Int.reduceToNat, Int.reduceLT, Int.reduceLE, Int.reduceAdd, Int.reduceSub, Int.reduceMul, Int.reduceEq, Int.reduceNeg, reduceCtorEq, resV, resAll, ARes.ev, LV.flat, ite_true, ite_false, exists_eq_left', exists_eq_left, keyOf, implies_true, fillC]
      simp only [if_neg h, List.append_nil]
      exact ⟨u, hpre, hbox, hu, hout, h1, h2, h5⟩
  generalize hA3 : A2 ++ (if p.tmod y < y - 1 then [p + 1] else []) = A3
  have hA3l : A3.length ≤ 3 := by rw [← hA3]; simp only [List.length_append]; split <;> simp <;> omega
  clear hout h1 h2 h5 hbox hpre hu
  rintro fr M3 ⟨u, hpre, hbox, hu, hout, h1, h2, h5⟩
  have hfin : nearL y c p = A3 ++ (if p + y < c then [p + y] else []) := by rw [← hA3, ← hA2, ← hA1]; simp [nearL]
  simp (disch := omega) only [h1, h2, h5, hbox.cell, hn, ↓SXd, SXu, slBounds, ↓sop, ↓aop, ↓reduceIte, LV.cells, AOp.dst, LV.I, LV.B, LV.U, LV.S, LV.nil, Nat.reduceEqDiff, Nat.reduceAdd, Nat.reduceMul, Nat.reduceSub, Nat.reduceLeDiff, Nat.reduceBEq, Nat.reduceDiv, Nat.reduceMod, Int.reduceToNat, Int.reduceLT, Int.reduceLE, Int.reduceAdd, Int.reduceSub, Int.reduceMul, Int.reduceEq, Int.reduceNeg, reduceCtorEq, resV, resAll, ARes.ev, LV.flat, ite_true, ite_false, exists_eq_left', exists_eq_left, keyOf, implies_true, fillC]
  refine condC_dec (fun h => ?_) (fun h => ?_)
  · simp (disch := omega) only [h1, h2, h5, hbox.cell, ↓SXd, SXu, slBounds, ↓sop, ↓aop, ↓reduceIte, LV.cells, AOp.dst, LV.I, LV.B, LV.U, LV.S, LV.nil, Nat.reduceEqDiff, Nat.reduceAdd, Nat.reduceMul, Nat.reduceSub, Nat.reduceLeDiff, Nat.reduceBEq, Nat.reduceDiv, Nat.reduceMod, Int.reduceToNat, Int.reduceLT, Int.reduceLE, Int.reduceAdd, Int.reduceSub, Int.reduceMul, Int.reduceEq, Int.reduceNeg, reduceCtorEq, resV, resAll, ARes.ev, LV.flat, ite_true, ite_false, exists_eq_left', exists_eq_left, keyOf, implies_true, fillC]
    refine appendK_int hout (by omega) fun M' l1 l2 l3 => ?_
    simp (disch := omega) only [h1, h2, h5, ↓SXd, SXu, slBounds, ↓sop, ↓aop, ↓reduceIte, LV.cells, AOp.dst, LV.I, LV.B, LV.U, LV.S, LV.nil, Nat.reduceEqDiff, Nat.reduceAdd, Nat.reduceMul, Nat.reduceSub, Nat.reduceLeDiff, Nat.reduceBEq, Nat.reduceDiv, Nat.reduceMod, Int.reduceToNat, Int.reduceLT, Int.reduceLE, Int.reduceAdd, Int.reduceSub, Int.reduceMul, Int.reduceEq, Int.reduceNeg, reduceCtorEq, resV, resAll, ARes.ev, LV.flat, ite_true, ite_false, exists_eq_left', exists_eq_left, keyOf, implies_true, fillC]
    rw [hfin, if_pos h]
    have := hpre.1
    exact cmp_keepL (pre_step hpre (by omega) l1 l3) (by omega) l2 (intL_lo _) (by simp [rn, rn0, rn1])
  · simp (disch := omega) only [h1, h2, h5, ↓SXd, SXu, slBounds, ↓sop, ↓aop, ↓reduceIte, LV.cells, AOp.dst, LV.I, LV.B, LV.U, LV.S, LV.nil, Nat.reduceEqDiff, Nat.reduceAdd, Nat.reduceMul, Nat.reduceSub, Nat.reduceLeDiff, Nat.reduceBEq, Nat.reduceDiv, Nat.reduceMod, Int.reduceToNat, Int.reduceLT, Int.reduceLE, Int.reduceAdd, Int.reduceSub, Int.reduceMul, Int.reduceEq, Int.reduceNeg, reduceCtorEq, resV, resAll, ARes.ev, LV.flat, ite_true, ite_false, exists_eq_left', exists_eq_left, keyOf, implies_true, fillC]
    rw [hfin, if_neg h, List.append_nil]
    exact cmp_keepL hpre (by omega) hout (intL_lo _) (by simp [rn, rn0, rn1])

theorem g_apart {t o : Nat} {v : LV} {p q : Int} {ts : List Int} {M : Mem} (h : Ints M t o ts) (hlow : ∀ k, k < ts.length → -100 ≤ ts.getD k 0 ∧ ts.getD k 0 ≤ 100) (hp : 0 ≤ p ∧ p < (ts.length : Int)) (hq : 0 ≤ q ∧ q < (ts.length : Int)) :
    CallsTo PG F.impl_top_apart [.agg [.ref t o ts.length, v], .I p, .I q] M (.I (gap (ts.getD p.toNat 0) (ts.getD q.toNat 0))) M := by
  have hv1 := hlow p.toNat (by omega)
  have hv2 := hlow q.toNat (by omega)
  have ht := h.lt
  refine calls_run K.impl_top_apart rfl ?_
  simp (disch := omega) only [C.impl_top_apart, getCell_app, Ints.get h, maxV, if_true, ↓SXd, SXu, slBounds, ↓sop, ↓aop, ↓reduceIte, LV.cells, AOp.dst, LV.I, LV.B, LV.U, LV.S, LV.nil, Nat.reduceEqDiff, Nat.reduceAdd, Nat.reduceMul, Nat.reduceSub, Nat.reduceLeDiff, Nat.reduceBEq, Nat.reduceDiv, Nat.reduceMod, Int.reduceToNat, Int.reduceLT, Int.reduceLE, Int.reduceAdd, Int.reduceSub, Int.reduceMul, Int.reduceEq, Int.reduceNeg, reduceCtorEq, resV, resAll, ARes.ev, LV.flat, ite_true, ite_false, exists_eq_left', exists_eq_left, keyOf, implies_true, fillC]
  exact cmp_drop rfl

/-- Whether two heights are too far apart: the closure of steps. -/
theorem g_steps1 {t o b1 b2 b3 : Nat} {v : LV} {p q s : Int} {ts : List Int} {M : Mem} (h : Ints M t o ts) (hlow : ∀ k, k < ts.length → -100 ≤ ts.getD k 0 ∧ ts.getD k 0 ≤ 100) (hp : 0 ≤ p ∧ p < (ts.length : Int)) (hq : 0 ≤ q ∧ q < (ts.length : Int))
    (h1 : getCells M b1 0 2 = some [.ref t o ts.length, v]) (h2 : getCell M b2 0 = some (.I p)) (h3 : getCell M b3 0 = some (.I s)) :
    CallsTo PG F.impl_top_steps_1 [.I q, .ptr b1 0, .ptr b2 0, .ptr b3 0] M (.B (decide (s < gap (ts.getD p.toNat 0) (ts.getD q.toNat 0)))) M := by
  refine calls_run K.impl_top_steps_1 rfl ?_
  simp (disch := omega) only [C.impl_top_steps_1, h1, h2, h3, ↓SXd, SXu, slBounds, ↓sop, ↓aop, ↓reduceIte, LV.cells, AOp.dst, LV.I, LV.B, LV.U, LV.S, LV.nil, Nat.reduceEqDiff, Nat.reduceAdd, Nat.reduceMul, Nat.reduceSub, Nat.reduceLeDiff, Nat.reduceBEq, Nat.reduceDiv, Nat.reduceMod, Int.reduceToNat, Int.reduceLT, Int.reduceLE, Int.reduceAdd, Int.reduceSub, Int.reduceMul, Int.reduceEq, Int.reduceNeg, reduceCtorEq, resV, resAll, ARes.ev, LV.flat, ite_true, ite_false, exists_eq_left', exists_eq_left, keyOf, implies_true, fillC]
  refine callK_of (g_apart h hlow hp hq) ?_
  simp (disch := omega) only [h1, h2, h3, ↓SXd, SXu, slBounds, ↓sop, ↓aop, ↓reduceIte, LV.cells, AOp.dst, LV.I, LV.B, LV.U, LV.S, LV.nil, Nat.reduceEqDiff, Nat.reduceAdd, Nat.reduceMul, Nat.reduceSub, Nat.reduceLeDiff, Nat.reduceBEq, Nat.reduceDiv, Nat.reduceMod, Int.reduceToNat, Int.reduceLT, Int.reduceLE, Int.reduceAdd, Int.reduceSub, Int.reduceMul, Int.reduceEq, Int.reduceNeg, reduceCtorEq, resV, resAll, ARes.ev, LV.flat, ite_true, ite_false, exists_eq_left', exists_eq_left, keyOf, implies_true, fillC]
  exact cmp_drop0 rfl
end Go.Ab

/- Contracts: searching and deleting in slices, by a function. -/
namespace Go.Ab
open Go
set_option linter.unusedSimpArgs false
set_option linter.unusedVariables false

/-- The place of the first number with a mark, or -1. -/
def idxF (pr : Int → Bool) (xs : List Int) : Int := match xs.findIdx? pr with | some i => (i : Int) | none => -1
theorem idxF_at {pr : Int → Bool} {xs : List Int} {k : Nat} (hk : k < xs.length) (h : ∀ j, j < k → pr (xs.getD j 0) = false) (hp : pr (xs.getD k 0) = true) : idxF pr xs = k := by
  unfold idxF
  have : xs.findIdx? pr = some k := by
    rw [List.findIdx?_eq_some_iff_getElem]
    refine ⟨hk, by simpa [hk] using hp, fun j hj => ?_⟩
    have := h j hj
    simpa [show j < xs.length by omega] using this
  rw [this]
theorem idxF_none {pr : Int → Bool} {xs : List Int} (h : ∀ j, j < xs.length → pr (xs.getD j 0) = false) : idxF pr xs = -1 := by
  unfold idxF
  have : xs.findIdx? pr = none := by
    rw [List.findIdx?_eq_none_iff]
    intro x hx
    obtain ⟨j, hj⟩ := List.mem_iff_getElem?.1 hx
    have hjl : j < xs.length := by
      rcases Nat.lt_or_ge j xs.length with h' | h'
      · exact h'
      · rw [List.getElem?_eq_none h'] at hj; cases hj
    have := h j hjl
    rw [List.getD_eq_getElem?_getD, hj] at this
    exact this
  rw [this]

theorem g_IndexFunc {t o : Nat} {xs : List Int} {f : FuncId} {caps : List (Nat × Nat)} {pr : Int → Bool} {M : Mem} (h : Ints M t o xs) (hn : xs.length ≤ 1000000000)
    (hf : ∀ k, k < xs.length → CallsTo PG f ([.I (xs.getD k 0)] ++ caps.map fun p => .ptr p.1 p.2) M (.B (pr (xs.getD k 0))) M) :
    CallsTo PG F.slices_IndexFunc_Sint_int [.ref t o xs.length, .clo f caps] M (.I (idxF pr xs)) M := by
  refine calls_run K.slices_IndexFunc_Sint_int rfl ?_
  simp (disch := omega) only [C.slices_IndexFunc_Sint_int, ↓SXd, SXu, slBounds, ↓sop, ↓aop, ↓reduceIte, LV.cells, AOp.dst, LV.I, LV.B, LV.U, LV.S, LV.nil, Nat.reduceEqDiff, Nat.reduceAdd, Nat.reduceMul, Nat.reduceSub, Nat.reduceLeDiff, Nat.reduceBEq, Nat.reduceDiv, Nat.reduceMod, Int.reduceToNat, Int.reduceLT, Int.reduceLE, Int.reduceAdd, Int.reduceSub, Int.reduceMul, Int.reduceEq, Int.reduceNeg, reduceCtorEq, resV, resAll, ARes.ev, LV.flat, ite_true, ite_false, exists_eq_left', exists_eq_left, keyOf, implies_true, fillC]
  refine ev_loop (fun m fr M' => ∃ k : Nat, k + m = xs.length ∧ M' = M ∧ fr 0 = .ref t o xs.length ∧ fr 1 = .clo f caps ∧ fr 7 = .I (xs.length : Nat) ∧ fr 8 = .I k ∧ ∀ j, j < k → pr (xs.getD j 0) = false) xs.length
    ⟨0, by omega, rfl, rfl, rfl, rfl, rfl, by omega⟩ ?_
  rintro m fr M' ⟨k, hk, rfl, h0, h1, h7, h8, hj⟩
  simp (disch := omega) only [h0, h1, h7, h8, ↓SXd, SXu, slBounds, ↓sop, ↓aop, ↓reduceIte, LV.cells, AOp.dst, LV.I, LV.B, LV.U, LV.S, LV.nil, Nat.reduceEqDiff, Nat.reduceAdd, Nat.reduceMul, Nat.reduceSub, Nat.reduceLeDiff, Nat.reduceBEq, Nat.reduceDiv, Nat.reduceMod, Int.reduceToNat, Int.reduceLT, Int.reduceLE, Int.reduceAdd, Int.reduceSub, Int.reduceMul, Int.reduceEq, Int.reduceNeg, reduceCtorEq, resV, resAll, ARes.ev, LV.flat, ite_true, ite_false, exists_eq_left', exists_eq_left, keyOf, implies_true, fillC]
  refine condC_dec (fun hlt => ?_) (fun hlt => ?_)
  · simp (disch := omega) only [h0, h1, h7, h8, Ints.get h, ↓SXd, SXu, slBounds, ↓sop, ↓aop, ↓reduceIte, LV.cells, AOp.dst, LV.I, LV.B, LV.U, LV.S, LV.nil, Nat.reduceEqDiff, Nat.reduceAdd, Nat.reduceMul, Nat.reduceSub, Nat.reduceLeDiff, Nat.reduceBEq, Nat.reduceDiv, Nat.reduceMod, Int.reduceToNat, Int.reduceLT, Int.reduceLE, Int.reduceAdd, Int.reduceSub, Int.reduceMul, Int.reduceEq, Int.reduceNeg, reduceCtorEq, resV, resAll, ARes.ev, LV.flat, ite_true, ite_false, exists_eq_left', exists_eq_left, keyOf, implies_true, fillC]
    refine callK_of (hf k (by omega)) ?_
    simp (disch := omega) only [h0, h1, h7, h8, ↓SXd, SXu, slBounds, ↓sop, ↓aop, ↓reduceIte, LV.cells, AOp.dst, LV.I, LV.B, LV.U, LV.S, LV.nil, Nat.reduceEqDiff, Nat.reduceAdd, Nat.reduceMul, Nat.reduceSub, Nat.reduceLeDiff, Nat.reduceBEq, Nat.reduceDiv, Nat.reduceMod, Int.reduceToNat, Int.reduceLT, Int.reduceLE, Int.reduceAdd, Int.reduceSub, Int.reduceMul, Int.reduceEq, Int.reduceNeg, reduceCtorEq, resV, resAll, ARes.ev, LV.flat, ite_true, ite_false, exists_eq_left', exists_eq_left, keyOf, implies_true, fillC]
    refine condC_mk (fun hp => ?_) (fun hp => ?_) <;> simp (disch := omega) only [h0, h1, h7, h8, ↓SXd, SXu, slBounds, ↓sop, ↓aop, ↓reduceIte, LV.cells, AOp.dst, LV.I, LV.B, LV.U, LV.S, LV.nil, Nat.reduceEqDiff, Nat.reduceAdd, Nat.reduceMul, Nat.reduceSub, Nat.reduceLeDiff, Nat.reduceBEq, Nat.reduceDiv, Nat.reduceMod, Int.reduceToNat, Int.reduceLT, Int.reduceLE, Int.reduceAdd, Int.reduceSub, Int.reduceMul, Int.reduceEq, Int.reduceNeg, reduceCtorEq, resV, resAll, ARes.ev, LV.flat, ite_true, ite_false, exists_eq_left', exists_eq_left, keyOf, implies_true, fillC]
    · rw [idxF_at (by omega) hj hp]; exact cmp_drop0 rfl
    · refine ⟨m - 1, by omega, k + 1, by omega, rfl, h0, h1, h7, eqI (natI _), fun j hj1 => ?_⟩
      by_cases hjk : j = k
      · subst hjk; exact hp
      · exact hj j (by omega)
  · simp (disch := omega) only [h0, h1, h7, h8, ↓SXd, SXu, slBounds, ↓sop, ↓aop, ↓reduceIte, LV.cells, AOp.dst, LV.I, LV.B, LV.U, LV.S, LV.nil, Nat.reduceEqDiff, Nat.reduceAdd, Nat.reduceMul, Nat.reduceSub, Nat.reduceLeDiff, Nat.reduceBEq, Nat.reduceDiv, Nat.reduceMod, Int.reduceToNat, Int.reduceLT, Int.reduceLE, Int.reduceAdd, Int.reduceSub, Int.reduceMul, Int.reduceEq, Int.reduceNeg, reduceCtorEq, resV, resAll, ARes.ev, LV.flat, ite_true, ite_false, exists_eq_left', exists_eq_left, keyOf, implies_true, fillC]
    rw [idxF_none fun j hj1 => hj j (by omega)]; exact cmp_drop0 rfl

/-- What DeleteFunc leaves in the block: what stays, then zeros. -/
def delRow (pr : Int → Bool) (xs : List Int) : List Int := xs.filter (fun v => !pr v) ++ List.replicate (xs.length - (xs.filter fun v => !pr v).length) 0

theorem del_all {pr : Int → Bool} {xs : List Int} (h : ∀ j, j < xs.length → pr (xs.getD j 0) = false) : xs.filter (fun v => !pr v) = xs := by
  rw [List.filter_eq_self]
  intro x hx
  obtain ⟨j, hj⟩ := List.mem_iff_getElem?.1 hx
  have hjl : j < xs.length := by
    rcases Nat.lt_or_ge j xs.length with h' | h'
    · exact h'
    · rw [List.getElem?_eq_none h'] at hj; cases hj
  have := h j hjl
  rw [List.getD_eq_getElem?_getD, hj] at this
  simpa using this

theorem idxF_cases (pr : Int → Bool) (xs : List Int) : (idxF pr xs = -1 ∧ ∀ j, j < xs.length → pr (xs.getD j 0) = false) ∨
    ∃ k, k < xs.length ∧ idxF pr xs = (k : Int) ∧ (∀ j, j < k → pr (xs.getD j 0) = false) ∧ pr (xs.getD k 0) = true := by
  unfold idxF
  cases he : xs.findIdx? pr with
  | none =>
    refine .inl ⟨rfl, fun j hj => ?_⟩
    rw [List.findIdx?_eq_none_iff] at he
    exact he _ (getD_mem hj)
  | some k =>
    rw [List.findIdx?_eq_some_iff_getElem] at he
    obtain ⟨hk, h1, h2⟩ := he
    refine .inr ⟨k, hk, rfl, fun j hj => ?_, by simpa [hk] using h1⟩
    have := h2 j hj
    simpa [show j < xs.length by omega] using this

theorem take_all {pr : Int → Bool} {xs : List Int} {k : Nat} (hk : k ≤ xs.length) (h : ∀ j, j < k → pr (xs.getD j 0) = false) : (xs.take k).filter (fun v => !pr v) = xs.take k := by
  refine del_all fun j hj => ?_
  simp only [List.length_take] at hj
  have := h j (by omega)
  rw [List.getD_eq_getElem?_getD, List.getElem?_take, if_pos (by omega), ← List.getD_eq_getElem?_getD]
  exact this

theorem splice_intL {A B C : List Int} {k : Nat} (hk : k = A.length) (h : C.length = B.length) : splice (intL (A ++ B)) k (intL C) = intL (A ++ C) := by
  subst hk
  unfold splice
  rw [intL_append, intL_append, List.take_left' (intL_len A), intL_len, List.drop_of_length_le (by simp [intL_len]; omega), List.append_nil]

theorem g_DeleteFunc {t : Nat} {xs : List Int} {f : FuncId} {caps : List (Nat × Nat)} {pr : Int → Bool} {M : Mem} (ht : Live M t (.row (intL xs) true 1)) (hn : xs.length ≤ 1000000000)
    (hf : ∀ M', M'.length = M.length → (∀ u, u ≠ t → M'[u]? = M[u]?) → ∀ k, k < xs.length → CallsTo PG f ([.I (xs.getD k 0)] ++ caps.map fun p => .ptr p.1 p.2) M' (.B (pr (xs.getD k 0))) M') :
    CallsTo PG F.slices_DeleteFunc_Sint_int [.ref t 0 xs.length, .clo f caps] M (.ref t 0 (xs.filter fun v => !pr v).length) (M.set t (some (.row (intL (delRow pr xs)) true 1))) := by
  refine calls_run K.slices_DeleteFunc_Sint_int rfl ?_
  simp (disch := omega) only [C.slices_DeleteFunc_Sint_int, ↓SXd, SXu, slBounds, ↓sop, ↓aop, ↓reduceIte, LV.cells, AOp.dst, LV.I, LV.B, LV.U, LV.S, LV.nil, Nat.reduceEqDiff, Nat.reduceAdd, Nat.reduceMul, Nat.reduceSub, Nat.reduceLeDiff, Nat.reduceBEq, Nat.reduceDiv, Nat.reduceMod, Int.reduceToNat, Int.reduceLT, Int.reduceLE, Int.reduceAdd, Int.reduceSub, Int.reduceMul, Int.reduceEq, Int.reduceNeg, reduceCtorEq, resV, resAll, ARes.ev, LV.flat, ite_true, ite_false, exists_eq_left', exists_eq_left, keyOf, implies_true, fillC]
  refine callK_of (g_IndexFunc ht.has hn (hf M rfl fun _ _ => rfl)) ?_
  rcases idxF_cases pr xs with ⟨he, hall⟩ | ⟨i0, hi0, he, hbef, hat⟩
  · simp (disch := omega) only [he, ↓SXd, SXu, slBounds, ↓sop, ↓aop, ↓reduceIte, LV.cells, AOp.dst, LV.I, LV.B, LV.U, LV.S, LV.nil, Nat.reduceEqDiff, Nat.reduceAdd, Nat.reduceMul, Nat.reduceSub, Nat.reduceLeDiff, Nat.reduceBEq, Nat.reduceDiv, Nat.reduceMod, Int.reduceToNat, Int.reduceLT, Int.reduceLE, Int.reduceAdd, Int.reduceSub, Int.reduceMul, Int.reduceEq, Int.reduceNeg, reduceCtorEq, resV, resAll, ARes.ev, LV.flat, ite_true, ite_false, exists_eq_left', exists_eq_left, keyOf, implies_true, fillC]
    have e1 := del_all hall
    have e2 : M.set t (some (.row (intL (delRow pr xs)) true 1)) = M := by
      rw [show delRow pr xs = xs by simp [delRow, e1]]
      apply List.ext_getElem?
      intro u
      by_cases hu : t = u
      · subst hu; rw [List.getElem?_set]; simp only [ht.lt, if_true]; exact (show M[t]? = _ from ht).symm
      · rw [List.getElem?_set_ne hu]
    rw [e2, e1]
    exact cmp_same (Nat.le_refl _) fun _ _ h => .inl h
  · have hne : ¬ (i0 : Int) = -1 := by omega
    have hF0 : (xs.take (i0 + 1)).filter (fun v => !pr v) = xs.take i0 := by
      have e : xs[i0]? = some (xs.getD i0 0) := by simp [hi0]
      rw [List.take_add_one, List.filter_append, take_all (by omega) hbef, e]
      simp only [Option.toList]
      rw [List.filter_cons_of_neg (by simpa using hat)]
      simp
    simp (disch := omega) only [he, hne, ↓SXd, SXu, slBounds, ↓sop, ↓aop, ↓reduceIte, LV.cells, AOp.dst, LV.I, LV.B, LV.U, LV.S, LV.nil, Nat.reduceEqDiff, Nat.reduceAdd, Nat.reduceMul, Nat.reduceSub, Nat.reduceLeDiff, Nat.reduceBEq, Nat.reduceDiv, Nat.reduceMod, Int.reduceToNat, Int.reduceLT, Int.reduceLE, Int.reduceAdd, Int.reduceSub, Int.reduceMul, Int.reduceEq, Int.reduceNeg, reduceCtorEq, resV, resAll, ARes.ev, LV.flat, ite_true, ite_false, exists_eq_left', exists_eq_left, keyOf, implies_true, fillC]
    refine ev_loop (fun m fr M' => ∃ (j : Nat) (acc : List Int), j + m = xs.length ∧ acc = (xs.take j).filter (fun v => !pr v) ∧ acc.length < j ∧ M' = M.set t (some (.row (intL (acc ++ xs.drop acc.length)) true 1)) ∧
      fr 0 = .ref t 0 xs.length ∧ fr 1 = .clo f caps ∧ fr 5 = .I (acc.length : Nat) ∧ fr 6 = .I j) (xs.length - (i0 + 1)) ⟨i0 + 1, xs.take i0, by omega, hF0.symm, by simp; omega, ?_, rfl, rfl, ?_, rfl⟩ ?_
    · have hl : (xs.take i0).length = i0 := by simp; omega
      rw [hl, List.take_append_drop]
      apply List.ext_getElem?
      intro u
      by_cases hu : t = u
      · subst hu; rw [List.getElem?_set]; simp only [ht.lt, if_true]; exact (show M[t]? = _ from ht)
      · rw [List.getElem?_set_ne hu]
    · have hl : (xs.take i0).length = i0 := by simp; omega
      rw [hl]; rfl
    · rintro m fr M' ⟨j, acc, hj, hacc, haj, rfl, h0, h1, h5, h6⟩
      have hlive : Live (M.set t (some (.row (intL (acc ++ xs.drop acc.length)) true 1))) t (.row (intL (acc ++ xs.drop acc.length)) true 1) := ht.set_eq
      have hlen : (acc ++ xs.drop acc.length).length = xs.length := by simp; omega
      simp (disch := omega) only [h0, h1, h5, h6, ↓SXd, SXu, slBounds, ↓sop, ↓aop, ↓reduceIte, LV.cells, AOp.dst, LV.I, LV.B, LV.U, LV.S, LV.nil, Nat.reduceEqDiff, Nat.reduceAdd, Nat.reduceMul, Nat.reduceSub, Nat.reduceLeDiff, Nat.reduceBEq, Nat.reduceDiv, Nat.reduceMod, Int.reduceToNat, Int.reduceLT, Int.reduceLE, Int.reduceAdd, Int.reduceSub, Int.reduceMul, Int.reduceEq, Int.reduceNeg, reduceCtorEq, resV, resAll, ARes.ev, LV.flat, ite_true, ite_false, exists_eq_left', exists_eq_left, keyOf, implies_true, fillC]
      refine condC_dec (fun hlt => ?_) (fun hlt => ?_)
      · have hget : (acc ++ xs.drop acc.length).getD j 0 = xs.getD j 0 := by
          simp only [List.getD_eq_getElem?_getD]
          rw [List.getElem?_append_right (by omega), List.getElem?_drop]
          congr 2
          omega
        have e : xs[j]? = some (xs.getD j 0) := by simp [show j < xs.length by omega]
        simp (disch := omega) only [h0, h1, h5, h6, hlive.cell, hlen, intL_get, hget, ↓SXd, SXu, slBounds, ↓sop, ↓aop, ↓reduceIte, LV.cells, AOp.dst, LV.I, LV.B, LV.U, LV.S, LV.nil, Nat.reduceEqDiff, Nat.reduceAdd, Nat.reduceMul, Nat.reduceSub, Nat.reduceLeDiff, Nat.reduceBEq, Nat.reduceDiv, Nat.reduceMod, Int.reduceToNat, Int.reduceLT, Int.reduceLE, Int.reduceAdd, Int.reduceSub, Int.reduceMul, Int.reduceEq, Int.reduceNeg, reduceCtorEq, resV, resAll, ARes.ev, LV.flat, ite_true, ite_false, exists_eq_left', exists_eq_left, keyOf, implies_true, fillC]
        refine callK_of (hf _ (by simp) (fun u hu => List.getElem?_set_ne (fun e => hu e.symm)) j (by omega)) ?_
        simp (disch := omega) only [h0, h1, h5, h6, ↓SXd, SXu, slBounds, ↓sop, ↓aop, ↓reduceIte, LV.cells, AOp.dst, LV.I, LV.B, LV.U, LV.S, LV.nil, Nat.reduceEqDiff, Nat.reduceAdd, Nat.reduceMul, Nat.reduceSub, Nat.reduceLeDiff, Nat.reduceBEq, Nat.reduceDiv, Nat.reduceMod, Int.reduceToNat, Int.reduceLT, Int.reduceLE, Int.reduceAdd, Int.reduceSub, Int.reduceMul, Int.reduceEq, Int.reduceNeg, reduceCtorEq, resV, resAll, ARes.ev, LV.flat, ite_true, ite_false, exists_eq_left', exists_eq_left, keyOf, implies_true, fillC]
        refine condC_mk (fun hp => ?_) (fun hp => ?_)
        · simp (disch := omega) only [h0, h1, h5, h6, ↓SXd, SXu, slBounds, ↓sop, ↓aop, ↓reduceIte, LV.cells, AOp.dst, LV.I, LV.B, LV.U, LV.S, LV.nil, Nat.reduceEqDiff, Nat.reduceAdd, Nat.reduceMul, Nat.reduceSub, Nat.reduceLeDiff, Nat.reduceBEq, Nat.reduceDiv, Nat.reduceMod, Int.reduceToNat, Int.reduceLT, Int.reduceLE, Int.reduceAdd, Int.reduceSub, Int.reduceMul, Int.reduceEq, Int.reduceNeg, reduceCtorEq, resV, resAll, ARes.ev, LV.flat, ite_true, ite_false, exists_eq_left', exists_eq_left, keyOf, implies_true, fillC]
          refine ⟨m - 1, by omega, j + 1, acc, by omega, ?_, by omega, rfl, h0, h1, h5, eqI (natI _)⟩
          rw [List.take_add_one, List.filter_append, ← hacc, e]
          simp only [Option.toList]
          rw [List.filter_cons_of_neg (by simpa using hp)]; simp
        · simp (disch := omega) only [h0, h1, h5, h6, ↓SXd, SXu, slBounds, ↓sop, ↓aop, ↓reduceIte, LV.cells, AOp.dst, LV.I, LV.B, LV.U, LV.S, LV.nil, Nat.reduceEqDiff, Nat.reduceAdd, Nat.reduceMul, Nat.reduceSub, Nat.reduceLeDiff, Nat.reduceBEq, Nat.reduceDiv, Nat.reduceMod, Int.reduceToNat, Int.reduceLT, Int.reduceLE, Int.reduceAdd, Int.reduceSub, Int.reduceMul, Int.reduceEq, Int.reduceNeg, reduceCtorEq, resV, resAll, ARes.ev, LV.flat, ite_true, ite_false, exists_eq_left', exists_eq_left, keyOf, implies_true, fillC]
          rw [hlive.setC, if_pos (by rw [intL_len]; simp; omega), splice_int (by omega)]
          simp (disch := omega) only [h0, h1, h5, h6, List.set_set, ↓SXd, SXu, slBounds, ↓sop, ↓aop, ↓reduceIte, LV.cells, AOp.dst, LV.I, LV.B, LV.U, LV.S, LV.nil, Nat.reduceEqDiff, Nat.reduceAdd, Nat.reduceMul, Nat.reduceSub, Nat.reduceLeDiff, Nat.reduceBEq, Nat.reduceDiv, Nat.reduceMod, Int.reduceToNat, Int.reduceLT, Int.reduceLE, Int.reduceAdd, Int.reduceSub, Int.reduceMul, Int.reduceEq, Int.reduceNeg, reduceCtorEq, resV, resAll, ARes.ev, LV.flat, ite_true, ite_false, exists_eq_left', exists_eq_left, keyOf, implies_true, fillC]
          refine ⟨m - 1, by omega, j + 1, acc ++ [xs.getD j 0], by omega, ?_, by simp; omega, ?_, h0, h1, eqI (by simp), eqI (natI _)⟩
          · rw [List.take_add_one, List.filter_append, ← hacc, e]
            simp only [Option.toList]
            rw [List.filter_cons_of_pos (by simpa using hp)]; rfl
          · congr 3
            rw [List.set_append_right _ _ (by omega), Nat.sub_self, List.drop_eq_getElem_cons (show acc.length < xs.length by omega), List.set_cons_zero]
            simp
      · simp (disch := omega) only [h0, h1, h5, h6, hlive.esz, made_int, if_true, ↓SXd, SXu, slBounds, ↓sop, ↓aop, ↓reduceIte, LV.cells, AOp.dst, LV.I, LV.B, LV.U, LV.S, LV.nil, Nat.reduceEqDiff, Nat.reduceAdd, Nat.reduceMul, Nat.reduceSub, Nat.reduceLeDiff, Nat.reduceBEq, Nat.reduceDiv, Nat.reduceMod, Int.reduceToNat, Int.reduceLT, Int.reduceLE, Int.reduceAdd, Int.reduceSub, Int.reduceMul, Int.reduceEq, Int.reduceNeg, reduceCtorEq, resV, resAll, ARes.ev, LV.flat, ite_true, ite_false, exists_eq_left', exists_eq_left, keyOf, implies_true, fillC]
        rw [hlive.setC, if_pos (by rw [intL_len, intL_len]; simp <;> omega), splice_intL rfl (by simp)]
        simp (disch := omega) only [h0, h1, h5, h6, List.set_set, hlive.esz, ht.set_eq.esz, if_true, ↓SXd, SXu, slBounds, ↓sop, ↓aop, ↓reduceIte, LV.cells, AOp.dst, LV.I, LV.B, LV.U, LV.S, LV.nil, Nat.reduceEqDiff, Nat.reduceAdd, Nat.reduceMul, Nat.reduceSub, Nat.reduceLeDiff, Nat.reduceBEq, Nat.reduceDiv, Nat.reduceMod, Int.reduceToNat, Int.reduceLT, Int.reduceLE, Int.reduceAdd, Int.reduceSub, Int.reduceMul, Int.reduceEq, Int.reduceNeg, reduceCtorEq, resV, resAll, ARes.ev, LV.flat, ite_true, ite_false, exists_eq_left', exists_eq_left, keyOf, implies_true, fillC]
        have : j = xs.length := by omega
        subst this
        rw [List.take_length] at hacc
        rw [← hacc, show delRow pr xs = acc ++ List.replicate (xs.length - acc.length) 0 by unfold delRow; rw [← hacc]]
        exact cmp_set
end Go.Ab

/- Contracts: the program's steps; repeated numbers. -/
namespace Go.Ab
open Go
set_option linter.unusedSimpArgs false
set_option linter.unusedVariables false
set_option maxRecDepth 20000

theorem gap_comm (a b : Int) : gap a b = gap b a := by unfold gap; omega

/-- The row that the program's steps leave: the steps, then zeros. -/
def stepRow (x y : Int) (ts : List Int) (p s : Int) : List Int := stepsOf x y ts p s ++ List.replicate ((nexts x y p).length - (stepsOf x y ts p s).length) 0

theorem g_steps {x y p s : Int} {t o : Nat} {ts : List Int} {M : Mem} (hx : 1 ≤ x ∧ x ≤ 4) (hy : 1 ≤ y ∧ y ≤ 4) (hp : 0 ≤ p ∧ p ≤ x * y - 1) (h : Ints M t o ts) (hl : ts.length = (x * y).toNat) (hlow : ∀ k, k < ts.length → -100 ≤ ts.getD k 0 ∧ ts.getD k 0 ≤ 100) :
    CallsTo PG F.impl_top_steps [.agg [.ref t o (x * y).toNat, .I y], .I p, .I s] M (.ref M.length 0 (stepsOf x y ts p s).length) (M ++ [some (.row (intL (stepRow x y ts p s)) true 1)]) := by
  have hb := mul_bound hx hy
  have hnl := nexts_len (x := x) (y := y) (p := p) hb.2
  have hne : nearL y (x * y) p = nexts x y p := near_eq hx hy (by omega)
  have ht := h.lt
  refine calls_run K.impl_top_steps rfl ?_
  simp (disch := omega) only [C.impl_top_steps, ↓SXd, SXu, slBounds, ↓sop, ↓aop, ↓reduceIte, LV.cells, AOp.dst, LV.I, LV.B, LV.U, LV.S, LV.nil, Nat.reduceEqDiff, Nat.reduceAdd, Nat.reduceMul, Nat.reduceSub, Nat.reduceLeDiff, Nat.reduceBEq, Nat.reduceDiv, Nat.reduceMod, Int.reduceToNat, Int.reduceLT, Int.reduceLE, Int.reduceAdd, Int.reduceSub, Int.reduceMul, Int.reduceEq, Int.reduceNeg, reduceCtorEq, resV, resAll, ARes.ev, LV.flat, ite_true, ite_false, exists_eq_left', exists_eq_left, keyOf, implies_true, fillC]
  refine callK_of (g_near (c := x * y) hy (by omega) (by omega) (by omega)) ?_
  rw [hne]
  simp (disch := omega) only [capOf, ↓SXd, SXu, slBounds, ↓sop, ↓aop, ↓reduceIte, LV.cells, AOp.dst, LV.I, LV.B, LV.U, LV.S, LV.nil, Nat.reduceEqDiff, Nat.reduceAdd, Nat.reduceMul, Nat.reduceSub, Nat.reduceLeDiff, Nat.reduceBEq, Nat.reduceDiv, Nat.reduceMod, Int.reduceToNat, Int.reduceLT, Int.reduceLE, Int.reduceAdd, Int.reduceSub, Int.reduceMul, Int.reduceEq, Int.reduceNeg, reduceCtorEq, resV, resAll, ARes.ev, LV.flat, ite_true, ite_false, exists_eq_left', exists_eq_left, keyOf, implies_true, fillC]
  have hlive : Live (M ++ [some (Blk.row [.ref t o (x * y).toNat, .I y] true 0), some (Blk.row [.I p] true 0), some (Blk.row [.I s] true 0), some (Blk.row (intL (nexts x y p)) true 1)]) (M.length + 3) (.row (intL (nexts x y p)) true 1) := Live.newj rfl
  refine callK_of (g_DeleteFunc (pr := fun v => decide (s < gap (ts.getD p.toNat 0) (ts.getD v.toNat 0))) hlive (by omega) fun M' hM' hu k hk => ?_) ?_
  · have hq := nexts_mem (getD_mem (d := 0) hk)
    have e0 : M'[M.length]? = some (some (Blk.row [.ref t o (x * y).toNat, .I y] true 0)) := by rw [hu _ (by omega), at_0]; rfl
    have e1 : M'[M.length + 1]? = some (some (Blk.row [.I p] true 0)) := by rw [hu _ (by omega), at_j]; rfl
    have e2 : M'[M.length + 2]? = some (some (Blk.row [.I s] true 0)) := by rw [hu _ (by omega), at_j]; rfl
    have hpre : Pre M M' := ⟨by rw [hM']; simp, fun u hul => by rw [hu u (by omega), List.getElem?_append_left hul]⟩
    have l0 : Live M' M.length _ := e0
    have l1 : Live M' (M.length + 1) _ := e1
    have l2 : Live M' (M.length + 2) _ := e2
    have hI : Ints M' t o ts := h.pre hpre
    exact g_steps1 hI hlow (by omega) (by omega) (by rw [l0.cells, hl]; rfl) (by rw [l1.cell]; rfl) (by rw [l2.cell]; rfl)
  · have hfil : (nexts x y p).filter (fun v => !decide (s < gap (ts.getD p.toNat 0) (ts.getD v.toNat 0))) = stepsOf x y ts p s := by
      unfold stepsOf
      apply List.filter_congr
      intro q _
      rw [gap_comm (ts.getD p.toNat 0)]
      generalize gap (ts.getD q.toNat 0) (ts.getD p.toNat 0) = g
      by_cases hg : s < g
      · rw [decide_eq_true hg, decide_eq_false (show ¬ g ≤ s by omega)]; rfl
      · rw [decide_eq_false hg, decide_eq_true (show g ≤ s by omega)]; rfl
    rw [hfil, show delRow (fun v => decide (s < gap (ts.getD p.toNat 0) (ts.getD v.toNat 0))) (nexts x y p) = stepRow x y ts p s by unfold delRow stepRow; rw [hfil]]
    simp (disch := omega) only [↓SXd, SXu, slBounds, ↓sop, ↓aop, ↓reduceIte, LV.cells, AOp.dst, LV.I, LV.B, LV.U, LV.S, LV.nil, Nat.reduceEqDiff, Nat.reduceAdd, Nat.reduceMul, Nat.reduceSub, Nat.reduceLeDiff, Nat.reduceBEq, Nat.reduceDiv, Nat.reduceMod, Int.reduceToNat, Int.reduceLT, Int.reduceLE, Int.reduceAdd, Int.reduceSub, Int.reduceMul, Int.reduceEq, Int.reduceNeg, reduceCtorEq, resV, resAll, ARes.ev, LV.flat, ite_true, ite_false, exists_eq_left', exists_eq_left, keyOf, implies_true, fillC]
    exact cmp_keep1 (j := 3) rfl (intL_lo _) (by simp [rn, rn0, rn1, keepR_n])

theorem and_mask {n : Int} (h : 0 ≤ n ∧ n ≤ 4294967295) : (((BitVec.ofInt 64 n &&& BitVec.ofInt 64 4294967295).toNat : Nat) : Int) = n := by
  have h1 : BitVec.ofInt 64 n &&& BitVec.ofInt 64 4294967295 = BitVec.ofInt 64 n := by
    apply BitVec.eq_of_toNat_eq
    rw [BitVec.toNat_and]
    have e : (BitVec.ofInt 64 4294967295).toNat = 2 ^ 32 - 1 := by decide
    rw [e, Nat.and_two_pow_sub_one_eq_mod]
    apply Nat.mod_eq_of_lt
    rw [BitVec.toNat_ofInt]
    omega
  rw [h1, BitVec.toNat_ofInt]
  omega
theorem and_mask' {n : Int} (h : 0 ≤ n ∧ n ≤ 4294967295) : (((BitVec.ofInt IntKind.u64.bits n &&& BitVec.ofInt IntKind.u64.bits 4294967295).toNat : Nat) : Int) = n := and_mask h
theorem m32 : min 32 IntKind.u64.bits = 32 := rfl
theorem shr_0 {n : Int} (h : 0 ≤ n ∧ n ≤ 4294967295) : n.fdiv (2 ^ 32) = 0 := by
  rw [Int.fdiv_eq_ediv_of_nonneg _ (by decide)]
  omega
theorem wrap_u {x : Int} (h : 0 ≤ x ∧ x ≤ 18446744073709551615) : IntKind.u64.wrap x = x := by
  rw [IntKind.wrap_u64]; omega

theorem g_Mul64 {n : Int} {M : Mem} (h : 0 ≤ n ∧ n ≤ 4294967295) : CallsTo PG F.math_bits_Mul64 [.U 1, .U n] M (.tup [.U 0, .U n]) M := by
  refine calls_run K.math_bits_Mul64 rfl ?_
  simp (disch := omega) only [C.math_bits_Mul64, and_mask', m32, shr_0, wrap_u, Int.zero_mul, Int.mul_zero, Int.one_mul, Int.zero_add, Int.add_zero, ↓SXd, SXu, slBounds, ↓sop, ↓aop, ↓reduceIte, LV.cells, AOp.dst, LV.I, LV.B, LV.U, LV.S, LV.nil, Nat.reduceEqDiff, Nat.reduceAdd, Nat.reduceMul, Nat.reduceSub, Nat.reduceLeDiff, Nat.reduceBEq, Nat.reduceDiv, Nat.reduceMod, Int.reduceToNat, Int.reduceLT, Int.reduceLE, Int.reduceAdd, Int.reduceSub, Int.reduceMul, Int.reduceEq, Int.reduceNeg, reduceCtorEq, resV, resAll, ARes.ev, LV.flat, ite_true, ite_false, exists_eq_left', exists_eq_left, keyOf, implies_true, fillC]
  exact cmp_drop0 rfl

theorem g_Mul {n : Int} {M : Mem} (h : 0 ≤ n ∧ n ≤ 4294967295) : CallsTo PG F.math_bits_Mul [.U 1, .U n] M (.tup [.U 0, .U n]) M := by
  refine calls_run K.math_bits_Mul rfl ?_
  simp (disch := omega) only [C.math_bits_Mul, ↓SXd, SXu, slBounds, ↓sop, ↓aop, ↓reduceIte, LV.cells, AOp.dst, LV.I, LV.B, LV.U, LV.S, LV.nil, Nat.reduceEqDiff, Nat.reduceAdd, Nat.reduceMul, Nat.reduceSub, Nat.reduceLeDiff, Nat.reduceBEq, Nat.reduceDiv, Nat.reduceMod, Int.reduceToNat, Int.reduceLT, Int.reduceLE, Int.reduceAdd, Int.reduceSub, Int.reduceMul, Int.reduceEq, Int.reduceNeg, reduceCtorEq, resV, resAll, ARes.ev, LV.flat, ite_true, ite_false, exists_eq_left', exists_eq_left, keyOf, implies_true, fillC]
  refine callK_of (g_Mul64 h) ?_
  simp (disch := omega) only [↓SXd, SXu, slBounds, ↓sop, ↓aop, ↓reduceIte, LV.cells, AOp.dst, LV.I, LV.B, LV.U, LV.S, LV.nil, Nat.reduceEqDiff, Nat.reduceAdd, Nat.reduceMul, Nat.reduceSub, Nat.reduceLeDiff, Nat.reduceBEq, Nat.reduceDiv, Nat.reduceMod, Int.reduceToNat, Int.reduceLT, Int.reduceLE, Int.reduceAdd, Int.reduceSub, Int.reduceMul, Int.reduceEq, Int.reduceNeg, reduceCtorEq, resV, resAll, ARes.ev, LV.flat, ite_true, ite_false, exists_eq_left', exists_eq_left, keyOf, implies_true, fillC]
  exact cmp_drop0 rfl

theorem copyK_int {M : Mem} {t off m t' o' n' : Nat} {xs ys : List Int} {A : Nat → Mem → Prop} (ht : Live M t (.row (intL xs) true 1)) (hm : off + m ≤ xs.length) (hs : Ints M t' o' ys) (hn : ys.length = n') (hn0 : 0 < n')
    (hA : ∀ M', M'.length = M.length → Live M' t (.row (intL (xs.take off ++ ys.take (min n' m) ++ xs.drop (off + min n' m))) true 1) → (∀ u, u ≠ t → u < M.length → M'[u]? = M[u]?) → A (min n' m) M') : copyK 1 (.ref t off m) (.ref t' o' n') M A := by
  subst hn
  have hl : ((intL ys).take (min ys.length m)).length = min ys.length m := by rw [List.length_take, intL_len]; omega
  have hg : getCells M t' o' ys.length = some (intL ys) := by have := hs.all; rwa [intL_len] at this
  simp only [copyK, lenS, winC, if_neg (show ¬ ys.length = 0 by omega), Nat.mul_one, hg]
  rw [ht.setC, if_pos (by rw [hl, intL_len] <;> omega)]
  refine hA _ (by simp) ?_ fun u hu _ => List.getElem?_set_ne (fun e => hu e.symm)
  have e : splice (intL xs) off ((intL ys).take (min ys.length m)) = intL (xs.take off ++ ys.take (min ys.length m) ++ xs.drop (off + min ys.length m)) := by
    unfold splice
    rw [hl]
    simp [intL, List.map_take, List.map_drop]
  rw [e]
  exact ht.set_eq

theorem g_Repeat {t o : Nat} {v : Int} {n : Nat} {M : Mem} (h : Ints M t o [v]) (hn : n ≤ 1000) (hn0 : 0 < n) :
    CallsTo PG F.slices_Repeat_Sint_int [.ref t o 1, .I n] M (.ref M.length 0 n) (M ++ [some (.row (intL (List.replicate n v)) true 1)]) := by
  refine calls_run K.slices_Repeat_Sint_int rfl ?_
  simp (disch := omega) only [C.slices_Repeat_Sint_int, wrap_u, Int.natCast_one, ↓SXd, SXu, slBounds, ↓sop, ↓aop, ↓reduceIte, LV.cells, AOp.dst, LV.I, LV.B, LV.U, LV.S, LV.nil, Nat.reduceEqDiff, Nat.reduceAdd, Nat.reduceMul, Nat.reduceSub, Nat.reduceLeDiff, Nat.reduceBEq, Nat.reduceDiv, Nat.reduceMod, Int.reduceToNat, Int.reduceLT, Int.reduceLE, Int.reduceAdd, Int.reduceSub, Int.reduceMul, Int.reduceEq, Int.reduceNeg, reduceCtorEq, resV, resAll, ARes.ev, LV.flat, ite_true, ite_false, exists_eq_left', exists_eq_left, keyOf, implies_true, fillC]
  refine callK_of (g_Mul (by omega)) ?_
  simp (disch := omega) only [wrap_u, made_int, ↓SXd, SXu, slBounds, ↓sop, ↓aop, ↓reduceIte, LV.cells, AOp.dst, LV.I, LV.B, LV.U, LV.S, LV.nil, Nat.reduceEqDiff, Nat.reduceAdd, Nat.reduceMul, Nat.reduceSub, Nat.reduceLeDiff, Nat.reduceBEq, Nat.reduceDiv, Nat.reduceMod, Int.reduceToNat, Int.reduceLT, Int.reduceLE, Int.reduceAdd, Int.reduceSub, Int.reduceMul, Int.reduceEq, Int.reduceNeg, reduceCtorEq, resV, resAll, ARes.ev, LV.flat, ite_true, ite_false, exists_eq_left', exists_eq_left, keyOf, implies_true, fillC]
  refine copyK_int (xs := List.replicate n 0) Live.new (by simp) h.app rfl (by simp) fun M1 l1 l2 l3 => ?_
  have hpre1 : Pre M M1 := pre_step (Pre.app M _) (Nat.le_refl _) (j := 0) l1 l3
  have e1 : (List.replicate n (0 : Int)).take 0 ++ [v].take (min 1 n) ++ (List.replicate n (0 : Int)).drop (0 + min 1 n) = List.replicate 1 v ++ List.replicate (n - 1) 0 := by
    rw [show min 1 n = 1 by omega]; simp
  have e2 : min 1 n = 1 := by omega
  rw [e1] at l2
  simp (disch := omega) only [List.length_singleton, e2, Int.natCast_one, ↓SXd, SXu, slBounds, ↓sop, ↓aop, ↓reduceIte, LV.cells, AOp.dst, LV.I, LV.B, LV.U, LV.S, LV.nil, Nat.reduceEqDiff, Nat.reduceAdd, Nat.reduceMul, Nat.reduceSub, Nat.reduceLeDiff, Nat.reduceBEq, Nat.reduceDiv, Nat.reduceMod, Int.reduceToNat, Int.reduceLT, Int.reduceLE, Int.reduceAdd, Int.reduceSub, Int.reduceMul, Int.reduceEq, Int.reduceNeg, reduceCtorEq, resV, resAll, ARes.ev, LV.flat, ite_true, ite_false, exists_eq_left', exists_eq_left, keyOf, implies_true, fillC]
  refine ev_loop (fun m fr M' => ∃ k : Nat, k + m = n ∧ 1 ≤ k ∧ Pre M M' ∧ Live M' M.length (.row (intL (List.replicate k v ++ List.replicate (n - k) 0)) true 1) ∧ fr 7 = .ref M.length 0 n ∧ fr 8 = .I k) (n - 1)
    ⟨1, by omega, by omega, hpre1, l2, rfl, rfl⟩ ?_
  rintro m fr M' ⟨k, hk, hk1, hpre, hrow, h7, h8⟩
  simp (disch := omega) only [h7, h8, ↓SXd, SXu, slBounds, ↓sop, ↓aop, ↓reduceIte, LV.cells, AOp.dst, LV.I, LV.B, LV.U, LV.S, LV.nil, Nat.reduceEqDiff, Nat.reduceAdd, Nat.reduceMul, Nat.reduceSub, Nat.reduceLeDiff, Nat.reduceBEq, Nat.reduceDiv, Nat.reduceMod, Int.reduceToNat, Int.reduceLT, Int.reduceLE, Int.reduceAdd, Int.reduceSub, Int.reduceMul, Int.reduceEq, Int.reduceNeg, reduceCtorEq, resV, resAll, ARes.ev, LV.flat, ite_true, ite_false, exists_eq_left', exists_eq_left, keyOf, implies_true, fillC]
  refine condC_dec (fun hlt => ?_) (fun hlt => ?_)
  · simp (disch := omega) only [h7, h8, hrow.esz, if_true, ↓SXd, SXu, slBounds, ↓sop, ↓aop, ↓reduceIte, LV.cells, AOp.dst, LV.I, LV.B, LV.U, LV.S, LV.nil, Nat.reduceEqDiff, Nat.reduceAdd, Nat.reduceMul, Nat.reduceSub, Nat.reduceLeDiff, Nat.reduceBEq, Nat.reduceDiv, Nat.reduceMod, Int.reduceToNat, Int.reduceLT, Int.reduceLE, Int.reduceAdd, Int.reduceSub, Int.reduceMul, Int.reduceEq, Int.reduceNeg, reduceCtorEq, resV, resAll, ARes.ev, LV.flat, ite_true, ite_false, exists_eq_left', exists_eq_left, keyOf, implies_true, fillC]
    have hsrc : Ints M' M.length 0 (List.replicate k v) := by
      refine ⟨_, hrow.row, by simp [intL_len], ?_⟩
      rw [intL_append, List.drop_zero, List.take_left']
      rw [intL_len]
    refine copyK_int hrow (by simp <;> omega) hsrc (by simp) (by omega) fun M2 k1 k2 k3 => ?_
    have e3 : (List.replicate k v ++ List.replicate (n - k) 0).take k ++ (List.replicate k v).take (min (k - 0) (n - k)) ++ (List.replicate k v ++ List.replicate (n - k) 0).drop (k + min (k - 0) (n - k)) =
        List.replicate (k + min k (n - k)) v ++ List.replicate (n - (k + min k (n - k))) 0 := by
      rw [List.take_left' (List.length_replicate ..), Nat.sub_zero, List.take_replicate, ← List.drop_drop, List.drop_left' (List.length_replicate ..), List.drop_replicate, List.replicate_append_replicate]
      congr 2 <;> omega
    rw [e3] at k2
    simp (disch := omega) only [h7, h8, Nat.sub_zero, ↓SXd, SXu, slBounds, ↓sop, ↓aop, ↓reduceIte, LV.cells, AOp.dst, LV.I, LV.B, LV.U, LV.S, LV.nil, Nat.reduceEqDiff, Nat.reduceAdd, Nat.reduceMul, Nat.reduceSub, Nat.reduceLeDiff, Nat.reduceBEq, Nat.reduceDiv, Nat.reduceMod, Int.reduceToNat, Int.reduceLT, Int.reduceLE, Int.reduceAdd, Int.reduceSub, Int.reduceMul, Int.reduceEq, Int.reduceNeg, reduceCtorEq, resV, resAll, ARes.ev, LV.flat, ite_true, ite_false, exists_eq_left', exists_eq_left, keyOf, implies_true, fillC]
    exact ⟨m - min k (n - k), by omega, k + min k (n - k), by omega, by omega, pre_step hpre (Nat.le_refl _) (j := 0) k1 k3, k2, h7, eqI (by omega)⟩
  · simp (disch := omega) only [h7, h8, ↓SXd, SXu, slBounds, ↓sop, ↓aop, ↓reduceIte, LV.cells, AOp.dst, LV.I, LV.B, LV.U, LV.S, LV.nil, Nat.reduceEqDiff, Nat.reduceAdd, Nat.reduceMul, Nat.reduceSub, Nat.reduceLeDiff, Nat.reduceBEq, Nat.reduceDiv, Nat.reduceMod, Int.reduceToNat, Int.reduceLT, Int.reduceLE, Int.reduceAdd, Int.reduceSub, Int.reduceMul, Int.reduceEq, Int.reduceNeg, reduceCtorEq, resV, resAll, ARes.ev, LV.flat, ite_true, ite_false, exists_eq_left', exists_eq_left, keyOf, implies_true, fillC]
    have : k = n := by omega
    subst this
    rw [Nat.sub_self, List.replicate_zero, List.append_nil] at hrow
    exact cmp_keepL hpre (Nat.le_refl _) hrow (intL_lo _) (by simp [rn, rn0, rn1])
end Go.Ab

/- Contracts: the program's distances. -/
namespace Go.Ab
open Go
set_option linter.unusedSimpArgs false
set_option linter.unusedVariables false

theorem stepRow_get {x y p s : Int} {ts : List Int} {k : Nat} (hk : k < (stepsOf x y ts p s).length) : (stepRow x y ts p s).getD k 0 = (stepsOf x y ts p s).getD k 0 := by
  unfold stepRow
  simp only [List.getD_eq_getElem?_getD]
  rw [List.getElem?_append_left hk]
theorem stepRow_len {x y p s : Int} {ts : List Int} : (stepsOf x y ts p s).length ≤ (stepRow x y ts p s).length := by unfold stepRow; simp

theorem g_distances {x y p s : Int} {t o : Nat} {ts : List Int} {M : Mem} (hx : 1 ≤ x ∧ x ≤ 4) (hy : 1 ≤ y ∧ y ≤ 4) (hp : 0 ≤ p ∧ p ≤ x * y - 1) (h : Ints M t o ts) (hl : ts.length = (x * y).toNat) (hlow : ∀ k, k < ts.length → -100 ≤ ts.getD k 0 ∧ ts.getD k 0 ≤ 100) :
    CallsTo PG F.impl_top_distances [.agg [.ref t o (x * y).toNat, .I y], .I p, .I s] M (.ref M.length 0 (x * y).toNat)
      (M ++ [some (.row (intL (farFrom (x * y).toNat (fun q => stepsOf x y ts q s) p)) true 1)]) := by
  have hb := mul_bound hx hy
  refine calls_run K.impl_top_distances rfl ?_
  simp (disch := omega) only [C.impl_top_distances, ↓SXd, SXu, slBounds, ↓sop, ↓aop, ↓reduceIte, LV.cells, AOp.dst, LV.I, LV.B, LV.U, LV.S, LV.nil, Nat.reduceEqDiff, Nat.reduceAdd, Nat.reduceMul, Nat.reduceSub, Nat.reduceLeDiff, Nat.reduceBEq, Nat.reduceDiv, Nat.reduceMod, Int.reduceToNat, Int.reduceLT, Int.reduceLE, Int.reduceAdd, Int.reduceSub, Int.reduceMul, Int.reduceEq, Int.reduceNeg, reduceCtorEq, resV, resAll, ARes.ev, LV.flat, ite_true, ite_false, exists_eq_left', exists_eq_left, keyOf, implies_true, fillC]
  refine callK_of (g_Repeat (v := -1) (Live.newj (j := 1) (b := .row (intL [-1]) true 1) rfl).has (by omega) (by omega)) ?_
  have hCl : (List.replicate (x * y).toNat (-1 : Int)).length = (x * y).toNat := by simp
  simp (disch := omega) only [intL_len, hCl, splice_int, ↓SXd, SXu, slBounds, ↓sop, ↓aop, ↓reduceIte, LV.cells, AOp.dst, LV.I, LV.B, LV.U, LV.S, LV.nil, Nat.reduceEqDiff, Nat.reduceAdd, Nat.reduceMul, Nat.reduceSub, Nat.reduceLeDiff, Nat.reduceBEq, Nat.reduceDiv, Nat.reduceMod, Int.reduceToNat, Int.reduceLT, Int.reduceLE, Int.reduceAdd, Int.reduceSub, Int.reduceMul, Int.reduceEq, Int.reduceNeg, reduceCtorEq, resV, resAll, ARes.ev, LV.flat, ite_true, ite_false, exists_eq_left', exists_eq_left, keyOf, implies_true, fillC]
  have hN : ∀ q r, r ∈ stepsOf x y ts q s → 0 ≤ r ∧ r < (((x * y).toNat : Nat) : Int) := steps_in
  refine ev_loop (fun m fr M' => ∃ (n u : Nat) (st : List Int × List Int), n + m = (x * y).toNat ∧ Pre M M' ∧ Live M' M.length (.row [.ref t o (x * y).toNat, .I y] true 0) ∧ Live M' (M.length + 2) (.row (intL st.1) true 1) ∧
    M.length + 3 ≤ u ∧ Live M' u (.row (intL st.2) true 1) ∧ BInv (x * y).toNat st ∧ n ≤ st.2.length ∧
    bfs (fun q => stepsOf x y ts q s) m n st = farFrom (x * y).toNat (fun q => stepsOf x y ts q s) p ∧
    fr 2 = .I s ∧ fr 3 = .ptr M.length 0 ∧ fr 7 = .ref (M.length + 2) 0 (x * y).toNat ∧ fr 8 = .ref u 0 st.2.length ∧ fr 9 = .I n) (x * y).toNat
    ⟨0, M.length + 3, _, by omega, Pre.app _ _, Live.new, Live.newj rfl, by omega, Live.newj rfl, BInv.start (by omega), by omega, rfl, rfl, rfl, rfl, rfl, rfl⟩ ?_
  rintro m fr M' ⟨n, u, st, hnm, hpre, hbox, hout, hu, hlist, hinv, hnl, hbfs, h2, h3, h7, h8, h9⟩
  have hle := hinv.le
  have hol := hinv.len
  simp (disch := omega) only [h2, h3, h7, h8, h9, ↓SXd, SXu, slBounds, ↓sop, ↓aop, ↓reduceIte, LV.cells, AOp.dst, LV.I, LV.B, LV.U, LV.S, LV.nil, Nat.reduceEqDiff, Nat.reduceAdd, Nat.reduceMul, Nat.reduceSub, Nat.reduceLeDiff, Nat.reduceBEq, Nat.reduceDiv, Nat.reduceMod, Int.reduceToNat, Int.reduceLT, Int.reduceLE, Int.reduceAdd, Int.reduceSub, Int.reduceMul, Int.reduceEq, Int.reduceNeg, reduceCtorEq, resV, resAll, ARes.ev, LV.flat, ite_true, ite_false, exists_eq_left', exists_eq_left, keyOf, implies_true, fillC]
  refine condC_dec (fun hlt => ?_) (fun hlt => ?_)
  · have hpn := hinv.mem _ (getD_mem (d := 0) (show n < st.2.length by omega))
    simp (disch := omega) only [h2, h3, h7, h8, h9, hbox.cells, hlist.cell, intL_get, ↓SXd, SXu, slBounds, ↓sop, ↓aop, ↓reduceIte, LV.cells, AOp.dst, LV.I, LV.B, LV.U, LV.S, LV.nil, Nat.reduceEqDiff, Nat.reduceAdd, Nat.reduceMul, Nat.reduceSub, Nat.reduceLeDiff, Nat.reduceBEq, Nat.reduceDiv, Nat.reduceMod, Int.reduceToNat, Int.reduceLT, Int.reduceLE, Int.reduceAdd, Int.reduceSub, Int.reduceMul, Int.reduceEq, Int.reduceNeg, reduceCtorEq, resV, resAll, ARes.ev, LV.flat, ite_true, ite_false, exists_eq_left', exists_eq_left, keyOf, implies_true, fillC]
    refine callK_of (g_steps hx hy (by omega) (h.pre hpre) hl hlow) ?_
    simp (disch := omega) only [h2, h3, h7, h8, h9, ↓SXd, SXu, slBounds, ↓sop, ↓aop, ↓reduceIte, LV.cells, AOp.dst, LV.I, LV.B, LV.U, LV.S, LV.nil, Nat.reduceEqDiff, Nat.reduceAdd, Nat.reduceMul, Nat.reduceSub, Nat.reduceLeDiff, Nat.reduceBEq, Nat.reduceDiv, Nat.reduceMod, Int.reduceToNat, Int.reduceLT, Int.reduceLE, Int.reduceAdd, Int.reduceSub, Int.reduceMul, Int.reduceEq, Int.reduceNeg, reduceCtorEq, resV, resAll, ARes.ev, LV.flat, ite_true, ite_false, exists_eq_left', exists_eq_left, keyOf, implies_true, fillC]
    have hpn' : 0 ≤ st.2.getD n 0 ∧ st.2.getD n 0 ≤ x * y - 1 := by omega
    generalize hpd : st.2.getD n 0 = pn at hpn hpn' hbfs ⊢
    have hnxm : ∀ k, k < (stepsOf x y ts pn s).length → 0 ≤ (stepsOf x y ts pn s).getD k 0 ∧ (stepsOf x y ts pn s).getD k 0 < (((x * y).toNat : Nat) : Int) := fun k hk => hN pn _ (getD_mem hk)
    have hnxl := stepsOf_len (p := pn) (s := s) (ts := ts) hb.2
    have hbfs' : bfs (fun q => stepsOf x y ts q s) (m - 1) (n + 1) ((stepsOf x y ts pn s).foldl (visit pn) st) = farFrom (x * y).toNat (fun q => stepsOf x y ts q s) p := by
      obtain ⟨m', rfl⟩ : ∃ m', m = m' + 1 := ⟨m - 1, by omega⟩
      rw [← hbfs]
      simp only [bfs, if_pos (show n < st.2.length by omega), hpd, Nat.add_sub_cancel]
    have hrg : ∀ k, k < (stepsOf x y ts pn s).length → (stepRow x y ts pn s).getD k 0 = (stepsOf x y ts pn s).getD k 0 := fun k hk => stepRow_get hk
    have hrl := stepRow_len (x := x) (y := y) (p := pn) (s := s) (ts := ts)
    generalize stepRow x y ts pn s = rw_ at hrg hrl ⊢
    generalize stepsOf x y ts pn s = nx at hnxm hnxl hbfs' hrg hrl ⊢
    have hw3 : M.length + 3 ≤ M'.length := by have := hlist.lt; omega
    refine ev_loop (fun m2 fr N => ∃ (i u : Nat) (st' : List Int × List Int), i + m2 = nx.length ∧ st' = (nx.take i).foldl (visit pn) st ∧ BInv (x * y).toNat st' ∧ Pre M N ∧ Live N M.length (.row [.ref t o (x * y).toNat, .I y] true 0) ∧
      Live N (M.length + 2) (.row (intL st'.1) true 1) ∧ M.length + 3 ≤ u ∧ u ≠ M'.length ∧ Live N u (.row (intL st'.2) true 1) ∧ Live N M'.length (.row (intL rw_) true 1) ∧
      n < st'.2.length ∧ st'.2.getD n 0 = pn ∧
      fr 2 = .I s ∧ fr 3 = .ptr M.length 0 ∧ fr 7 = .ref (M.length + 2) 0 (x * y).toNat ∧ fr 8 = .ref u 0 st'.2.length ∧ fr 9 = .I n ∧ fr 34 = .ref M'.length 0 nx.length ∧ fr 35 = .I (nx.length : Nat) ∧ fr 36 = .I i) nx.length
      ⟨0, u, st, by omega, rfl, hinv, Pre.app' hpre, hbox.app, hout.app, hu, by have := hlist.lt; omega, hlist.app, Live.new, by omega, hpd, h2, h3, h7, h8, h9, rfl, rfl, rfl⟩ ?_
    clear hinv hbox hout hlist h2 h3 h7 h8 h9 hle hol hbfs hpd
    rintro m2 fr N ⟨i, u', st', him, hst', hinv, hpre', hbox, hout, hu', hun, hlist, hnxL, hnl', hpd, h2, h3, h7, h8, h9, h34, h35, h36⟩
    have hle := hinv.le
    have hol := hinv.len
    simp (disch := omega) only [h2, h3, h7, h8, h9, h34, h35, h36, ↓SXd, SXu, slBounds, ↓sop, ↓aop, ↓reduceIte, LV.cells, AOp.dst, LV.I, LV.B, LV.U, LV.S, LV.nil, Nat.reduceEqDiff, Nat.reduceAdd, Nat.reduceMul, Nat.reduceSub, Nat.reduceLeDiff, Nat.reduceBEq, Nat.reduceDiv, Nat.reduceMod, Int.reduceToNat, Int.reduceLT, Int.reduceLE, Int.reduceAdd, Int.reduceSub, Int.reduceMul, Int.reduceEq, Int.reduceNeg, reduceCtorEq, resV, resAll, ARes.ev, LV.flat, ite_true, ite_false, exists_eq_left', exists_eq_left, keyOf, implies_true, fillC]
    refine condC_dec (fun hi => ?_) (fun hi => ?_)
    · have hq := hnxm i (by omega)
      have hri := hrg i (by omega)
      have hvp := hinv.val pn.toNat (by omega)
      have hstep : (nx.take (i + 1)).foldl (visit pn) st = visit pn st' (nx.getD i 0) := by
        rw [take_succ_foldl _ _ _ _ 0 (by omega), ← hst']
      have hkeep := visit_keep (p := pn) (q := nx.getD i 0) hnl'
      have hinv' := hinv.visit hpn hq
      simp (disch := omega) only [h2, h3, h7, h8, h9, h34, h35, h36, hnxL.cell, hout.cell, intL_get, hri, ↓SXd, SXu, slBounds, ↓sop, ↓aop, ↓reduceIte, LV.cells, AOp.dst, LV.I, LV.B, LV.U, LV.S, LV.nil, Nat.reduceEqDiff, Nat.reduceAdd, Nat.reduceMul, Nat.reduceSub, Nat.reduceLeDiff, Nat.reduceBEq, Nat.reduceDiv, Nat.reduceMod, Int.reduceToNat, Int.reduceLT, Int.reduceLE, Int.reduceAdd, Int.reduceSub, Int.reduceMul, Int.reduceEq, Int.reduceNeg, reduceCtorEq, resV, resAll, ARes.ev, LV.flat, ite_true, ite_false, exists_eq_left', exists_eq_left, keyOf, implies_true, fillC]
      refine condC_dec (fun hneg => ?_) (fun hneg => ?_)
      · simp (disch := omega) only [h2, h3, h7, h8, h9, h34, h35, h36, hnxL.cell, hout.cell, hlist.cell, intL_get, hpd, ↓SXd, SXu, slBounds, ↓sop, ↓aop, ↓reduceIte, LV.cells, AOp.dst, LV.I, LV.B, LV.U, LV.S, LV.nil, Nat.reduceEqDiff, Nat.reduceAdd, Nat.reduceMul, Nat.reduceSub, Nat.reduceLeDiff, Nat.reduceBEq, Nat.reduceDiv, Nat.reduceMod, Int.reduceToNat, Int.reduceLT, Int.reduceLE, Int.reduceAdd, Int.reduceSub, Int.reduceMul, Int.reduceEq, Int.reduceNeg, reduceCtorEq, resV, resAll, ARes.ev, LV.flat, ite_true, ite_false, exists_eq_left', exists_eq_left, keyOf, implies_true, fillC]
        refine memK_int hout (by omega) fun N1 l1 l2 l3 => ?_
        have hnxL1 := live_step hnxL (by omega) l3
        have hlist1 := live_step hlist (by omega) l3
        simp (disch := omega) only [h2, h3, h7, h8, h9, h34, h35, h36, ↓SXd, SXu, slBounds, ↓sop, ↓aop, ↓reduceIte, LV.cells, AOp.dst, LV.I, LV.B, LV.U, LV.S, LV.nil, Nat.reduceEqDiff, Nat.reduceAdd, Nat.reduceMul, Nat.reduceSub, Nat.reduceLeDiff, Nat.reduceBEq, Nat.reduceDiv, Nat.reduceMod, Int.reduceToNat, Int.reduceLT, Int.reduceLE, Int.reduceAdd, Int.reduceSub, Int.reduceMul, Int.reduceEq, Int.reduceNeg, reduceCtorEq, resV, resAll, ARes.ev, LV.flat, ite_true, ite_false, exists_eq_left', exists_eq_left, keyOf, implies_true, fillC]
        refine appendK_int hlist1 (by omega) fun N2 k1 k2 k3 => ?_
        simp (disch := omega) only [h2, h3, h7, h8, h9, h34, h35, h36, ↓SXd, SXu, slBounds, ↓sop, ↓aop, ↓reduceIte, LV.cells, AOp.dst, LV.I, LV.B, LV.U, LV.S, LV.nil, Nat.reduceEqDiff, Nat.reduceAdd, Nat.reduceMul, Nat.reduceSub, Nat.reduceLeDiff, Nat.reduceBEq, Nat.reduceDiv, Nat.reduceMod, Int.reduceToNat, Int.reduceLT, Int.reduceLE, Int.reduceAdd, Int.reduceSub, Int.reduceMul, Int.reduceEq, Int.reduceNeg, reduceCtorEq, resV, resAll, ARes.ev, LV.flat, ite_true, ite_false, exists_eq_left', exists_eq_left, keyOf, implies_true, fillC]
        have hv : visit pn st' (nx.getD i 0) = (st'.1.set (nx.getD i 0).toNat (st'.1.getD pn.toNat 0 + 1), st'.2 ++ [nx.getD i 0]) := by unfold visit; rw [if_pos hneg]
        rw [hv] at hstep hkeep hinv'
        refine ⟨m2 - 1, by omega, i + 1, _, _, by omega, hstep.symm, hinv', pre_step (pre_step hpre' (by omega) (j := 0) l1 l3) (by omega) k1 k3, live_step (live_step hbox (by omega) l3) (by omega) k3, live_step l2 (by omega) k3,
          ?_, ?_, k2, live_step hnxL1 (by omega) k3, hkeep.1, hkeep.2.trans hpd, h2, h3, h7, rfl, h9, h34, h35, eqI (natI _)⟩
        · have := hpre'.1; have := hlist.lt; omega
        · have := hnxL1.lt; omega
      · simp (disch := omega) only [h2, h3, h7, h8, h9, h34, h35, h36, ↓SXd, SXu, slBounds, ↓sop, ↓aop, ↓reduceIte, LV.cells, AOp.dst, LV.I, LV.B, LV.U, LV.S, LV.nil, Nat.reduceEqDiff, Nat.reduceAdd, Nat.reduceMul, Nat.reduceSub, Nat.reduceLeDiff, Nat.reduceBEq, Nat.reduceDiv, Nat.reduceMod, Int.reduceToNat, Int.reduceLT, Int.reduceLE, Int.reduceAdd, Int.reduceSub, Int.reduceMul, Int.reduceEq, Int.reduceNeg, reduceCtorEq, resV, resAll, ARes.ev, LV.flat, ite_true, ite_false, exists_eq_left', exists_eq_left, keyOf, implies_true, fillC]
        have hv : visit pn st' (nx.getD i 0) = st' := by unfold visit; rw [if_neg hneg]
        rw [hv] at hstep
        exact ⟨m2 - 1, by omega, i + 1, u', st', by omega, hstep.symm, hinv, hpre', hbox, hout, hu', hun, hlist, hnxL, hnl', hpd, h2, h3, h7, h8, h9, h34, h35, eqI (natI _)⟩
    · simp (disch := omega) only [h2, h3, h7, h8, h9, h34, h35, h36, ↓SXd, SXu, slBounds, ↓sop, ↓aop, ↓reduceIte, LV.cells, AOp.dst, LV.I, LV.B, LV.U, LV.S, LV.nil, Nat.reduceEqDiff, Nat.reduceAdd, Nat.reduceMul, Nat.reduceSub, Nat.reduceLeDiff, Nat.reduceBEq, Nat.reduceDiv, Nat.reduceMod, Int.reduceToNat, Int.reduceLT, Int.reduceLE, Int.reduceAdd, Int.reduceSub, Int.reduceMul, Int.reduceEq, Int.reduceNeg, reduceCtorEq, resV, resAll, ARes.ev, LV.flat, ite_true, ite_false, exists_eq_left', exists_eq_left, keyOf, implies_true, fillC]
      have : i = nx.length := by omega
      subst this
      rw [List.take_length] at hst'
      rw [← hst'] at hbfs'
      exact ⟨m - 1, by omega, n + 1, u', st', by omega, hpre', hbox, hout, hu', hlist, hinv, by omega, hbfs', h2, h3, h7, h8, eqI (natI _)⟩
  · simp (disch := omega) only [h2, h3, h7, h8, h9, ↓SXd, SXu, slBounds, ↓sop, ↓aop, ↓reduceIte, LV.cells, AOp.dst, LV.I, LV.B, LV.U, LV.S, LV.nil, Nat.reduceEqDiff, Nat.reduceAdd, Nat.reduceMul, Nat.reduceSub, Nat.reduceLeDiff, Nat.reduceBEq, Nat.reduceDiv, Nat.reduceMod, Int.reduceToNat, Int.reduceLT, Int.reduceLE, Int.reduceAdd, Int.reduceSub, Int.reduceMul, Int.reduceEq, Int.reduceNeg, reduceCtorEq, resV, resAll, ARes.ev, LV.flat, ite_true, ite_false, exists_eq_left', exists_eq_left, keyOf, implies_true, fillC]
    have e : farFrom (x * y).toNat (fun q => stepsOf x y ts q s) p = st.1 := by
      rw [← hbfs]
      cases m with
      | zero => rfl
      | succ m => simp only [bfs, if_neg (show ¬ n < st.2.length by omega)]
    rw [e]
    exact cmp_keepL hpre (by omega) hout (intL_lo _) (by simp [rn, rn0, rn1])
end Go.Ab
