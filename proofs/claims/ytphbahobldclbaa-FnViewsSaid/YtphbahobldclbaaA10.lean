/- Parts of the proof of FnViewsSaid: Bd Be LFnViews Re. -/
import Derived.Test.YtphbahobldclbaaA9
import Derived.Test.YtphbahobldclbaaA4
import Derived.Test.YtphbahobldclbaaA8
import Derived.Test.YtphbahobldclbaaA7
import Derived.Test.YtphbahobldclbaaA6
set_option linter.all false
/- Contracts: heaps of stacks, both sides; draws of layers and stacks. -/
namespace Go.Ab
open Go
set_option linter.unusedSimpArgs false
set_option linter.unusedVariables false
set_option maxRecDepth 20000

def StkOK (x y z : Int) (hs : List Int) : Prop := Sides x y z ∧ (hs.length : Int) = x * y ∧ ∀ k, k < hs.length → 0 ≤ hs.getD k 0 ∧ hs.getD k 0 ≤ z
noncomputable instance (x y z : Int) (hs : List Int) : Decidable (StkOK x y z hs) := Classical.propDecidable _
noncomputable def stkOf (x y z : Int) (hs : List Int) : Option Hp := if StkOK x y z hs then some ⟨x, y, z, pick x y z (stackP y hs)⟩ else none
section
variable {x y z : Int} {u : Nat} {hs : List Int} {M : Mem} (h : Ints M u 0 hs) (hn : hs.length ≤ 1000)
include h hn
theorem h_sStackHeap : CallsR PG F.spec_StackHeap [.I x, .I y, .I z, .ref u 0 hs.length] M (HeapX M (stkOf x y z hs)) := by
  refine heapX_of ?_
  refine callsR_run K.spec_StackHeap rfl ?_
  simp (disch := omega) only [C.spec_StackHeap, ↓SXd, SXu, slBounds, ↓sop, ↓aop, ↓reduceIte, LV.cells, AOp.dst, LV.I, LV.B, LV.U, LV.S, LV.nil, Nat.reduceEqDiff, Nat.reduceAdd, Nat.reduceMul, Nat.reduceSub, Nat.reduceLeDiff, Nat.reduceBEq, Nat.reduceDiv, Nat.reduceMod, Int.reduceToNat, Int.reduceLT, Int.reduceLE, Int.reduceAdd, Int.reduceSub, Int.reduceMul, Int.reduceEq, Int.reduceNeg, reduceCtorEq, resV, resAll, ARes.ev, LV.flat, ite_true, ite_false, exists_eq_left', exists_eq_left, keyOf, implies_true, fillC, capOf]
  refine callK_of (h_l2Sides) ?_
  simp (disch := omega) only [↓SXd, SXu, slBounds, ↓sop, ↓aop, ↓reduceIte, LV.cells, AOp.dst, LV.I, LV.B, LV.U, LV.S, LV.nil, Nat.reduceEqDiff, Nat.reduceAdd, Nat.reduceMul, Nat.reduceSub, Nat.reduceLeDiff, Nat.reduceBEq, Nat.reduceDiv, Nat.reduceMod, Int.reduceToNat, Int.reduceLT, Int.reduceLE, Int.reduceAdd, Int.reduceSub, Int.reduceMul, Int.reduceEq, Int.reduceNeg, reduceCtorEq, resV, resAll, ARes.ev, LV.flat, ite_true, ite_false, exists_eq_left', exists_eq_left, keyOf, implies_true, fillC, capOf]
  by_cases hS : Sides x y z
  rotate_left
  · simp (disch := omega) only [hS, splice, ↓SXd, SXu, slBounds, ↓sop, ↓aop, ↓reduceIte, LV.cells, AOp.dst, LV.I, LV.B, LV.U, LV.S, LV.nil, Nat.reduceEqDiff, Nat.reduceAdd, Nat.reduceMul, Nat.reduceSub, Nat.reduceLeDiff, Nat.reduceBEq, Nat.reduceDiv, Nat.reduceMod, Int.reduceToNat, Int.reduceLT, Int.reduceLE, Int.reduceAdd, Int.reduceSub, Int.reduceMul, Int.reduceEq, Int.reduceNeg, reduceCtorEq, resV, resAll, ARes.ev, LV.flat, ite_true, ite_false, exists_eq_left', exists_eq_left, keyOf, implies_true, fillC, capOf]
    exact heapX_no (if_neg fun e => hS e.1) rfl (Pre.app _ _)
  have hp := prod_le hS
  obtain ⟨⟨_, _⟩, ⟨_, _⟩, ⟨_, _⟩⟩ := id hS
  simp (disch := omega) only [hS, ↓SXd, SXu, slBounds, ↓sop, ↓aop, ↓reduceIte, LV.cells, AOp.dst, LV.I, LV.B, LV.U, LV.S, LV.nil, Nat.reduceEqDiff, Nat.reduceAdd, Nat.reduceMul, Nat.reduceSub, Nat.reduceLeDiff, Nat.reduceBEq, Nat.reduceDiv, Nat.reduceMod, Int.reduceToNat, Int.reduceLT, Int.reduceLE, Int.reduceAdd, Int.reduceSub, Int.reduceMul, Int.reduceEq, Int.reduceNeg, reduceCtorEq, resV, resAll, ARes.ev, LV.flat, ite_true, ite_false, exists_eq_left', exists_eq_left, keyOf, implies_true, fillC, capOf]
  by_cases hl : (hs.length : Int) = x * y
  rotate_left
  · simp (disch := omega) only [hl, splice, ↓SXd, SXu, slBounds, ↓sop, ↓aop, ↓reduceIte, LV.cells, AOp.dst, LV.I, LV.B, LV.U, LV.S, LV.nil, Nat.reduceEqDiff, Nat.reduceAdd, Nat.reduceMul, Nat.reduceSub, Nat.reduceLeDiff, Nat.reduceBEq, Nat.reduceDiv, Nat.reduceMod, Int.reduceToNat, Int.reduceLT, Int.reduceLE, Int.reduceAdd, Int.reduceSub, Int.reduceMul, Int.reduceEq, Int.reduceNeg, reduceCtorEq, resV, resAll, ARes.ev, LV.flat, ite_true, ite_false, exists_eq_left', exists_eq_left, keyOf, implies_true, fillC, capOf]
    exact heapX_no (if_neg fun e => hl e.2.1) rfl (Pre.app _ _)
  simp (disch := omega) only [hl, ↓SXd, SXu, slBounds, ↓sop, ↓aop, ↓reduceIte, LV.cells, AOp.dst, LV.I, LV.B, LV.U, LV.S, LV.nil, Nat.reduceEqDiff, Nat.reduceAdd, Nat.reduceMul, Nat.reduceSub, Nat.reduceLeDiff, Nat.reduceBEq, Nat.reduceDiv, Nat.reduceMod, Int.reduceToNat, Int.reduceLT, Int.reduceLE, Int.reduceAdd, Int.reduceSub, Int.reduceMul, Int.reduceEq, Int.reduceNeg, reduceCtorEq, resV, resAll, ARes.ev, LV.flat, ite_true, ite_false, exists_eq_left', exists_eq_left, keyOf, implies_true, fillC, capOf]
  have hX := h.app (L := [some (.row [.I 0, .I 0, .I 0, .val (.slice none 0 0)] true 0)])
  have b8 : Live (M ++ [some (.row [.I 0, .I 0, .I 0, .val (.slice none 0 0)] true 0)]) M.length (.row [.I 0, .I 0, .I 0, .val (.slice none 0 0)] true 0) := Live.new
  have hpq : Pre M (M ++ [some (.row [.I 0, .I 0, .I 0, .val (.slice none 0 0)] true 0)]) := Pre.app _ _
  have hM1 : (M ++ [some (Blk.row [.I 0, .I 0, .I 0, .val (.slice none 0 0)] true 0)]).length = M.length + 1 := by simp
  generalize M ++ [some (Blk.row [.I 0, .I 0, .I 0, .val (.slice none 0 0)] true 0)] = M1 at hX b8 hpq hM1 ⊢
  refine ev_loop (fun m fr M' => ∃ k : Nat, k + m = hs.length ∧ M' = M1 ∧ (∀ j, j < k → 0 ≤ hs.getD j 0 ∧ hs.getD j 0 ≤ z) ∧ fr 0 = .I x ∧ fr 1 = .I y ∧ fr 2 = .I z ∧ fr 3 = .ref u 0 hs.length ∧ fr 8 = .ptr M.length 0 ∧ fr 10 = .I k) hs.length
    ⟨0, by omega, rfl, by omega, rfl, rfl, rfl, rfl, rfl, rfl⟩ ?_
  rintro m fr M' ⟨k, hk, rfl, hj, f0, f1, f2, f3, f8, f10⟩
  simp (disch := omega) only [f0, f1, f2, f3, f8, f10, ↓SXd, SXu, slBounds, ↓sop, ↓aop, ↓reduceIte, LV.cells, AOp.dst, LV.I, LV.B, LV.U, LV.S, LV.nil, Nat.reduceEqDiff, Nat.reduceAdd, Nat.reduceMul, Nat.reduceSub, Nat.reduceLeDiff, Nat.reduceBEq, Nat.reduceDiv, Nat.reduceMod, Int.reduceToNat, Int.reduceLT, Int.reduceLE, Int.reduceAdd, Int.reduceSub, Int.reduceMul, Int.reduceEq, Int.reduceNeg, reduceCtorEq, resV, resAll, ARes.ev, LV.flat, ite_true, ite_false, exists_eq_left', exists_eq_left, keyOf, implies_true, fillC, capOf]
  refine condC_dec (fun hlt => ?_) (fun hlt => ?_)
  · have hkl : k < hs.length := by omega
    have hg := Ints.get hX hkl
    rw [Nat.zero_add] at hg
    simp (disch := omega) only [f0, f1, f2, f3, f8, f10, hg, Nat.mul_one, Nat.zero_add, ↓SXd, SXu, slBounds, ↓sop, ↓aop, ↓reduceIte, LV.cells, AOp.dst, LV.I, LV.B, LV.U, LV.S, LV.nil, Nat.reduceEqDiff, Nat.reduceAdd, Nat.reduceMul, Nat.reduceSub, Nat.reduceLeDiff, Nat.reduceBEq, Nat.reduceDiv, Nat.reduceMod, Int.reduceToNat, Int.reduceLT, Int.reduceLE, Int.reduceAdd, Int.reduceSub, Int.reduceMul, Int.reduceEq, Int.reduceNeg, reduceCtorEq, resV, resAll, ARes.ev, LV.flat, ite_true, ite_false, exists_eq_left', exists_eq_left, keyOf, implies_true, fillC, capOf]
    refine callK_of (h_l1In) ?_
    simp (disch := omega) only [↓SXd, SXu, slBounds, ↓sop, ↓aop, ↓reduceIte, LV.cells, AOp.dst, LV.I, LV.B, LV.U, LV.S, LV.nil, Nat.reduceEqDiff, Nat.reduceAdd, Nat.reduceMul, Nat.reduceSub, Nat.reduceLeDiff, Nat.reduceBEq, Nat.reduceDiv, Nat.reduceMod, Int.reduceToNat, Int.reduceLT, Int.reduceLE, Int.reduceAdd, Int.reduceSub, Int.reduceMul, Int.reduceEq, Int.reduceNeg, reduceCtorEq, resV, resAll, ARes.ev, LV.flat, ite_true, ite_false, exists_eq_left', exists_eq_left, keyOf, implies_true, fillC, capOf]
    by_cases hv : 0 ≤ hs.getD k 0 ∧ hs.getD k 0 ≤ z
    · rw [decide_eq_true hv]
      simp (disch := omega) only [f0, f1, f2, f3, f8, f10, ↓SXd, SXu, slBounds, ↓sop, ↓aop, ↓reduceIte, LV.cells, AOp.dst, LV.I, LV.B, LV.U, LV.S, LV.nil, Nat.reduceEqDiff, Nat.reduceAdd, Nat.reduceMul, Nat.reduceSub, Nat.reduceLeDiff, Nat.reduceBEq, Nat.reduceDiv, Nat.reduceMod, Int.reduceToNat, Int.reduceLT, Int.reduceLE, Int.reduceAdd, Int.reduceSub, Int.reduceMul, Int.reduceEq, Int.reduceNeg, reduceCtorEq, resV, resAll, ARes.ev, LV.flat, ite_true, ite_false, exists_eq_left', exists_eq_left, keyOf, implies_true, fillC, capOf]
      exact ⟨m - 1, by omega, k + 1, by omega, rfl, fun j hj1 => by
        rcases Nat.lt_or_ge j k with h2 | h2
        · exact hj j h2
        · rw [show j = k by omega]; exact hv, f0, f1, f2, f3, f8, eqI (natI _)⟩
    · rw [decide_eq_false hv]
      simp (disch := omega) only [f0, f1, f2, f3, f8, f10, ↓SXd, SXu, slBounds, ↓sop, ↓aop, ↓reduceIte, LV.cells, AOp.dst, LV.I, LV.B, LV.U, LV.S, LV.nil, Nat.reduceEqDiff, Nat.reduceAdd, Nat.reduceMul, Nat.reduceSub, Nat.reduceLeDiff, Nat.reduceBEq, Nat.reduceDiv, Nat.reduceMod, Int.reduceToNat, Int.reduceLT, Int.reduceLE, Int.reduceAdd, Int.reduceSub, Int.reduceMul, Int.reduceEq, Int.reduceNeg, reduceCtorEq, resV, resAll, ARes.ev, LV.flat, ite_true, ite_false, exists_eq_left', exists_eq_left, keyOf, implies_true, fillC, capOf]
      refine memK_box b8 (by simp) fun N5 i1 i2 i3 => ?_
      simp (disch := omega) only [f0, f1, f2, f3, f8, f10, i2.cells, ↓SXd, SXu, slBounds, ↓sop, ↓aop, ↓reduceIte, LV.cells, AOp.dst, LV.I, LV.B, LV.U, LV.S, LV.nil, Nat.reduceEqDiff, Nat.reduceAdd, Nat.reduceMul, Nat.reduceSub, Nat.reduceLeDiff, Nat.reduceBEq, Nat.reduceDiv, Nat.reduceMod, Int.reduceToNat, Int.reduceLT, Int.reduceLE, Int.reduceAdd, Int.reduceSub, Int.reduceMul, Int.reduceEq, Int.reduceNeg, reduceCtorEq, resV, resAll, ARes.ev, LV.flat, ite_true, ite_false, exists_eq_left', exists_eq_left, keyOf, implies_true, fillC, capOf]
      exact heapX_no (if_neg fun e => hv (e.2.2 k hkl)) rfl (pre_step hpq (Nat.le_refl _) (j := 0) i1 i3)
  · have hkl : k = hs.length := by omega
    subst hkl
    have hok : StkOK x y z hs := ⟨hS, hl, hj⟩
    simp (disch := omega) only [f0, f1, f2, f3, f8, f10, ↓SXd, SXu, slBounds, ↓sop, ↓aop, ↓reduceIte, LV.cells, AOp.dst, LV.I, LV.B, LV.U, LV.S, LV.nil, Nat.reduceEqDiff, Nat.reduceAdd, Nat.reduceMul, Nat.reduceSub, Nat.reduceLeDiff, Nat.reduceBEq, Nat.reduceDiv, Nat.reduceMod, Int.reduceToNat, Int.reduceLT, Int.reduceLE, Int.reduceAdd, Int.reduceSub, Int.reduceMul, Int.reduceEq, Int.reduceNeg, reduceCtorEq, resV, resAll, ARes.ev, LV.flat, ite_true, ite_false, exists_eq_left', exists_eq_left, keyOf, implies_true, fillC, capOf]
    refine callR_of (h_l2Stack hS hX hl) ?_
    rintro _ N ⟨w, rfl, hw, hwl, hp2⟩
    have b2 := b8.pre hp2
    simp (disch := omega) only [f0, f1, f2, f3, f8, f10, ↓SXd, SXu, slBounds, ↓sop, ↓aop, ↓reduceIte, LV.cells, AOp.dst, LV.I, LV.B, LV.U, LV.S, LV.nil, Nat.reduceEqDiff, Nat.reduceAdd, Nat.reduceMul, Nat.reduceSub, Nat.reduceLeDiff, Nat.reduceBEq, Nat.reduceDiv, Nat.reduceMod, Int.reduceToNat, Int.reduceLT, Int.reduceLE, Int.reduceAdd, Int.reduceSub, Int.reduceMul, Int.reduceEq, Int.reduceNeg, reduceCtorEq, resV, resAll, ARes.ev, LV.flat, ite_true, ite_false, exists_eq_left', exists_eq_left, keyOf, implies_true, fillC, capOf]
    refine memK_box b2 (by simp) fun N5 i1 i2 i3 => ?_
    simp (disch := omega) only [f0, f1, f2, f3, f8, f10, i2.cells, ↓SXd, SXu, slBounds, ↓sop, ↓aop, ↓reduceIte, LV.cells, AOp.dst, LV.I, LV.B, LV.U, LV.S, LV.nil, Nat.reduceEqDiff, Nat.reduceAdd, Nat.reduceMul, Nat.reduceSub, Nat.reduceLeDiff, Nat.reduceBEq, Nat.reduceDiv, Nat.reduceMod, Int.reduceToNat, Int.reduceLT, Int.reduceLE, Int.reduceAdd, Int.reduceSub, Int.reduceMul, Int.reduceEq, Int.reduceNeg, reduceCtorEq, resV, resAll, ARes.ev, LV.flat, ite_true, ite_false, exists_eq_left', exists_eq_left, keyOf, implies_true, fillC, capOf]
    exact heapX_yes (g := ⟨x, y, z, pick x y z (stackP y hs)⟩) (if_pos hok) ⟨w, rfl, live_step hw (by omega) i3, by omega⟩ (pre_step (hpq.trans hp2) (Nat.le_refl _) (j := 0) i1 i3)
theorem g_StackHeap : CallsR PG F.impl_StackHeap [.I x, .I y, .I z, .ref u 0 hs.length] M (HeapX M (stkOf x y z hs)) := by
  refine heapX_of ?_
  refine callsR_run K.impl_StackHeap rfl ?_
  simp (disch := omega) only [C.impl_StackHeap, splice, ↓SXd, SXu, slBounds, ↓sop, ↓aop, ↓reduceIte, LV.cells, AOp.dst, LV.I, LV.B, LV.U, LV.S, LV.nil, Nat.reduceEqDiff, Nat.reduceAdd, Nat.reduceMul, Nat.reduceSub, Nat.reduceLeDiff, Nat.reduceBEq, Nat.reduceDiv, Nat.reduceMod, Int.reduceToNat, Int.reduceLT, Int.reduceLE, Int.reduceAdd, Int.reduceSub, Int.reduceMul, Int.reduceEq, Int.reduceNeg, reduceCtorEq, resV, resAll, ARes.ev, LV.flat, ite_true, ite_false, exists_eq_left', exists_eq_left, keyOf, implies_true, fillC, capOf]
  refine callK_of (g_valid) ?_
  simp (disch := omega) only [↓SXd, SXu, slBounds, ↓sop, ↓aop, ↓reduceIte, LV.cells, AOp.dst, LV.I, LV.B, LV.U, LV.S, LV.nil, Nat.reduceEqDiff, Nat.reduceAdd, Nat.reduceMul, Nat.reduceSub, Nat.reduceLeDiff, Nat.reduceBEq, Nat.reduceDiv, Nat.reduceMod, Int.reduceToNat, Int.reduceLT, Int.reduceLE, Int.reduceAdd, Int.reduceSub, Int.reduceMul, Int.reduceEq, Int.reduceNeg, reduceCtorEq, resV, resAll, ARes.ev, LV.flat, ite_true, ite_false, exists_eq_left', exists_eq_left, keyOf, implies_true, fillC, capOf]
  by_cases hS : Sides x y z
  rotate_left
  · simp (disch := omega) only [hS, splice, ↓SXd, SXu, slBounds, ↓sop, ↓aop, ↓reduceIte, LV.cells, AOp.dst, LV.I, LV.B, LV.U, LV.S, LV.nil, Nat.reduceEqDiff, Nat.reduceAdd, Nat.reduceMul, Nat.reduceSub, Nat.reduceLeDiff, Nat.reduceBEq, Nat.reduceDiv, Nat.reduceMod, Int.reduceToNat, Int.reduceLT, Int.reduceLE, Int.reduceAdd, Int.reduceSub, Int.reduceMul, Int.reduceEq, Int.reduceNeg, reduceCtorEq, resV, resAll, ARes.ev, LV.flat, ite_true, ite_false, exists_eq_left', exists_eq_left, keyOf, implies_true, fillC, capOf]
    exact heapX_no (if_neg fun e => hS e.1) rfl (Pre.app _ _)
  have hp := prod_le hS
  obtain ⟨⟨_, _⟩, ⟨_, _⟩, ⟨_, _⟩⟩ := id hS
  simp (disch := omega) only [hS, ↓SXd, SXu, slBounds, ↓sop, ↓aop, ↓reduceIte, LV.cells, AOp.dst, LV.I, LV.B, LV.U, LV.S, LV.nil, Nat.reduceEqDiff, Nat.reduceAdd, Nat.reduceMul, Nat.reduceSub, Nat.reduceLeDiff, Nat.reduceBEq, Nat.reduceDiv, Nat.reduceMod, Int.reduceToNat, Int.reduceLT, Int.reduceLE, Int.reduceAdd, Int.reduceSub, Int.reduceMul, Int.reduceEq, Int.reduceNeg, reduceCtorEq, resV, resAll, ARes.ev, LV.flat, ite_true, ite_false, exists_eq_left', exists_eq_left, keyOf, implies_true, fillC, capOf]
  by_cases hl : (hs.length : Int) = x * y
  rotate_left
  · simp (disch := omega) only [hl, splice, ↓SXd, SXu, slBounds, ↓sop, ↓aop, ↓reduceIte, LV.cells, AOp.dst, LV.I, LV.B, LV.U, LV.S, LV.nil, Nat.reduceEqDiff, Nat.reduceAdd, Nat.reduceMul, Nat.reduceSub, Nat.reduceLeDiff, Nat.reduceBEq, Nat.reduceDiv, Nat.reduceMod, Int.reduceToNat, Int.reduceLT, Int.reduceLE, Int.reduceAdd, Int.reduceSub, Int.reduceMul, Int.reduceEq, Int.reduceNeg, reduceCtorEq, resV, resAll, ARes.ev, LV.flat, ite_true, ite_false, exists_eq_left', exists_eq_left, keyOf, implies_true, fillC, capOf]
    exact heapX_no (if_neg fun e => hl e.2.1) rfl (Pre.app _ _)
  simp (disch := omega) only [hl, ↓SXd, SXu, slBounds, ↓sop, ↓aop, ↓reduceIte, LV.cells, AOp.dst, LV.I, LV.B, LV.U, LV.S, LV.nil, Nat.reduceEqDiff, Nat.reduceAdd, Nat.reduceMul, Nat.reduceSub, Nat.reduceLeDiff, Nat.reduceBEq, Nat.reduceDiv, Nat.reduceMod, Int.reduceToNat, Int.reduceLT, Int.reduceLE, Int.reduceAdd, Int.reduceSub, Int.reduceMul, Int.reduceEq, Int.reduceNeg, reduceCtorEq, resV, resAll, ARes.ev, LV.flat, ite_true, ite_false, exists_eq_left', exists_eq_left, keyOf, implies_true, fillC, capOf]
  have hX := h.app (L := [some (.row [.I 0, .I 0, .I 0, .nil] true 0), some (.row [.I x, .I y, .I z] true 0)])
  refine callK_of (g_allWithin (lo := 0) (hi := z) hX (by omega)) ?_
  by_cases hv : ∀ k, k < hs.length → 0 ≤ hs.getD k 0 ∧ hs.getD k 0 ≤ z
  rotate_left
  · rw [decide_eq_false hv]
    simp (disch := omega) only [splice, ↓SXd, SXu, slBounds, ↓sop, ↓aop, ↓reduceIte, LV.cells, AOp.dst, LV.I, LV.B, LV.U, LV.S, LV.nil, Nat.reduceEqDiff, Nat.reduceAdd, Nat.reduceMul, Nat.reduceSub, Nat.reduceLeDiff, Nat.reduceBEq, Nat.reduceDiv, Nat.reduceMod, Int.reduceToNat, Int.reduceLT, Int.reduceLE, Int.reduceAdd, Int.reduceSub, Int.reduceMul, Int.reduceEq, Int.reduceNeg, reduceCtorEq, resV, resAll, ARes.ev, LV.flat, ite_true, ite_false, exists_eq_left', exists_eq_left, keyOf, implies_true, fillC, capOf]
    exact heapX_no (if_neg fun e => hv e.2.2) rfl (Pre.app _ _)
  rw [decide_eq_true hv]
  have hok : StkOK x y z hs := ⟨hS, hl, hv⟩
  simp (disch := omega) only [↓SXd, SXu, slBounds, ↓sop, ↓aop, ↓reduceIte, LV.cells, AOp.dst, LV.I, LV.B, LV.U, LV.S, LV.nil, Nat.reduceEqDiff, Nat.reduceAdd, Nat.reduceMul, Nat.reduceSub, Nat.reduceLeDiff, Nat.reduceBEq, Nat.reduceDiv, Nat.reduceMod, Int.reduceToNat, Int.reduceLT, Int.reduceLE, Int.reduceAdd, Int.reduceSub, Int.reduceMul, Int.reduceEq, Int.reduceNeg, reduceCtorEq, resV, resAll, ARes.ev, LV.flat, ite_true, ite_false, exists_eq_left', exists_eq_left, keyOf, implies_true, fillC, capOf]
  refine callK_of (g_stack hS hX hl) ?_
  simp (disch := omega) only [↓SXd, SXu, slBounds, ↓sop, ↓aop, ↓reduceIte, LV.cells, AOp.dst, LV.I, LV.B, LV.U, LV.S, LV.nil, Nat.reduceEqDiff, Nat.reduceAdd, Nat.reduceMul, Nat.reduceSub, Nat.reduceLeDiff, Nat.reduceBEq, Nat.reduceDiv, Nat.reduceMod, Int.reduceToNat, Int.reduceLT, Int.reduceLE, Int.reduceAdd, Int.reduceSub, Int.reduceMul, Int.reduceEq, Int.reduceNeg, reduceCtorEq, resV, resAll, ARes.ev, LV.flat, ite_true, ite_false, exists_eq_left', exists_eq_left, keyOf, implies_true, fillC, capOf]
  refine callK_of (g_heap hS) ?_
  simp (disch := omega) only [splice, ↓SXd, SXu, slBounds, ↓sop, ↓aop, ↓reduceIte, LV.cells, AOp.dst, LV.I, LV.B, LV.U, LV.S, LV.nil, Nat.reduceEqDiff, Nat.reduceAdd, Nat.reduceMul, Nat.reduceSub, Nat.reduceLeDiff, Nat.reduceBEq, Nat.reduceDiv, Nat.reduceMod, Int.reduceToNat, Int.reduceLT, Int.reduceLE, Int.reduceAdd, Int.reduceSub, Int.reduceMul, Int.reduceEq, Int.reduceNeg, reduceCtorEq, resV, resAll, ARes.ev, LV.flat, ite_true, ite_false, exists_eq_left', exists_eq_left, keyOf, implies_true, fillC, capOf]
  exact heapX_yes (g := ⟨x, y, z, pick x y z (stackP y hs)⟩) (if_pos hok) ⟨M.length + 2, rfl, Live.newj (j := 2) rfl, by omega⟩ (Pre.app _ _)
end
section
variable {p t o a : Nat} {bs : List Nat} {M : Mem}
theorem d_sidesZ (h : CurAt M p t o bs a) (ha : a ≤ 999900) : CallsR PG F.spec_l1Cur_sides [.ptr p 0] M fun v N => (∃ x y z : Int, v = .tup [.I x, .I y, .I z] ∧ -1 ≤ z ∧ z ≤ 5) ∧ DrawN M p t o bs (a + 10) N := by
  have hb : ∀ {z : Int}, z ∈ [(2 : Int), 3, 3, 1, 4] → -1 ≤ z ∧ z ≤ 5 := fun {z} hz => by
    simp only [List.mem_cons, List.mem_nil_iff, or_false] at hz
    omega
  refine callsR_run K.spec_l1Cur_sides rfl ?_
  simp (disch := omega) only [C.spec_l1Cur_sides, ↓SXd, SXu, slBounds, ↓sop, ↓aop, ↓reduceIte, LV.cells, AOp.dst, LV.I, LV.B, LV.U, LV.S, LV.nil, Nat.reduceEqDiff, Nat.reduceAdd, Nat.reduceMul, Nat.reduceSub, Nat.reduceLeDiff, Nat.reduceBEq, Nat.reduceDiv, Nat.reduceMod, Int.reduceToNat, Int.reduceLT, Int.reduceLE, Int.reduceAdd, Int.reduceSub, Int.reduceMul, Int.reduceEq, Int.reduceNeg, reduceCtorEq, resV, resAll, ARes.ev, LV.flat, ite_true, ite_false, exists_eq_left', exists_eq_left, keyOf, implies_true, fillC, capOf]
  refine callR_of (d_amongNew (xs := [2, 3, 3, 1, 4]) h (by omega) (by simp) (by simp)) ?_
  rintro _ N1 ⟨⟨x, rfl, _⟩, hd1⟩
  simp (disch := omega) only [↓SXd, SXu, slBounds, ↓sop, ↓aop, ↓reduceIte, LV.cells, AOp.dst, LV.I, LV.B, LV.U, LV.S, LV.nil, Nat.reduceEqDiff, Nat.reduceAdd, Nat.reduceMul, Nat.reduceSub, Nat.reduceLeDiff, Nat.reduceBEq, Nat.reduceDiv, Nat.reduceMod, Int.reduceToNat, Int.reduceLT, Int.reduceLE, Int.reduceAdd, Int.reduceSub, Int.reduceMul, Int.reduceEq, Int.reduceNeg, reduceCtorEq, resV, resAll, ARes.ev, LV.flat, ite_true, ite_false, exists_eq_left', exists_eq_left, keyOf, implies_true, fillC, capOf]
  refine callR_of (d_amongNew (xs := [2, 3, 2, 1, 4]) hd1.1 (by omega) (by simp) (by simp)) ?_
  rintro _ N2 ⟨⟨y, rfl, _⟩, hd2⟩
  simp (disch := omega) only [↓SXd, SXu, slBounds, ↓sop, ↓aop, ↓reduceIte, LV.cells, AOp.dst, LV.I, LV.B, LV.U, LV.S, LV.nil, Nat.reduceEqDiff, Nat.reduceAdd, Nat.reduceMul, Nat.reduceSub, Nat.reduceLeDiff, Nat.reduceBEq, Nat.reduceDiv, Nat.reduceMod, Int.reduceToNat, Int.reduceLT, Int.reduceLE, Int.reduceAdd, Int.reduceSub, Int.reduceMul, Int.reduceEq, Int.reduceNeg, reduceCtorEq, resV, resAll, ARes.ev, LV.flat, ite_true, ite_false, exists_eq_left', exists_eq_left, keyOf, implies_true, fillC, capOf]
  refine callR_of (d_amongNew (xs := [2, 3, 3, 1, 4]) hd2.1 (by omega) (by simp) (by simp)) ?_
  rintro _ N3 ⟨⟨z, rfl, hz⟩, hd3⟩
  have hz := hb hz
  simp (disch := omega) only [↓SXd, SXu, slBounds, ↓sop, ↓aop, ↓reduceIte, LV.cells, AOp.dst, LV.I, LV.B, LV.U, LV.S, LV.nil, Nat.reduceEqDiff, Nat.reduceAdd, Nat.reduceMul, Nat.reduceSub, Nat.reduceLeDiff, Nat.reduceBEq, Nat.reduceDiv, Nat.reduceMod, Int.reduceToNat, Int.reduceLT, Int.reduceLE, Int.reduceAdd, Int.reduceSub, Int.reduceMul, Int.reduceEq, Int.reduceNeg, reduceCtorEq, resV, resAll, ARes.ev, LV.flat, ite_true, ite_false, exists_eq_left', exists_eq_left, keyOf, implies_true, fillC, capOf]
  refine callR_of (d_pick hd3.1 (by omega)) ?_
  rintro _ N4 ⟨⟨b, rfl, _⟩, hd4⟩
  have hD := ((hd1.trans hd2).trans hd3).trans hd4
  by_cases b0 : (b : Int) = 0
  · simp (disch := omega) only [b0, ↓SXd, SXu, slBounds, ↓sop, ↓aop, ↓reduceIte, LV.cells, AOp.dst, LV.I, LV.B, LV.U, LV.S, LV.nil, Nat.reduceEqDiff, Nat.reduceAdd, Nat.reduceMul, Nat.reduceSub, Nat.reduceLeDiff, Nat.reduceBEq, Nat.reduceDiv, Nat.reduceMod, Int.reduceToNat, Int.reduceLT, Int.reduceLE, Int.reduceAdd, Int.reduceSub, Int.reduceMul, Int.reduceEq, Int.reduceNeg, reduceCtorEq, resV, resAll, ARes.ev, LV.flat, ite_true, ite_false, exists_eq_left', exists_eq_left, keyOf, implies_true, fillC, capOf]
    refine callR_of (d_amongNew (xs := [0, 5, -1, 4611686018427387904]) hd4.1 (by omega) (by simp) (by simp)) ?_
    rintro _ N5 ⟨⟨x', rfl, _⟩, hd5⟩
    simp (disch := omega) only [↓SXd, SXu, slBounds, ↓sop, ↓aop, ↓reduceIte, LV.cells, AOp.dst, LV.I, LV.B, LV.U, LV.S, LV.nil, Nat.reduceEqDiff, Nat.reduceAdd, Nat.reduceMul, Nat.reduceSub, Nat.reduceLeDiff, Nat.reduceBEq, Nat.reduceDiv, Nat.reduceMod, Int.reduceToNat, Int.reduceLT, Int.reduceLE, Int.reduceAdd, Int.reduceSub, Int.reduceMul, Int.reduceEq, Int.reduceNeg, reduceCtorEq, resV, resAll, ARes.ev, LV.flat, ite_true, ite_false, exists_eq_left', exists_eq_left, keyOf, implies_true, fillC, capOf]
    exact ⟨⟨_, _, _, rfl, hz.1, hz.2⟩, hD.trans hd5⟩
  by_cases b1 : (b : Int) = 1
  · simp (disch := omega) only [b1, ↓SXd, SXu, slBounds, ↓sop, ↓aop, ↓reduceIte, LV.cells, AOp.dst, LV.I, LV.B, LV.U, LV.S, LV.nil, Nat.reduceEqDiff, Nat.reduceAdd, Nat.reduceMul, Nat.reduceSub, Nat.reduceLeDiff, Nat.reduceBEq, Nat.reduceDiv, Nat.reduceMod, Int.reduceToNat, Int.reduceLT, Int.reduceLE, Int.reduceAdd, Int.reduceSub, Int.reduceMul, Int.reduceEq, Int.reduceNeg, reduceCtorEq, resV, resAll, ARes.ev, LV.flat, ite_true, ite_false, exists_eq_left', exists_eq_left, keyOf, implies_true, fillC, capOf]
    refine callR_of (d_amongNew (xs := [0, 5, -1]) hd4.1 (by omega) (by simp) (by simp)) ?_
    rintro _ N5 ⟨⟨x', rfl, _⟩, hd5⟩
    simp (disch := omega) only [↓SXd, SXu, slBounds, ↓sop, ↓aop, ↓reduceIte, LV.cells, AOp.dst, LV.I, LV.B, LV.U, LV.S, LV.nil, Nat.reduceEqDiff, Nat.reduceAdd, Nat.reduceMul, Nat.reduceSub, Nat.reduceLeDiff, Nat.reduceBEq, Nat.reduceDiv, Nat.reduceMod, Int.reduceToNat, Int.reduceLT, Int.reduceLE, Int.reduceAdd, Int.reduceSub, Int.reduceMul, Int.reduceEq, Int.reduceNeg, reduceCtorEq, resV, resAll, ARes.ev, LV.flat, ite_true, ite_false, exists_eq_left', exists_eq_left, keyOf, implies_true, fillC, capOf]
    exact ⟨⟨_, _, _, rfl, hz.1, hz.2⟩, hD.trans hd5⟩
  by_cases b2 : (b : Int) = 2
  · simp (disch := omega) only [b2, ↓SXd, SXu, slBounds, ↓sop, ↓aop, ↓reduceIte, LV.cells, AOp.dst, LV.I, LV.B, LV.U, LV.S, LV.nil, Nat.reduceEqDiff, Nat.reduceAdd, Nat.reduceMul, Nat.reduceSub, Nat.reduceLeDiff, Nat.reduceBEq, Nat.reduceDiv, Nat.reduceMod, Int.reduceToNat, Int.reduceLT, Int.reduceLE, Int.reduceAdd, Int.reduceSub, Int.reduceMul, Int.reduceEq, Int.reduceNeg, reduceCtorEq, resV, resAll, ARes.ev, LV.flat, ite_true, ite_false, exists_eq_left', exists_eq_left, keyOf, implies_true, fillC, capOf]
    refine callR_of (d_amongNew (xs := [0, 5, -1]) hd4.1 (by omega) (by simp) (by simp)) ?_
    rintro _ N5 ⟨⟨x', rfl, hx'⟩, hd5⟩
    simp only [List.mem_cons, List.mem_nil_iff, or_false] at hx'
    simp (disch := omega) only [↓SXd, SXu, slBounds, ↓sop, ↓aop, ↓reduceIte, LV.cells, AOp.dst, LV.I, LV.B, LV.U, LV.S, LV.nil, Nat.reduceEqDiff, Nat.reduceAdd, Nat.reduceMul, Nat.reduceSub, Nat.reduceLeDiff, Nat.reduceBEq, Nat.reduceDiv, Nat.reduceMod, Int.reduceToNat, Int.reduceLT, Int.reduceLE, Int.reduceAdd, Int.reduceSub, Int.reduceMul, Int.reduceEq, Int.reduceNeg, reduceCtorEq, resV, resAll, ARes.ev, LV.flat, ite_true, ite_false, exists_eq_left', exists_eq_left, keyOf, implies_true, fillC, capOf]
    exact ⟨⟨_, _, _, rfl, by omega, by omega⟩, hD.trans hd5⟩
  · simp (disch := omega) only [b0, b1, b2, ↓SXd, SXu, slBounds, ↓sop, ↓aop, ↓reduceIte, LV.cells, AOp.dst, LV.I, LV.B, LV.U, LV.S, LV.nil, Nat.reduceEqDiff, Nat.reduceAdd, Nat.reduceMul, Nat.reduceSub, Nat.reduceLeDiff, Nat.reduceBEq, Nat.reduceDiv, Nat.reduceMod, Int.reduceToNat, Int.reduceLT, Int.reduceLE, Int.reduceAdd, Int.reduceSub, Int.reduceMul, Int.reduceEq, Int.reduceNeg, reduceCtorEq, resV, resAll, ARes.ev, LV.flat, ite_true, ite_false, exists_eq_left', exists_eq_left, keyOf, implies_true, fillC, capOf]
    exact ⟨⟨_, _, _, rfl, hz.1, hz.2⟩, hD.up (by omega)⟩
end
section
variable {t o : Nat} {bs : List Nat} {M : Mem} (hB : Bytes M t o bs) (h255 : ∀ b ∈ bs, b ≤ 255) (hl : bs.length ≤ 1000000000)
include hB h255 hl
theorem d_DrawLayerOf : CallsR PG F.spec_DrawLayerOf [.ref t o bs.length] M fun v N => (∃ (hv : LV) (k m : Int), v = .tup [hv, .I k, .I m] ∧ HeapE M hv N) ∧ Pre M N := by
  have htM := hB.lt
  refine callsR_run K.spec_DrawLayerOf rfl ?_
  simp (disch := omega) only [C.spec_DrawLayerOf, splice, ↓SXd, SXu, slBounds, ↓sop, ↓aop, ↓reduceIte, LV.cells, AOp.dst, LV.I, LV.B, LV.U, LV.S, LV.nil, Nat.reduceEqDiff, Nat.reduceAdd, Nat.reduceMul, Nat.reduceSub, Nat.reduceLeDiff, Nat.reduceBEq, Nat.reduceDiv, Nat.reduceMod, Int.reduceToNat, Int.reduceLT, Int.reduceLE, Int.reduceAdd, Int.reduceSub, Int.reduceMul, Int.reduceEq, Int.reduceNeg, reduceCtorEq, resV, resAll, ARes.ev, LV.flat, ite_true, ite_false, exists_eq_left', exists_eq_left, keyOf, implies_true, fillC, capOf]
  have hc := CurAt.new2 (b := some (.row [.I 0, .I 0, .I 0, .nil] true 0)) hB h255 hl
  refine callR_of (d_heapE hc (by omega)) ?_
  rintro _ N1 ⟨⟨x, y, z, cs, u, rfl, hu, hul, hcl⟩, hd1⟩
  rw [List.length_append] at hul
  simp only [List.length_cons, List.length_nil] at hul
  have b2 : Live N1 M.length (.row [.I 0, .I 0, .I 0, .nil] true 0) := hd1.live Live.new (by omega)
  have hP1 : Pre M N1 := hd1.pre (Pre.app _ _) (by omega)
  have hlN := hd1.2.1
  rw [List.length_append] at hlN
  simp only [List.length_cons, List.length_nil] at hlN
  simp (disch := omega) only [↓SXd, SXu, slBounds, ↓sop, ↓aop, ↓reduceIte, LV.cells, AOp.dst, LV.I, LV.B, LV.U, LV.S, LV.nil, Nat.reduceEqDiff, Nat.reduceAdd, Nat.reduceMul, Nat.reduceSub, Nat.reduceLeDiff, Nat.reduceBEq, Nat.reduceDiv, Nat.reduceMod, Int.reduceToNat, Int.reduceLT, Int.reduceLE, Int.reduceAdd, Int.reduceSub, Int.reduceMul, Int.reduceEq, Int.reduceNeg, reduceCtorEq, resV, resAll, ARes.ev, LV.flat, ite_true, ite_false, exists_eq_left', exists_eq_left, keyOf, implies_true, fillC, capOf]
  refine callR_of (d_direction hd1.1 (by omega)) ?_
  rintro _ N2 ⟨⟨k, rfl⟩, hd2⟩
  have c2 := hd2.live b2 (by omega)
  have cu := hd2.live hu (by omega)
  have hP2 : Pre M N2 := hd2.pre hP1 (by omega)
  simp (disch := omega) only [↓SXd, SXu, slBounds, ↓sop, ↓aop, ↓reduceIte, LV.cells, AOp.dst, LV.I, LV.B, LV.U, LV.S, LV.nil, Nat.reduceEqDiff, Nat.reduceAdd, Nat.reduceMul, Nat.reduceSub, Nat.reduceLeDiff, Nat.reduceBEq, Nat.reduceDiv, Nat.reduceMod, Int.reduceToNat, Int.reduceLT, Int.reduceLE, Int.reduceAdd, Int.reduceSub, Int.reduceMul, Int.reduceEq, Int.reduceNeg, reduceCtorEq, resV, resAll, ARes.ev, LV.flat, ite_true, ite_false, exists_eq_left', exists_eq_left, keyOf, implies_true, fillC, capOf]
  refine callR_of (d_amongNew (xs := [0, 1, 0, 1, 2, 3, 4, -1]) hd2.1 (by omega) (by simp) (by simp)) ?_
  rintro _ N3 ⟨⟨m, rfl, _⟩, hd3⟩
  have e2 := hd3.live c2 (by omega)
  have eu := hd3.live cu (by omega)
  have hP3 : Pre M N3 := hd3.pre hP2 (by omega)
  simp (disch := omega) only [↓SXd, SXu, slBounds, ↓sop, ↓aop, ↓reduceIte, LV.cells, AOp.dst, LV.I, LV.B, LV.U, LV.S, LV.nil, Nat.reduceEqDiff, Nat.reduceAdd, Nat.reduceMul, Nat.reduceSub, Nat.reduceLeDiff, Nat.reduceBEq, Nat.reduceDiv, Nat.reduceMod, Int.reduceToNat, Int.reduceLT, Int.reduceLE, Int.reduceAdd, Int.reduceSub, Int.reduceMul, Int.reduceEq, Int.reduceNeg, reduceCtorEq, resV, resAll, ARes.ev, LV.flat, ite_true, ite_false, exists_eq_left', exists_eq_left, keyOf, implies_true, fillC, capOf]
  refine memK_box e2 (by simp) fun N5 i1 i2 i3 => ?_
  simp (disch := omega) only [i2.cells, ↓SXd, SXu, slBounds, ↓sop, ↓aop, ↓reduceIte, LV.cells, AOp.dst, LV.I, LV.B, LV.U, LV.S, LV.nil, Nat.reduceEqDiff, Nat.reduceAdd, Nat.reduceMul, Nat.reduceSub, Nat.reduceLeDiff, Nat.reduceBEq, Nat.reduceDiv, Nat.reduceMod, Int.reduceToNat, Int.reduceLT, Int.reduceLE, Int.reduceAdd, Int.reduceSub, Int.reduceMul, Int.reduceEq, Int.reduceNeg, reduceCtorEq, resV, resAll, ARes.ev, LV.flat, ite_true, ite_false, exists_eq_left', exists_eq_left, keyOf, implies_true, fillC, capOf]
  exact ⟨⟨_, k, m, rfl, x, y, z, cs, u, rfl, live_step eu (by omega) i3, by omega, hcl⟩, pre_step hP3 (by omega) (j := 0) i1 i3⟩
theorem d_DrawStackHeap : CallsR PG F.spec_DrawStackHeap [.ref t o bs.length] M fun v N => (∃ (x y z : Int) (hs : List Int) (u : Nat), v = .tup [.I x, .I y, .I z, .ref u 0 hs.length] ∧ Live N u (.row (intL hs) true 1) ∧ hs.length ≤ 17) ∧ Pre M N := by
  have htM := hB.lt
  refine callsR_run K.spec_DrawStackHeap rfl ?_
  simp (disch := omega) only [C.spec_DrawStackHeap, splice, ↓SXd, SXu, slBounds, ↓sop, ↓aop, ↓reduceIte, LV.cells, AOp.dst, LV.I, LV.B, LV.U, LV.S, LV.nil, Nat.reduceEqDiff, Nat.reduceAdd, Nat.reduceMul, Nat.reduceSub, Nat.reduceLeDiff, Nat.reduceBEq, Nat.reduceDiv, Nat.reduceMod, Int.reduceToNat, Int.reduceLT, Int.reduceLE, Int.reduceAdd, Int.reduceSub, Int.reduceMul, Int.reduceEq, Int.reduceNeg, reduceCtorEq, resV, resAll, ARes.ev, LV.flat, ite_true, ite_false, exists_eq_left', exists_eq_left, keyOf, implies_true, fillC, capOf]
  refine callR_of (d_sidesZ (CurAt.new hB h255 hl) (by omega)) ?_
  rintro _ N1 ⟨⟨x, y, z, rfl, hz1, hz2⟩, hd1⟩
  have hP1 : Pre M N1 := hd1.pre (Pre.app _ _) (Nat.le_refl _)
  have hc1 := hd1.1
  have hlN := hd1.2.1
  rw [List.length_append, List.length_singleton] at hlN
  clear hd1
  have hfit : ∀ n : Int, 1 ≤ max 1 (min n 4) ∧ max 1 (min n 4) ≤ 4 := fun n => by omega
  have gx := hfit x
  have gy := hfit y
  have gz := hfit z
  have lx : ∀ {M : Mem}, CallsTo PG F.spec_l2Fit [.I x] M (.I (max 1 (min x 4))) M := h_l2Fit
  have ly : ∀ {M : Mem}, CallsTo PG F.spec_l2Fit [.I y] M (.I (max 1 (min y 4))) M := h_l2Fit
  have lz : ∀ {M : Mem}, CallsTo PG F.spec_l2Fit [.I z] M (.I (max 1 (min z 4))) M := h_l2Fit
  generalize max 1 (min x 4) = fx at gx lx
  generalize max 1 (min y 4) = fy at gy ly
  generalize max 1 (min z 4) = fz at gz lz
  have hmul : 1 ≤ fx * fy ∧ fx * fy ≤ 16 := mul_bound gx gy
  simp (disch := omega) only [↓SXd, SXu, slBounds, ↓sop, ↓aop, ↓reduceIte, LV.cells, AOp.dst, LV.I, LV.B, LV.U, LV.S, LV.nil, Nat.reduceEqDiff, Nat.reduceAdd, Nat.reduceMul, Nat.reduceSub, Nat.reduceLeDiff, Nat.reduceBEq, Nat.reduceDiv, Nat.reduceMod, Int.reduceToNat, Int.reduceLT, Int.reduceLE, Int.reduceAdd, Int.reduceSub, Int.reduceMul, Int.reduceEq, Int.reduceNeg, reduceCtorEq, resV, resAll, ARes.ev, LV.flat, ite_true, ite_false, exists_eq_left', exists_eq_left, keyOf, implies_true, fillC, capOf]
  refine ev_loop (fun m fr N => ∃ (a' i u : Nat) (hs : List Int), i + m = (fx * fy).toNat ∧ a' = 10 + 2 * i ∧ hs.length = i ∧ CurAt N M.length t o bs a' ∧ Pre M N ∧ M.length < u ∧ Live N u (.row (intL hs) true 1) ∧
    fr 6 = .ptr M.length 0 ∧ fr 7 = .I x ∧ fr 8 = .I y ∧ fr 9 = .I z ∧ fr 10 = .ref u 0 hs.length ∧ fr 11 = .I i) (fx * fy).toNat
    ⟨10, 0, N1.length, [], by omega, rfl, rfl, hc1.pre (Pre.app _ _), hP1.trans (Pre.app _ _), by omega, Live.new, rfl, rfl, rfl, rfl, rfl, rfl⟩ ?_
  clear hP1 hc1 hlN
  rintro m fr N ⟨a', i, u, hs, hi, rfl, hhs, hc, hP, hu, bu, f6, f7, f8, f9, f10, f11⟩
  simp (disch := omega) only [f6, f7, f8, f9, f10, f11, ↓SXd, SXu, slBounds, ↓sop, ↓aop, ↓reduceIte, LV.cells, AOp.dst, LV.I, LV.B, LV.U, LV.S, LV.nil, Nat.reduceEqDiff, Nat.reduceAdd, Nat.reduceMul, Nat.reduceSub, Nat.reduceLeDiff, Nat.reduceBEq, Nat.reduceDiv, Nat.reduceMod, Int.reduceToNat, Int.reduceLT, Int.reduceLE, Int.reduceAdd, Int.reduceSub, Int.reduceMul, Int.reduceEq, Int.reduceNeg, reduceCtorEq, resV, resAll, ARes.ev, LV.flat, ite_true, ite_false, exists_eq_left', exists_eq_left, keyOf, implies_true, fillC, capOf]
  refine callK_of (lx) ?_
  simp (disch := omega) only [f6, f7, f8, f9, f10, f11, ↓SXd, SXu, slBounds, ↓sop, ↓aop, ↓reduceIte, LV.cells, AOp.dst, LV.I, LV.B, LV.U, LV.S, LV.nil, Nat.reduceEqDiff, Nat.reduceAdd, Nat.reduceMul, Nat.reduceSub, Nat.reduceLeDiff, Nat.reduceBEq, Nat.reduceDiv, Nat.reduceMod, Int.reduceToNat, Int.reduceLT, Int.reduceLE, Int.reduceAdd, Int.reduceSub, Int.reduceMul, Int.reduceEq, Int.reduceNeg, reduceCtorEq, resV, resAll, ARes.ev, LV.flat, ite_true, ite_false, exists_eq_left', exists_eq_left, keyOf, implies_true, fillC, capOf]
  refine callK_of (ly) ?_
  simp (disch := omega) only [f6, f7, f8, f9, f10, f11, ↓SXd, SXu, slBounds, ↓sop, ↓aop, ↓reduceIte, LV.cells, AOp.dst, LV.I, LV.B, LV.U, LV.S, LV.nil, Nat.reduceEqDiff, Nat.reduceAdd, Nat.reduceMul, Nat.reduceSub, Nat.reduceLeDiff, Nat.reduceBEq, Nat.reduceDiv, Nat.reduceMod, Int.reduceToNat, Int.reduceLT, Int.reduceLE, Int.reduceAdd, Int.reduceSub, Int.reduceMul, Int.reduceEq, Int.reduceNeg, reduceCtorEq, resV, resAll, ARes.ev, LV.flat, ite_true, ite_false, exists_eq_left', exists_eq_left, keyOf, implies_true, fillC, capOf]
  refine condC_dec (fun hlt => ?_) (fun hlt => ?_)
  · have hi16 : i < 16 := by omega
    simp (disch := omega) only [f6, f7, f8, f9, f10, f11, ↓SXd, SXu, slBounds, ↓sop, ↓aop, ↓reduceIte, LV.cells, AOp.dst, LV.I, LV.B, LV.U, LV.S, LV.nil, Nat.reduceEqDiff, Nat.reduceAdd, Nat.reduceMul, Nat.reduceSub, Nat.reduceLeDiff, Nat.reduceBEq, Nat.reduceDiv, Nat.reduceMod, Int.reduceToNat, Int.reduceLT, Int.reduceLE, Int.reduceAdd, Int.reduceSub, Int.reduceMul, Int.reduceEq, Int.reduceNeg, reduceCtorEq, resV, resAll, ARes.ev, LV.flat, ite_true, ite_false, exists_eq_left', exists_eq_left, keyOf, implies_true, fillC, capOf]
    refine callK_of (lz) ?_
    simp (disch := omega) only [f6, f7, f8, f9, f10, f11, ↓SXd, SXu, slBounds, ↓sop, ↓aop, ↓reduceIte, LV.cells, AOp.dst, LV.I, LV.B, LV.U, LV.S, LV.nil, Nat.reduceEqDiff, Nat.reduceAdd, Nat.reduceMul, Nat.reduceSub, Nat.reduceLeDiff, Nat.reduceBEq, Nat.reduceDiv, Nat.reduceMod, Int.reduceToNat, Int.reduceLT, Int.reduceLE, Int.reduceAdd, Int.reduceSub, Int.reduceMul, Int.reduceEq, Int.reduceNeg, reduceCtorEq, resV, resAll, ARes.ev, LV.flat, ite_true, ite_false, exists_eq_left', exists_eq_left, keyOf, implies_true, fillC, capOf]
    refine callR_of (d_pick hc (by omega)) ?_
    rintro _ N2 ⟨⟨b, rfl, _⟩, hd2⟩
    have cu := hd2.live bu (by omega)
    have hP2 : Pre M N2 := hd2.pre hP (Nat.le_refl _)
    have hc2 := hd2.1
    have hcul := cu.lt
    simp (disch := omega) only [f6, f7, f8, f9, f10, f11, ↓SXd, SXu, slBounds, ↓sop, ↓aop, ↓reduceIte, LV.cells, AOp.dst, LV.I, LV.B, LV.U, LV.S, LV.nil, Nat.reduceEqDiff, Nat.reduceAdd, Nat.reduceMul, Nat.reduceSub, Nat.reduceLeDiff, Nat.reduceBEq, Nat.reduceDiv, Nat.reduceMod, Int.reduceToNat, Int.reduceLT, Int.reduceLE, Int.reduceAdd, Int.reduceSub, Int.reduceMul, Int.reduceEq, Int.reduceNeg, reduceCtorEq, resV, resAll, ARes.ev, LV.flat, ite_true, ite_false, exists_eq_left', exists_eq_left, keyOf, implies_true, fillC, capOf]
    refine appendK_int cu (by omega) fun N3 l1 l2 l3 => ?_
    have hMN : M.length < N2.length := by omega
    have hc3 : CurAt N3 M.length t o bs (10 + 2 * i + 2) := hc2.stepped (u := u) (by omega) (by omega) l3
    simp (disch := omega) only [f6, f7, f8, f9, f10, f11, ↓SXd, SXu, slBounds, ↓sop, ↓aop, ↓reduceIte, LV.cells, AOp.dst, LV.I, LV.B, LV.U, LV.S, LV.nil, Nat.reduceEqDiff, Nat.reduceAdd, Nat.reduceMul, Nat.reduceSub, Nat.reduceLeDiff, Nat.reduceBEq, Nat.reduceDiv, Nat.reduceMod, Int.reduceToNat, Int.reduceLT, Int.reduceLE, Int.reduceAdd, Int.reduceSub, Int.reduceMul, Int.reduceEq, Int.reduceNeg, reduceCtorEq, resV, resAll, ARes.ev, LV.flat, ite_true, ite_false, exists_eq_left', exists_eq_left, keyOf, implies_true, fillC, capOf]
    exact ⟨m - 1, by omega, 10 + 2 * (i + 1), i + 1, N2.length + 1, hs ++ [(b : Int)], by omega, rfl, by simp [hhs], hc3, pre_step hP2 (by omega) (j := 2) l1 l3, by omega, l2, f6, f7, f8, f9, rfl, eqI (natI _)⟩
  · have hil : i = (fx * fy).toNat := by omega
    have hpos : 0 < hs.length := by omega
    simp (disch := omega) only [f6, f7, f8, f9, f10, f11, ↓SXd, SXu, slBounds, ↓sop, ↓aop, ↓reduceIte, LV.cells, AOp.dst, LV.I, LV.B, LV.U, LV.S, LV.nil, Nat.reduceEqDiff, Nat.reduceAdd, Nat.reduceMul, Nat.reduceSub, Nat.reduceLeDiff, Nat.reduceBEq, Nat.reduceDiv, Nat.reduceMod, Int.reduceToNat, Int.reduceLT, Int.reduceLE, Int.reduceAdd, Int.reduceSub, Int.reduceMul, Int.reduceEq, Int.reduceNeg, reduceCtorEq, resV, resAll, ARes.ev, LV.flat, ite_true, ite_false, exists_eq_left', exists_eq_left, keyOf, implies_true, fillC, capOf]
    refine callR_of (d_one hc (by omega)) ?_
    rintro _ N2 ⟨⟨b, rfl⟩, hd2⟩
    have cu := hd2.live bu (by omega)
    have hP2 : Pre M N2 := hd2.pre hP (Nat.le_refl _)
    have hc2 := hd2.1
    simp (disch := omega) only [f6, f7, f8, f9, f10, f11, ↓SXd, SXu, slBounds, ↓sop, ↓aop, ↓reduceIte, LV.cells, AOp.dst, LV.I, LV.B, LV.U, LV.S, LV.nil, Nat.reduceEqDiff, Nat.reduceAdd, Nat.reduceMul, Nat.reduceSub, Nat.reduceLeDiff, Nat.reduceBEq, Nat.reduceDiv, Nat.reduceMod, Int.reduceToNat, Int.reduceLT, Int.reduceLE, Int.reduceAdd, Int.reduceSub, Int.reduceMul, Int.reduceEq, Int.reduceNeg, reduceCtorEq, resV, resAll, ARes.ev, LV.flat, ite_true, ite_false, exists_eq_left', exists_eq_left, keyOf, implies_true, fillC, capOf]
    refine cond_cut (fun fr' N => ∃ (u : Nat) (hs : List Int), hs.length ≤ 16 ∧ CurAt N M.length t o bs 60 ∧ Pre M N ∧ M.length < u ∧ Live N u (.row (intL hs) true 1) ∧ fr' 6 = .ptr M.length 0 ∧ fr' 7 = .I x ∧ fr' 8 = .I y ∧ fr' 9 = .I z ∧ fr' 10 = .ref u 0 hs.length) ?_ ?_
    · cases b
      · simp (disch := omega) only [f6, f7, f8, f9, f10, f11, ↓SXd, SXu, slBounds, ↓sop, ↓aop, ↓reduceIte, LV.cells, AOp.dst, LV.I, LV.B, LV.U, LV.S, LV.nil, Nat.reduceEqDiff, Nat.reduceAdd, Nat.reduceMul, Nat.reduceSub, Nat.reduceLeDiff, Nat.reduceBEq, Nat.reduceDiv, Nat.reduceMod, Int.reduceToNat, Int.reduceLT, Int.reduceLE, Int.reduceAdd, Int.reduceSub, Int.reduceMul, Int.reduceEq, Int.reduceNeg, reduceCtorEq, resV, resAll, ARes.ev, LV.flat, ite_true, ite_false, exists_eq_left', exists_eq_left, keyOf, implies_true, fillC, capOf]
        all_goals exact ⟨u, hs, by omega, hc2.keep (fun _ _ => rfl) (by omega), hP2, hu, cu, by first | rfl | assumption⟩
      · simp (disch := omega) only [f6, f7, f8, f9, f10, f11, ↓SXd, SXu, slBounds, ↓sop, ↓aop, ↓reduceIte, LV.cells, AOp.dst, LV.I, LV.B, LV.U, LV.S, LV.nil, Nat.reduceEqDiff, Nat.reduceAdd, Nat.reduceMul, Nat.reduceSub, Nat.reduceLeDiff, Nat.reduceBEq, Nat.reduceDiv, Nat.reduceMod, Int.reduceToNat, Int.reduceLT, Int.reduceLE, Int.reduceAdd, Int.reduceSub, Int.reduceMul, Int.reduceEq, Int.reduceNeg, reduceCtorEq, resV, resAll, ARes.ev, LV.flat, ite_true, ite_false, exists_eq_left', exists_eq_left, keyOf, implies_true, fillC, capOf]
        refine callR_of (d_amongNew (xs := [-1, z, z + 1, 4611686018427387904]) hc2 (by omega) (by simp) (by simp)) ?_
        rintro _ N3 ⟨⟨b, rfl, _⟩, hd3⟩
        have eu := hd3.live cu (by omega)
        have hP3 : Pre M N3 := hd3.pre hP2 (Nat.le_refl _)
        have hc3 := hd3.1
        simp (disch := omega) only [f6, f7, f8, f9, f10, f11, ↓SXd, SXu, slBounds, ↓sop, ↓aop, ↓reduceIte, LV.cells, AOp.dst, LV.I, LV.B, LV.U, LV.S, LV.nil, Nat.reduceEqDiff, Nat.reduceAdd, Nat.reduceMul, Nat.reduceSub, Nat.reduceLeDiff, Nat.reduceBEq, Nat.reduceDiv, Nat.reduceMod, Int.reduceToNat, Int.reduceLT, Int.reduceLE, Int.reduceAdd, Int.reduceSub, Int.reduceMul, Int.reduceEq, Int.reduceNeg, reduceCtorEq, resV, resAll, ARes.ev, LV.flat, ite_true, ite_false, exists_eq_left', exists_eq_left, keyOf, implies_true, fillC, capOf]
        refine memK_int eu hpos fun N4 k1 k2 k3 => ?_
        simp (disch := omega) only [f6, f7, f8, f9, f10, f11, ↓SXd, SXu, slBounds, ↓sop, ↓aop, ↓reduceIte, LV.cells, AOp.dst, LV.I, LV.B, LV.U, LV.S, LV.nil, Nat.reduceEqDiff, Nat.reduceAdd, Nat.reduceMul, Nat.reduceSub, Nat.reduceLeDiff, Nat.reduceBEq, Nat.reduceDiv, Nat.reduceMod, Int.reduceToNat, Int.reduceLT, Int.reduceLE, Int.reduceAdd, Int.reduceSub, Int.reduceMul, Int.reduceEq, Int.reduceNeg, reduceCtorEq, resV, resAll, ARes.ev, LV.flat, ite_true, ite_false, exists_eq_left', exists_eq_left, keyOf, implies_true, fillC, capOf]
        all_goals exact ⟨u, hs.set 0 b, by simp; omega, (hc3.stepped (u := u) (by omega) (by omega) k3).keep (fun _ _ => rfl) (by omega), pre_step hP3 (by omega) (j := 0) k1 k3, hu, k2, by rw [List.length_set]⟩
    clear f6 f7 f8 f9 f10 f11 hc hc2 hP hP2 bu cu hu
    rintro fr N ⟨u, hs, hhl, hc, hP, hu, bu, f6, f7, f8, f9, f10⟩
    simp (disch := omega) only [f6, f7, f8, f9, f10, ↓SXd, SXu, slBounds, ↓sop, ↓aop, ↓reduceIte, LV.cells, AOp.dst, LV.I, LV.B, LV.U, LV.S, LV.nil, Nat.reduceEqDiff, Nat.reduceAdd, Nat.reduceMul, Nat.reduceSub, Nat.reduceLeDiff, Nat.reduceBEq, Nat.reduceDiv, Nat.reduceMod, Int.reduceToNat, Int.reduceLT, Int.reduceLE, Int.reduceAdd, Int.reduceSub, Int.reduceMul, Int.reduceEq, Int.reduceNeg, reduceCtorEq, resV, resAll, ARes.ev, LV.flat, ite_true, ite_false, exists_eq_left', exists_eq_left, keyOf, implies_true, fillC, capOf]
    refine callR_of (d_one hc (by omega)) ?_
    rintro _ N3 ⟨⟨b, rfl⟩, hd2⟩
    have cu := hd2.live bu (by omega)
    have hP2 : Pre M N3 := hd2.pre hP (Nat.le_refl _)
    simp (disch := omega) only [f6, f7, f8, f9, f10, ↓SXd, SXu, slBounds, ↓sop, ↓aop, ↓reduceIte, LV.cells, AOp.dst, LV.I, LV.B, LV.U, LV.S, LV.nil, Nat.reduceEqDiff, Nat.reduceAdd, Nat.reduceMul, Nat.reduceSub, Nat.reduceLeDiff, Nat.reduceBEq, Nat.reduceDiv, Nat.reduceMod, Int.reduceToNat, Int.reduceLT, Int.reduceLE, Int.reduceAdd, Int.reduceSub, Int.reduceMul, Int.reduceEq, Int.reduceNeg, reduceCtorEq, resV, resAll, ARes.ev, LV.flat, ite_true, ite_false, exists_eq_left', exists_eq_left, keyOf, implies_true, fillC, capOf]
    cases b
    · simp (disch := omega) only [f6, f7, f8, f9, f10, ↓SXd, SXu, slBounds, ↓sop, ↓aop, ↓reduceIte, LV.cells, AOp.dst, LV.I, LV.B, LV.U, LV.S, LV.nil, Nat.reduceEqDiff, Nat.reduceAdd, Nat.reduceMul, Nat.reduceSub, Nat.reduceLeDiff, Nat.reduceBEq, Nat.reduceDiv, Nat.reduceMod, Int.reduceToNat, Int.reduceLT, Int.reduceLE, Int.reduceAdd, Int.reduceSub, Int.reduceMul, Int.reduceEq, Int.reduceNeg, reduceCtorEq, resV, resAll, ARes.ev, LV.flat, ite_true, ite_false, exists_eq_left', exists_eq_left, keyOf, implies_true, fillC, capOf]
      exact ⟨⟨x, y, z, hs, u, rfl, cu, by omega⟩, hP2⟩
    · simp (disch := omega) only [f6, f7, f8, f9, f10, ↓SXd, SXu, slBounds, ↓sop, ↓aop, ↓reduceIte, LV.cells, AOp.dst, LV.I, LV.B, LV.U, LV.S, LV.nil, Nat.reduceEqDiff, Nat.reduceAdd, Nat.reduceMul, Nat.reduceSub, Nat.reduceLeDiff, Nat.reduceBEq, Nat.reduceDiv, Nat.reduceMod, Int.reduceToNat, Int.reduceLT, Int.reduceLE, Int.reduceAdd, Int.reduceSub, Int.reduceMul, Int.reduceEq, Int.reduceNeg, reduceCtorEq, resV, resAll, ARes.ev, LV.flat, ite_true, ite_false, exists_eq_left', exists_eq_left, keyOf, implies_true, fillC, capOf]
      refine appendK_int cu (by omega) fun N4 l1 l2 l3 => ?_
      simp (disch := omega) only [f6, f7, f8, f9, f10, ↓SXd, SXu, slBounds, ↓sop, ↓aop, ↓reduceIte, LV.cells, AOp.dst, LV.I, LV.B, LV.U, LV.S, LV.nil, Nat.reduceEqDiff, Nat.reduceAdd, Nat.reduceMul, Nat.reduceSub, Nat.reduceLeDiff, Nat.reduceBEq, Nat.reduceDiv, Nat.reduceMod, Int.reduceToNat, Int.reduceLT, Int.reduceLE, Int.reduceAdd, Int.reduceSub, Int.reduceMul, Int.reduceEq, Int.reduceNeg, reduceCtorEq, resV, resAll, ARes.ev, LV.flat, ite_true, ite_false, exists_eq_left', exists_eq_left, keyOf, implies_true, fillC, capOf]
      exact ⟨⟨x, y, z, hs ++ [0], N3.length + 1, rfl, l2, by simp; omega⟩, pre_step hP2 (by omega) (j := 2) l1 l3⟩
end
end Go.Ab

/- Plain: stacks have their heights as view from above and as heights of columns. -/
namespace Go.Ab
open Go
set_option linter.unusedSimpArgs false
set_option linter.unusedVariables false
set_option maxRecDepth 20000

theorem tops_le {y : Int} {j : Nat} {n : Int} : ∀ {cs : List Cell} {v : List Int}, (∀ c ∈ cs, (c.a * y + c.b).toNat < v.length) → ((cs.foldl (topStep y) v).getD j 0 ≤ n ↔ v.getD j 0 ≤ n ∧ ∀ c ∈ cs, (c.a * y + c.b).toNat = j → c.c + 1 ≤ n)
  | [], v, _ => by simp
  | c :: cs, v, h => by
    have hc := h c (by simp)
    rw [List.foldl_cons, tops_le (fun e he => by unfold topStep; rw [List.length_set]; exact h e (by simp [he]))]
    have hg : (topStep y v c).getD j 0 = if (c.a * y + c.b).toNat = j then max (v.getD j 0) (c.c + 1) else v.getD j 0 := by
      unfold topStep
      rw [List.getD_eq_getElem?_getD, List.getElem?_set]
      by_cases e : (c.a * y + c.b).toNat = j
      · subst e; simp [hc]
      · simp [e]
    rw [hg]
    constructor
    · rintro ⟨h1, h2⟩
      by_cases e : (c.a * y + c.b).toNat = j
      · rw [if_pos e] at h1
        exact ⟨by omega, fun d hd hdj => (List.mem_cons.1 hd).elim (fun e2 => by subst e2; omega) fun hd => h2 d hd hdj⟩
      · rw [if_neg e] at h1
        exact ⟨h1, fun d hd hdj => (List.mem_cons.1 hd).elim (fun e2 => by subst e2; exact (e hdj).elim) fun hd => h2 d hd hdj⟩
    · rintro ⟨h1, h2⟩
      refine ⟨?_, fun d hd hdj => h2 d (by simp [hd]) hdj⟩
      by_cases e : (c.a * y + c.b).toNat = j
      · rw [if_pos e]
        have := h2 c (by simp) e
        omega
      · rw [if_neg e]; exact h1
section
variable {x y z : Int} {hs : List Int} (h : StkOK x y z hs)
include h
theorem stack_len : hs.length = (x * y).toNat := by
  have := prod_le h.1
  have := h.2.1
  omega
theorem col_stackH {j : Nat} (hj : j < (x * y).toNat) : (colN x y z j (stackP y hs) : Int) = hs.getD j 0 := by
  have hS := h.1
  have hb := h.2.2 j (by rw [stack_len h]; exact hj)
  obtain ⟨d, hd, rfl⟩ := col_at hS hj
  have e : colN x y z (d.a * y + d.b).toNat (stackP y hs) = (colL d.a d.b (hs.getD (d.a * y + d.b).toNat 0).toNat).length := by
    unfold colN
    refine same_len (pick_ok hS _).nodup colL_nodup fun c => ?_
    rw [mem_pick hS, mem_colL]
    constructor
    · rintro ⟨h1, h2⟩
      rw [Bool.and_eq_true] at h2
      obtain ⟨h3, h4⟩ := (line_cell hS h1 hd).1 h2.2
      have h5 := of_decide_eq_true h2.1
      rw [h3, h4] at h5
      exact ⟨h3, h4, h1.2.2.1, by omega⟩
    · rintro ⟨h1, h2, h3, h4⟩
      have hin : c.inBox x y z := by
        obtain ⟨k1, k2, k3⟩ := hd
        rw [← h1] at k1
        rw [← h2] at k2
        exact ⟨k1, k2, h3, by omega⟩
      refine ⟨hin, ?_⟩
      rw [Bool.and_eq_true]
      refine ⟨?_, (line_cell hS hin hd).2 ⟨h1, h2⟩⟩
      unfold stackP
      rw [decide_eq_true_iff, h1, h2]
      omega
  rw [e, colL_len]
  omega
theorem view_stackH : viewL x y z 2 (pick x y z (stackP y hs)) = hs := by
  refine int_ext (by rw [viewL_len, stack_len h]; rfl) fun j hj => ?_
  rw [viewL_len] at hj
  rw [view_get hj]
  exact col_stackH h hj
theorem tops_stackH : topsOf x y (pick x y z (stackP y hs)) = hs := by
  have hS := h.1
  have hin : ∀ c ∈ pick x y z (stackP y hs), (c.a * y + c.b).toNat < (List.replicate (x * y).toNat (0 : Int)).length := fun c hc => by
    rw [List.length_replicate]
    exact col_lt hS ((mem_pick hS).1 hc).1
  have hz : ∀ j, (List.replicate (x * y).toNat (0 : Int)).getD j 0 = 0 := fun j => by
    rw [List.getD_eq_getElem?_getD, List.getElem?_replicate]; split <;> simp
  refine int_ext (by rw [topsOf_len, stack_len h]) fun j hj => ?_
  rw [topsOf_len] at hj
  have hb := h.2.2 j (by rw [stack_len h]; exact hj)
  unfold topsOf
  refine Int.le_antisymm ((tops_le hin).2 ⟨by rw [hz]; exact hb.1, fun c hc hcj => ?_⟩) ?_
  · have := of_decide_eq_true ((mem_pick hS).1 hc).2
    rw [hcj] at this
    omega
  · obtain ⟨q1, q2⟩ := (tops_le (j := j) (n := ((pick x y z (stackP y hs)).foldl (topStep y) (List.replicate (x * y).toNat 0)).getD j 0) hin).1 (Int.le_refl _)
    rw [hz] at q1
    by_cases h0 : hs.getD j 0 = 0
    · omega
    obtain ⟨d, hd, rfl⟩ := col_at hS hj
    obtain ⟨k1, k2, k3⟩ := hd
    have := q2 ⟨d.a, d.b, hs.getD (d.a * y + d.b).toNat 0 - 1⟩ ((mem_pick hS).2 ⟨⟨k1, k2, by simp only; omega⟩, decide_eq_true (by simp only; omega)⟩) rfl
    simp only at this
    omega
end
end Go.Ab

/- The law of views. -/
namespace Go.Ab
open Go
set_option linter.unusedSimpArgs false
set_option linter.unusedVariables false
set_option maxRecDepth 20000

def HeapGL (M : Mem) (G : Hp) (b : Bool) (v : LV) (N : Mem) : Prop := ∃ u : Nat, v = .tup [.agg [.I G.x, .I G.y, .I G.z, .ref u 0 G.cs.length], .B b] ∧ Live N u (.row (triL G.cs) true 3) ∧ Pre M N
theorem heapGL_eq {f : FuncId} {args : List LV} {M : Mem} {r : Option Hp} {G : Hp} {b : Bool} (h : CallsR PG f args M (HeapX M r)) (h1 : r.getD Hp.none = G) (h2 : r.isSome = b) : CallsR PG f args M (HeapGL M G b) := by
  subst h1 h2
  exact h
def ShdG (M : Mem) (G : Shd) (o : Bool) (v : LV) (N : Mem) : Prop := ∃ a b c : Nat, v = .tup [.agg [.I G.x, .I G.y, .I G.z, .ref a 0 G.tp.length, .ref b 0 G.fr.length, .ref c 0 G.sd.length], .B o] ∧ Ints N a 0 G.tp ∧ Ints N b 0 G.fr ∧ Ints N c 0 G.sd ∧ Pre M N
theorem shdG_eq {f : FuncId} {args : List LV} {M : Mem} {r : Option Shd} {G : Shd} {b : Bool} (h : CallsR PG f args M (ShdX M r)) (h1 : r.getD Shd.none = G) (h2 : r.isSome = b) : CallsR PG f args M (ShdG M G b) := by
  subst h1 h2
  exact h
/-- What all functions answer for a heap and a direction, in one. -/
theorem view_facts (x y z : Int) (cs : List Cell) (d : Int) : ∃ (L T : List Int) (C : Shd) (b q : Bool), vwOf x y z cs d = L ∧ sqrB x y z cs d = q ∧ tpsOf x y z cs = T ∧ decide (HeapOK x y z cs) = b ∧ (shsOf x y z cs).getD Shd.none = C ∧ (shsOf x y z cs).isSome = b ∧ L.length ≤ 1000 ∧ T.length ≤ 1000 ∧ C.tp.length ≤ 1000 ∧ C.fr.length ≤ 1000 ∧ C.sd.length ≤ 1000 ∧
    (q = true → HeapOK x y z cs ∧ Dir d ∧ L = viewL x y z d.toNat cs ∧ C = ⟨x, y, z, shdOf x y z 2 cs, shdOf x y z 1 cs, shdOf x y z 0 cs⟩) := by
  refine ⟨_, _, _, _, _, rfl, rfl, rfl, rfl, rfl, ?_⟩
  by_cases hH : HeapOK x y z cs
  · rw [show shsOf x y z cs = some ⟨x, y, z, shdOf x y z 2 cs, shdOf x y z 1 cs, shdOf x y z 0 cs⟩ from if_pos hH, show tpsOf x y z cs = topsOf x y cs from if_pos hH]
    have b2 := lines_le hH.1 (d := 2) (by omega)
    have b1 := lines_le hH.1 (d := 1) (by omega)
    have b0 := lines_le hH.1 (d := 0) (by omega)
    have hm := mul_bound hH.1.1 hH.1.2.1
    refine ⟨(decide_eq_true hH).symm, ?_, by rw [topsOf_len]; omega, by simp only [Option.getD_some, shdOf_len]; omega, by simp only [Option.getD_some, shdOf_len]; omega, by simp only [Option.getD_some, shdOf_len]; omega, fun hq => ⟨hH, (of_decide_eq_true hq : _ ∧ Dir d).2, if_pos (of_decide_eq_true hq), rfl⟩⟩
    by_cases hd : Dir d
    · rw [show vwOf x y z cs d = viewL x y z d.toNat cs from if_pos ⟨hH, hd⟩, viewL_len]
      have := lines_le hH.1 (d := d.toNat) (by unfold Dir at hd; omega)
      omega
    · rw [show vwOf x y z cs d = [] from if_neg fun e => hd e.2]; simp
  · rw [show shsOf x y z cs = none from if_neg hH, show tpsOf x y z cs = [] from if_neg hH, show vwOf x y z cs d = [] from if_neg fun e => hH e.1]
    exact ⟨(decide_eq_false hH).symm, by simp, by simp, by simp [Shd.none], by simp [Shd.none], by simp [Shd.none], fun hq => (hH (of_decide_eq_true hq : HeapOK x y z cs ∧ Dir d).1).elim⟩
theorem lyr_facts (x y z : Int) (cs : List Cell) (d k : Int) : ∃ (A : List (List Int)) (r : Bool), lyrOf x y z cs d k = A ∧ lyrB x y z cs d k = r ∧ A.length ≤ 1000 ∧ (∀ l ∈ A, l.length ≤ 1000) ∧ (r = true → LyrOK x y z cs d k ∧ A = lyrT x y z d.toNat k cs (sideOf x y z (dirA d.toNat)).toNat) := by
  refine ⟨_, _, rfl, rfl, ?_⟩
  by_cases hL : LyrOK x y z cs d k
  · rw [show lyrOf x y z cs d k = lyrT x y z d.toNat k cs (sideOf x y z (dirA d.toNat)).toNat from if_pos hL]
    have := sideOf_in hL.1.1 (dirA d.toNat)
    refine ⟨by rw [lyrT_len]; omega, fun l hl => ?_, fun _ => ⟨hL, rfl⟩⟩
    obtain ⟨i, _, rfl⟩ := List.mem_map.1 hl
    rw [lyrR_len]
    have := sideOf_in hL.1.1 (dirB d.toNat)
    omega
  · rw [show lyrOf x y z cs d k = [] from if_neg hL]
    exact ⟨by simp, fun l hl => by simp at hl, fun hr => (hL (of_decide_eq_true hr)).elim⟩
theorem stk_facts (x y z : Int) (hs : List Int) : ∃ (G : Hp) (s : Bool), (stkOf x y z hs).getD Hp.none = G ∧ (stkOf x y z hs).isSome = s ∧ G.cs.length ≤ 1000 ∧ (s = true → StkOK x y z hs ∧ G = ⟨x, y, z, pick x y z (stackP y hs)⟩) := by
  refine ⟨_, _, rfl, rfl, ?_⟩
  by_cases h : StkOK x y z hs
  · rw [show stkOf x y z hs = some ⟨x, y, z, pick x y z (stackP y hs)⟩ from if_pos h]
    exact ⟨Nat.le_trans (pick_len h.1 _) (by omega), fun _ => ⟨h, rfl⟩⟩
  · rw [show stkOf x y z hs = none from if_neg h]
    exact ⟨by simp [Hp.none], fun e => Bool.noConfusion e⟩
set_option maxHeartbeats 1000000 in
theorem l_FnViews {t : Nat} {bs : List Nat} {M : Mem} (h : Bytes M t 0 bs) (hn : bs.length ≤ 9223372036854775807 ∧ ∀ b ∈ bs, b ≤ 255) :
    CallsR PG F.laws_FnViews [.ref t 0 bs.length] M fun v _ => v = .B true := by
  have htM := h.lt
  refine callsR_run K.laws_FnViews rfl ?_
  simp (disch := omega) only [C.laws_FnViews, ↓SXd, SXu, slBounds, ↓sop, ↓aop, ↓reduceIte, LV.cells, AOp.dst, LV.I, LV.B, LV.U, LV.S, LV.nil, Nat.reduceEqDiff, Nat.reduceAdd, Nat.reduceMul, Nat.reduceSub, Nat.reduceLeDiff, Nat.reduceBEq, Nat.reduceDiv, Nat.reduceMod, Int.reduceToNat, Int.reduceLT, Int.reduceLE, Int.reduceAdd, Int.reduceSub, Int.reduceMul, Int.reduceEq, Int.reduceNeg, reduceCtorEq, resV, resAll, ARes.ev, LV.flat, ite_true, ite_false, exists_eq_left', exists_eq_left, keyOf, implies_true, fillC, capOf]
  refine callK_of (k_rBig hn.1) ?_
  simp (disch := omega) only [↓SXd, SXu, slBounds, ↓sop, ↓aop, ↓reduceIte, LV.cells, AOp.dst, LV.I, LV.B, LV.U, LV.S, LV.nil, Nat.reduceEqDiff, Nat.reduceAdd, Nat.reduceMul, Nat.reduceSub, Nat.reduceLeDiff, Nat.reduceBEq, Nat.reduceDiv, Nat.reduceMod, Int.reduceToNat, Int.reduceLT, Int.reduceLE, Int.reduceAdd, Int.reduceSub, Int.reduceMul, Int.reduceEq, Int.reduceNeg, reduceCtorEq, resV, resAll, ARes.ev, LV.flat, ite_true, ite_false, exists_eq_left', exists_eq_left, keyOf, implies_true, fillC, capOf]
  by_cases hbig : (65536 : Int) < (bs.length : Nat)
  · simp (disch := omega) only [hbig, ↓SXd, SXu, slBounds, ↓sop, ↓aop, ↓reduceIte, LV.cells, AOp.dst, LV.I, LV.B, LV.U, LV.S, LV.nil, Nat.reduceEqDiff, Nat.reduceAdd, Nat.reduceMul, Nat.reduceSub, Nat.reduceLeDiff, Nat.reduceBEq, Nat.reduceDiv, Nat.reduceMod, Int.reduceToNat, Int.reduceLT, Int.reduceLE, Int.reduceAdd, Int.reduceSub, Int.reduceMul, Int.reduceEq, Int.reduceNeg, reduceCtorEq, resV, resAll, ARes.ev, LV.flat, ite_true, ite_false, exists_eq_left', exists_eq_left, keyOf, implies_true, fillC, capOf]
    rfl
  have hl : bs.length ≤ 1000000000 := by omega
  simp (disch := omega) only [hbig, ↓SXd, SXu, slBounds, ↓sop, ↓aop, ↓reduceIte, LV.cells, AOp.dst, LV.I, LV.B, LV.U, LV.S, LV.nil, Nat.reduceEqDiff, Nat.reduceAdd, Nat.reduceMul, Nat.reduceSub, Nat.reduceLeDiff, Nat.reduceBEq, Nat.reduceDiv, Nat.reduceMod, Int.reduceToNat, Int.reduceLT, Int.reduceLE, Int.reduceAdd, Int.reduceSub, Int.reduceMul, Int.reduceEq, Int.reduceNeg, reduceCtorEq, resV, resAll, ARes.ev, LV.flat, ite_true, ite_false, exists_eq_left', exists_eq_left, keyOf, implies_true, fillC, capOf]
  refine callR_of (d_DrawViewOf h hn.2 hl) ?_
  rintro _ N1 ⟨⟨_, d, rfl, x, y, z, cs, u, rfl, hu, hul, hcl⟩, hp1⟩
  have hcn : cs.length ≤ 1000000000 := by omega
  obtain ⟨L, T, C, b, q, eL, eq, eT, eb, eC, bC, lL, lT, lC1, lC2, lC3, hV⟩ := view_facts x y z cs d
  have B3 : Live (N1 ++ [some (.row [.I x, .I y, .I z, .ref u 0 cs.length] true 0)]) N1.length (.row [.I x, .I y, .I z, .ref u 0 cs.length] true 0) := Live.new
  have U := hu.app (L := [some (.row [.I x, .I y, .I z, .ref u 0 cs.length] true 0)])
  have q1 : Pre M (N1 ++ [some (.row [.I x, .I y, .I z, .ref u 0 cs.length] true 0)]) := hp1.trans (Pre.app _ _)
  simp (disch := omega) only [splice, ↓SXd, SXu, slBounds, ↓sop, ↓aop, ↓reduceIte, LV.cells, AOp.dst, LV.I, LV.B, LV.U, LV.S, LV.nil, Nat.reduceEqDiff, Nat.reduceAdd, Nat.reduceMul, Nat.reduceSub, Nat.reduceLeDiff, Nat.reduceBEq, Nat.reduceDiv, Nat.reduceMod, Int.reduceToNat, Int.reduceLT, Int.reduceLE, Int.reduceAdd, Int.reduceSub, Int.reduceMul, Int.reduceEq, Int.reduceNeg, reduceCtorEq, resV, resAll, ARes.ev, LV.flat, ite_true, ite_false, exists_eq_left', exists_eq_left, keyOf, implies_true, fillC, capOf]
  generalize hm3 : N1.length = m3 at B3 ⊢
  generalize N1 ++ [some (Blk.row [.I x, .I y, .I z, .ref u 0 cs.length] true 0)] = W1 at B3 U q1 ⊢
  refine callR_of (g_ViewOfI U.has hcn (d := d)) ?_
  rw [eL, eq]
  rintro _ W2 ⟨w5, rfl, Iw5, hp2⟩
  simp (disch := omega) only [(B3.pre (hp2)).cells, ↓SXd, SXu, slBounds, ↓sop, ↓aop, ↓reduceIte, LV.cells, AOp.dst, LV.I, LV.B, LV.U, LV.S, LV.nil, Nat.reduceEqDiff, Nat.reduceAdd, Nat.reduceMul, Nat.reduceSub, Nat.reduceLeDiff, Nat.reduceBEq, Nat.reduceDiv, Nat.reduceMod, Int.reduceToNat, Int.reduceLT, Int.reduceLE, Int.reduceAdd, Int.reduceSub, Int.reduceMul, Int.reduceEq, Int.reduceNeg, reduceCtorEq, resV, resAll, ARes.ev, LV.flat, ite_true, ite_false, exists_eq_left', exists_eq_left, keyOf, implies_true, fillC, capOf]
  refine callR_of (h_sViewOf (U.pre (hp2)).has hcn (d := d)) ?_
  rw [eL, eq]
  rintro _ W3 ⟨w7, rfl, Iw7, hp3⟩
  simp (disch := omega) only [beq_self_eq_true, Bool.not_true, ↓SXd, SXu, slBounds, ↓sop, ↓aop, ↓reduceIte, LV.cells, AOp.dst, LV.I, LV.B, LV.U, LV.S, LV.nil, Nat.reduceEqDiff, Nat.reduceAdd, Nat.reduceMul, Nat.reduceSub, Nat.reduceLeDiff, Nat.reduceBEq, Nat.reduceDiv, Nat.reduceMod, Int.reduceToNat, Int.reduceLT, Int.reduceLE, Int.reduceAdd, Int.reduceSub, Int.reduceMul, Int.reduceEq, Int.reduceNeg, reduceCtorEq, resV, resAll, ARes.ev, LV.flat, ite_true, ite_false, exists_eq_left', exists_eq_left, keyOf, implies_true, fillC, capOf]
  refine callK_of (k_rInts (Iw5.pre (hp3)) Iw7 (by omega)) ?_
  refine put_cut (fun fr' M' => M' = W3 ∧ fr' 0 = .ref t 0 bs.length ∧ fr' 3 = .ptr m3 0 ∧ fr' 4 = .I d ∧ fr' 5 = w5 ∧ fr' 6 = .B q) ?_ ?_
  · simp (disch := omega) only [beq_self_eq_true, Bool.not_true, ↓SXd, SXu, slBounds, ↓sop, ↓aop, ↓reduceIte, LV.cells, AOp.dst, LV.I, LV.B, LV.U, LV.S, LV.nil, Nat.reduceEqDiff, Nat.reduceAdd, Nat.reduceMul, Nat.reduceSub, Nat.reduceLeDiff, Nat.reduceBEq, Nat.reduceDiv, Nat.reduceMod, Int.reduceToNat, Int.reduceLT, Int.reduceLE, Int.reduceAdd, Int.reduceSub, Int.reduceMul, Int.reduceEq, Int.reduceNeg, reduceCtorEq, resV, resAll, ARes.ev, LV.flat, ite_true, ite_false, exists_eq_left', exists_eq_left, keyOf, implies_true, fillC, capOf]
    all_goals exact ⟨rfl, by first | rfl | assumption, by first | rfl | assumption, by first | rfl | assumption, by first | rfl | assumption, by first | rfl | assumption⟩
  rintro fr W3 ⟨rfl, f0, f3, f4, f5, f6⟩
  simp (disch := omega) only [f0, f3, f4, f5, f6, (B3.pre (hp2.trans (hp3))).cells, ↓SXd, SXu, slBounds, ↓sop, ↓aop, ↓reduceIte, LV.cells, AOp.dst, LV.I, LV.B, LV.U, LV.S, LV.nil, Nat.reduceEqDiff, Nat.reduceAdd, Nat.reduceMul, Nat.reduceSub, Nat.reduceLeDiff, Nat.reduceBEq, Nat.reduceDiv, Nat.reduceMod, Int.reduceToNat, Int.reduceLT, Int.reduceLE, Int.reduceAdd, Int.reduceSub, Int.reduceMul, Int.reduceEq, Int.reduceNeg, reduceCtorEq, resV, resAll, ARes.ev, LV.flat, ite_true, ite_false, exists_eq_left', exists_eq_left, keyOf, implies_true, fillC, capOf]
  refine callR_of (shdG_eq (g_ShadowsOfX (U.pre (hp2.trans (hp3))).has hcn) eC bC) ?_
  rintro _ N4 ⟨w9a, w9b, w9c, rfl, i9a, i9b, i9c, hp4⟩
  have B9 : Live (N4 ++ [some (.row [.I C.x, .I C.y, .I C.z, .ref w9a 0 C.tp.length, .ref w9b 0 C.fr.length, .ref w9c 0 C.sd.length] true 0)]) N4.length (.row [.I C.x, .I C.y, .I C.z, .ref w9a 0 C.tp.length, .ref w9b 0 C.fr.length, .ref w9c 0 C.sd.length] true 0) := Live.new
  have I9a := i9a.app (L := [some (.row [.I C.x, .I C.y, .I C.z, .ref w9a 0 C.tp.length, .ref w9b 0 C.fr.length, .ref w9c 0 C.sd.length] true 0)])
  have I9b := i9b.app (L := [some (.row [.I C.x, .I C.y, .I C.z, .ref w9a 0 C.tp.length, .ref w9b 0 C.fr.length, .ref w9c 0 C.sd.length] true 0)])
  have I9c := i9c.app (L := [some (.row [.I C.x, .I C.y, .I C.z, .ref w9a 0 C.tp.length, .ref w9b 0 C.fr.length, .ref w9c 0 C.sd.length] true 0)])
  have q4 : Pre W3 (N4 ++ [some (.row [.I C.x, .I C.y, .I C.z, .ref w9a 0 C.tp.length, .ref w9b 0 C.fr.length, .ref w9c 0 C.sd.length] true 0)]) := hp4.trans (Pre.app _ _)
  have eB3 := B3.pre ((hp2.trans (hp3)).trans q4)
  simp (disch := omega) only [f0, f3, f4, f5, f6, splice, eB3.cells, ↓SXd, SXu, slBounds, ↓sop, ↓aop, ↓reduceIte, LV.cells, AOp.dst, LV.I, LV.B, LV.U, LV.S, LV.nil, Nat.reduceEqDiff, Nat.reduceAdd, Nat.reduceMul, Nat.reduceSub, Nat.reduceLeDiff, Nat.reduceBEq, Nat.reduceDiv, Nat.reduceMod, Int.reduceToNat, Int.reduceLT, Int.reduceLE, Int.reduceAdd, Int.reduceSub, Int.reduceMul, Int.reduceEq, Int.reduceNeg, reduceCtorEq, resV, resAll, ARes.ev, LV.flat, ite_true, ite_false, exists_eq_left', exists_eq_left, keyOf, implies_true, fillC, capOf]
  generalize hm9 : N4.length = m9 at B9 ⊢
  generalize N4 ++ [some (Blk.row [.I C.x, .I C.y, .I C.z, .ref w9a 0 C.tp.length, .ref w9b 0 C.fr.length, .ref w9c 0 C.sd.length] true 0)] = W4 at B9 I9a I9b I9c q4 eB3 ⊢
  refine callR_of (shdG_eq (h_sShadowsOf (U.pre (hp2.trans (hp3.trans (q4)))).has hcn) eC bC) ?_
  rintro _ N5 ⟨w11a, w11b, w11c, rfl, i11a, i11b, i11c, hp5⟩
  have B11 : Live (N5 ++ [some (.row [.I C.x, .I C.y, .I C.z, .ref w11a 0 C.tp.length, .ref w11b 0 C.fr.length, .ref w11c 0 C.sd.length] true 0)]) N5.length (.row [.I C.x, .I C.y, .I C.z, .ref w11a 0 C.tp.length, .ref w11b 0 C.fr.length, .ref w11c 0 C.sd.length] true 0) := Live.new
  have I11a := i11a.app (L := [some (.row [.I C.x, .I C.y, .I C.z, .ref w11a 0 C.tp.length, .ref w11b 0 C.fr.length, .ref w11c 0 C.sd.length] true 0)])
  have I11b := i11b.app (L := [some (.row [.I C.x, .I C.y, .I C.z, .ref w11a 0 C.tp.length, .ref w11b 0 C.fr.length, .ref w11c 0 C.sd.length] true 0)])
  have I11c := i11c.app (L := [some (.row [.I C.x, .I C.y, .I C.z, .ref w11a 0 C.tp.length, .ref w11b 0 C.fr.length, .ref w11c 0 C.sd.length] true 0)])
  have q5 : Pre W4 (N5 ++ [some (.row [.I C.x, .I C.y, .I C.z, .ref w11a 0 C.tp.length, .ref w11b 0 C.fr.length, .ref w11c 0 C.sd.length] true 0)]) := hp5.trans (Pre.app _ _)
  have eB3 := B3.pre ((hp2.trans (hp3.trans (q4))).trans q5)
  simp (disch := omega) only [f0, f3, f4, f5, f6, splice, eB3.cells, beq_self_eq_true, Bool.not_true, ↓SXd, SXu, slBounds, ↓sop, ↓aop, ↓reduceIte, LV.cells, AOp.dst, LV.I, LV.B, LV.U, LV.S, LV.nil, Nat.reduceEqDiff, Nat.reduceAdd, Nat.reduceMul, Nat.reduceSub, Nat.reduceLeDiff, Nat.reduceBEq, Nat.reduceDiv, Nat.reduceMod, Int.reduceToNat, Int.reduceLT, Int.reduceLE, Int.reduceAdd, Int.reduceSub, Int.reduceMul, Int.reduceEq, Int.reduceNeg, reduceCtorEq, resV, resAll, ARes.ev, LV.flat, ite_true, ite_false, exists_eq_left', exists_eq_left, keyOf, implies_true, fillC, capOf]
  generalize hm11 : N5.length = m11 at B11 ⊢
  generalize N5 ++ [some (Blk.row [.I C.x, .I C.y, .I C.z, .ref w11a 0 C.tp.length, .ref w11b 0 C.fr.length, .ref w11c 0 C.sd.length] true 0)] = W5 at B11 I11a I11b I11c q5 eB3 ⊢
  have hIs := g_IsHeap (M := W5) (x := x) (y := y) (z := z) (U.pre (hp2.trans (hp3.trans (q4.trans (q5))))).has hcn
  rw [eb] at hIs
  refine callK_of hIs ?_
  simp (disch := omega) only [f0, f3, f4, f5, f6, beq_self_eq_true, Bool.not_true, (B9.pre (q5)).cell, B11.cell, ↓SXd, SXu, slBounds, ↓sop, ↓aop, ↓reduceIte, LV.cells, AOp.dst, LV.I, LV.B, LV.U, LV.S, LV.nil, Nat.reduceEqDiff, Nat.reduceAdd, Nat.reduceMul, Nat.reduceSub, Nat.reduceLeDiff, Nat.reduceBEq, Nat.reduceDiv, Nat.reduceMod, Int.reduceToNat, Int.reduceLT, Int.reduceLE, Int.reduceAdd, Int.reduceSub, Int.reduceMul, Int.reduceEq, Int.reduceNeg, reduceCtorEq, resV, resAll, ARes.ev, LV.flat, ite_true, ite_false, exists_eq_left', exists_eq_left, keyOf, implies_true, fillC, capOf]
  refine callK_of (k_rInts (l := C.tp) (.inr ⟨_, _, rfl, (I9a.pre (q5))⟩) (.inr ⟨_, _, rfl, I11a⟩) (by omega)) ?_
  simp (disch := omega) only [f0, f3, f4, f5, f6, beq_self_eq_true, Bool.not_true, (B9.pre (q5)).cell, B11.cell, ↓SXd, SXu, slBounds, ↓sop, ↓aop, ↓reduceIte, LV.cells, AOp.dst, LV.I, LV.B, LV.U, LV.S, LV.nil, Nat.reduceEqDiff, Nat.reduceAdd, Nat.reduceMul, Nat.reduceSub, Nat.reduceLeDiff, Nat.reduceBEq, Nat.reduceDiv, Nat.reduceMod, Int.reduceToNat, Int.reduceLT, Int.reduceLE, Int.reduceAdd, Int.reduceSub, Int.reduceMul, Int.reduceEq, Int.reduceNeg, reduceCtorEq, resV, resAll, ARes.ev, LV.flat, ite_true, ite_false, exists_eq_left', exists_eq_left, keyOf, implies_true, fillC, capOf]
  refine callK_of (k_rInts (l := C.fr) (.inr ⟨_, _, rfl, (I9b.pre (q5))⟩) (.inr ⟨_, _, rfl, I11b⟩) (by omega)) ?_
  simp (disch := omega) only [f0, f3, f4, f5, f6, beq_self_eq_true, Bool.not_true, (B9.pre (q5)).cell, B11.cell, ↓SXd, SXu, slBounds, ↓sop, ↓aop, ↓reduceIte, LV.cells, AOp.dst, LV.I, LV.B, LV.U, LV.S, LV.nil, Nat.reduceEqDiff, Nat.reduceAdd, Nat.reduceMul, Nat.reduceSub, Nat.reduceLeDiff, Nat.reduceBEq, Nat.reduceDiv, Nat.reduceMod, Int.reduceToNat, Int.reduceLT, Int.reduceLE, Int.reduceAdd, Int.reduceSub, Int.reduceMul, Int.reduceEq, Int.reduceNeg, reduceCtorEq, resV, resAll, ARes.ev, LV.flat, ite_true, ite_false, exists_eq_left', exists_eq_left, keyOf, implies_true, fillC, capOf]
  refine callK_of (k_rInts (l := C.sd) (.inr ⟨_, _, rfl, (I9c.pre (q5))⟩) (.inr ⟨_, _, rfl, I11c⟩) (by omega)) ?_
  refine put_cut (fun fr' M' => M' = W5 ∧ fr' 0 = .ref t 0 bs.length ∧ fr' 3 = .ptr m3 0 ∧ fr' 4 = .I d ∧ fr' 5 = w5 ∧ fr' 6 = .B q ∧ fr' 9 = .ptr m9 0 ∧ fr' 10 = .B b) ?_ ?_
  · simp (disch := omega) only [f0, f3, f4, f5, f6, beq_self_eq_true, Bool.not_true, ↓SXd, SXu, slBounds, ↓sop, ↓aop, ↓reduceIte, LV.cells, AOp.dst, LV.I, LV.B, LV.U, LV.S, LV.nil, Nat.reduceEqDiff, Nat.reduceAdd, Nat.reduceMul, Nat.reduceSub, Nat.reduceLeDiff, Nat.reduceBEq, Nat.reduceDiv, Nat.reduceMod, Int.reduceToNat, Int.reduceLT, Int.reduceLE, Int.reduceAdd, Int.reduceSub, Int.reduceMul, Int.reduceEq, Int.reduceNeg, reduceCtorEq, resV, resAll, ARes.ev, LV.flat, ite_true, ite_false, exists_eq_left', exists_eq_left, keyOf, implies_true, fillC, capOf]
    all_goals exact ⟨rfl, by first | rfl | assumption, by first | rfl | assumption, by first | rfl | assumption, by first | rfl | assumption, by first | rfl | assumption, by first | rfl | assumption, by first | rfl | assumption⟩
  clear f0 f3 f4 f5 f6
  rintro fr W5 ⟨rfl, f0, f3, f4, f5, f6, f9, f10⟩
  simp (disch := omega) only [f0, f3, f4, f5, f6, f9, f10, (B3.pre (hp2.trans (hp3.trans (q4.trans (q5))))).cells, ↓SXd, SXu, slBounds, ↓sop, ↓aop, ↓reduceIte, LV.cells, AOp.dst, LV.I, LV.B, LV.U, LV.S, LV.nil, Nat.reduceEqDiff, Nat.reduceAdd, Nat.reduceMul, Nat.reduceSub, Nat.reduceLeDiff, Nat.reduceBEq, Nat.reduceDiv, Nat.reduceMod, Int.reduceToNat, Int.reduceLT, Int.reduceLE, Int.reduceAdd, Int.reduceSub, Int.reduceMul, Int.reduceEq, Int.reduceNeg, reduceCtorEq, resV, resAll, ARes.ev, LV.flat, ite_true, ite_false, exists_eq_left', exists_eq_left, keyOf, implies_true, fillC, capOf]
  refine callR_of (g_TopHeightsG (U.pre (hp2.trans (hp3.trans (q4.trans (q5))))).has hcn) ?_
  rw [eT, eb]
  rintro _ W6 ⟨w13, rfl, Iw13, hp6⟩
  simp (disch := omega) only [f0, f3, f4, f5, f6, f9, f10, (B3.pre (hp2.trans (hp3.trans (q4.trans (q5.trans (hp6)))))).cells, ↓SXd, SXu, slBounds, ↓sop, ↓aop, ↓reduceIte, LV.cells, AOp.dst, LV.I, LV.B, LV.U, LV.S, LV.nil, Nat.reduceEqDiff, Nat.reduceAdd, Nat.reduceMul, Nat.reduceSub, Nat.reduceLeDiff, Nat.reduceBEq, Nat.reduceDiv, Nat.reduceMod, Int.reduceToNat, Int.reduceLT, Int.reduceLE, Int.reduceAdd, Int.reduceSub, Int.reduceMul, Int.reduceEq, Int.reduceNeg, reduceCtorEq, resV, resAll, ARes.ev, LV.flat, ite_true, ite_false, exists_eq_left', exists_eq_left, keyOf, implies_true, fillC, capOf]
  refine callR_of (h_sTopHeights (U.pre (hp2.trans (hp3.trans (q4.trans (q5.trans (hp6)))))).has hcn) ?_
  rw [eT, eb]
  rintro _ W7 ⟨w15, rfl, Iw15, hp7⟩
  simp (disch := omega) only [f0, f3, f4, f5, f6, f9, f10, beq_self_eq_true, Bool.not_true, ↓SXd, SXu, slBounds, ↓sop, ↓aop, ↓reduceIte, LV.cells, AOp.dst, LV.I, LV.B, LV.U, LV.S, LV.nil, Nat.reduceEqDiff, Nat.reduceAdd, Nat.reduceMul, Nat.reduceSub, Nat.reduceLeDiff, Nat.reduceBEq, Nat.reduceDiv, Nat.reduceMod, Int.reduceToNat, Int.reduceLT, Int.reduceLE, Int.reduceAdd, Int.reduceSub, Int.reduceMul, Int.reduceEq, Int.reduceNeg, reduceCtorEq, resV, resAll, ARes.ev, LV.flat, ite_true, ite_false, exists_eq_left', exists_eq_left, keyOf, implies_true, fillC, capOf]
  refine callK_of (k_rInts (Iw13.pre (hp7)) Iw15 (by omega)) ?_
  refine put_cut (fun fr' M' => M' = W7 ∧ fr' 0 = .ref t 0 bs.length ∧ fr' 3 = .ptr m3 0 ∧ fr' 4 = .I d ∧ fr' 5 = w5 ∧ fr' 6 = .B q ∧ fr' 9 = .ptr m9 0) ?_ ?_
  · simp (disch := omega) only [f0, f3, f4, f5, f6, f9, f10, beq_self_eq_true, Bool.not_true, ↓SXd, SXu, slBounds, ↓sop, ↓aop, ↓reduceIte, LV.cells, AOp.dst, LV.I, LV.B, LV.U, LV.S, LV.nil, Nat.reduceEqDiff, Nat.reduceAdd, Nat.reduceMul, Nat.reduceSub, Nat.reduceLeDiff, Nat.reduceBEq, Nat.reduceDiv, Nat.reduceMod, Int.reduceToNat, Int.reduceLT, Int.reduceLE, Int.reduceAdd, Int.reduceSub, Int.reduceMul, Int.reduceEq, Int.reduceNeg, reduceCtorEq, resV, resAll, ARes.ev, LV.flat, ite_true, ite_false, exists_eq_left', exists_eq_left, keyOf, implies_true, fillC, capOf]
    all_goals exact ⟨rfl, by first | rfl | assumption, by first | rfl | assumption, by first | rfl | assumption, by first | rfl | assumption, by first | rfl | assumption, by first | rfl | assumption⟩
  clear f0 f3 f4 f5 f6 f9 f10
  rintro fr W7 ⟨rfl, f0, f3, f4, f5, f6, f9⟩
  simp (disch := omega) only [f0, f3, f4, f5, f6, f9, ↓SXd, SXu, slBounds, ↓sop, ↓aop, ↓reduceIte, LV.cells, AOp.dst, LV.I, LV.B, LV.U, LV.S, LV.nil, Nat.reduceEqDiff, Nat.reduceAdd, Nat.reduceMul, Nat.reduceSub, Nat.reduceLeDiff, Nat.reduceBEq, Nat.reduceDiv, Nat.reduceMod, Int.reduceToNat, Int.reduceLT, Int.reduceLE, Int.reduceAdd, Int.reduceSub, Int.reduceMul, Int.reduceEq, Int.reduceNeg, reduceCtorEq, resV, resAll, ARes.ev, LV.flat, ite_true, ite_false, exists_eq_left', exists_eq_left, keyOf, implies_true, fillC, capOf]
  refine callR_of (d_DrawLayerOf (h.pre (q1.trans (hp2.trans (hp3.trans (q4.trans (q5.trans (hp6.trans (hp7)))))))) hn.2 hl) ?_
  rintro _ N8 ⟨⟨_, d2, k2, rfl, x2, y2, z2, cs2, u2, rfl, hu2, _, hcl2⟩, hp8⟩
  have hcn2 : cs2.length ≤ 1000000000 := by omega
  obtain ⟨A, r, eA, er, lA, lAr, hA⟩ := lyr_facts x2 y2 z2 cs2 d2 k2
  have B17 : Live (N8 ++ [some (.row [.I x2, .I y2, .I z2, .ref u2 0 cs2.length] true 0)]) N8.length (.row [.I x2, .I y2, .I z2, .ref u2 0 cs2.length] true 0) := Live.new
  have U2 := hu2.app (L := [some (.row [.I x2, .I y2, .I z2, .ref u2 0 cs2.length] true 0)])
  have q8 : Pre W7 (N8 ++ [some (.row [.I x2, .I y2, .I z2, .ref u2 0 cs2.length] true 0)]) := hp8.trans (Pre.app _ _)
  simp (disch := omega) only [f0, f3, f4, f5, f6, f9, splice, ↓SXd, SXu, slBounds, ↓sop, ↓aop, ↓reduceIte, LV.cells, AOp.dst, LV.I, LV.B, LV.U, LV.S, LV.nil, Nat.reduceEqDiff, Nat.reduceAdd, Nat.reduceMul, Nat.reduceSub, Nat.reduceLeDiff, Nat.reduceBEq, Nat.reduceDiv, Nat.reduceMod, Int.reduceToNat, Int.reduceLT, Int.reduceLE, Int.reduceAdd, Int.reduceSub, Int.reduceMul, Int.reduceEq, Int.reduceNeg, reduceCtorEq, resV, resAll, ARes.ev, LV.flat, ite_true, ite_false, exists_eq_left', exists_eq_left, keyOf, implies_true, fillC, capOf]
  generalize hm17 : N8.length = m17 at B17 ⊢
  generalize N8 ++ [some (Blk.row [.I x2, .I y2, .I z2, .ref u2 0 cs2.length] true 0)] = W8 at B17 U2 q8 ⊢
  refine callR_of (g_LayerOf U2.has hcn2 (d := d2) (k := k2)) ?_
  rw [eA, er]
  rintro _ W9 ⟨w20, rfl, Iw20, hp9⟩
  simp (disch := omega) only [f0, f3, f4, f5, f6, f9, (B17.pre (hp9)).cells, ↓SXd, SXu, slBounds, ↓sop, ↓aop, ↓reduceIte, LV.cells, AOp.dst, LV.I, LV.B, LV.U, LV.S, LV.nil, Nat.reduceEqDiff, Nat.reduceAdd, Nat.reduceMul, Nat.reduceSub, Nat.reduceLeDiff, Nat.reduceBEq, Nat.reduceDiv, Nat.reduceMod, Int.reduceToNat, Int.reduceLT, Int.reduceLE, Int.reduceAdd, Int.reduceSub, Int.reduceMul, Int.reduceEq, Int.reduceNeg, reduceCtorEq, resV, resAll, ARes.ev, LV.flat, ite_true, ite_false, exists_eq_left', exists_eq_left, keyOf, implies_true, fillC, capOf]
  refine callR_of (h_sLayerOf (U2.pre (hp9)).has hcn2 (d := d2) (k := k2)) ?_
  rw [eA, er]
  rintro _ W10 ⟨w22, rfl, Iw22, hp10⟩
  simp (disch := omega) only [f0, f3, f4, f5, f6, f9, beq_self_eq_true, Bool.not_true, ↓SXd, SXu, slBounds, ↓sop, ↓aop, ↓reduceIte, LV.cells, AOp.dst, LV.I, LV.B, LV.U, LV.S, LV.nil, Nat.reduceEqDiff, Nat.reduceAdd, Nat.reduceMul, Nat.reduceSub, Nat.reduceLeDiff, Nat.reduceBEq, Nat.reduceDiv, Nat.reduceMod, Int.reduceToNat, Int.reduceLT, Int.reduceLE, Int.reduceAdd, Int.reduceSub, Int.reduceMul, Int.reduceEq, Int.reduceNeg, reduceCtorEq, resV, resAll, ARes.ev, LV.flat, ite_true, ite_false, exists_eq_left', exists_eq_left, keyOf, implies_true, fillC, capOf]
  refine callK_of (k_rTable (Iw20.pre (hp10)) Iw22 lA lAr) ?_
  refine put_cut (fun fr' M' => M' = W10 ∧ fr' 0 = .ref t 0 bs.length ∧ fr' 3 = .ptr m3 0 ∧ fr' 4 = .I d ∧ fr' 5 = w5 ∧ fr' 6 = .B q ∧ fr' 9 = .ptr m9 0 ∧ fr' 17 = .ptr m17 0 ∧ fr' 18 = .I d2 ∧ fr' 19 = .I k2 ∧ fr' 20 = w20 ∧ fr' 21 = .B r) ?_ ?_
  · simp (disch := omega) only [f0, f3, f4, f5, f6, f9, beq_self_eq_true, Bool.not_true, ↓SXd, SXu, slBounds, ↓sop, ↓aop, ↓reduceIte, LV.cells, AOp.dst, LV.I, LV.B, LV.U, LV.S, LV.nil, Nat.reduceEqDiff, Nat.reduceAdd, Nat.reduceMul, Nat.reduceSub, Nat.reduceLeDiff, Nat.reduceBEq, Nat.reduceDiv, Nat.reduceMod, Int.reduceToNat, Int.reduceLT, Int.reduceLE, Int.reduceAdd, Int.reduceSub, Int.reduceMul, Int.reduceEq, Int.reduceNeg, reduceCtorEq, resV, resAll, ARes.ev, LV.flat, ite_true, ite_false, exists_eq_left', exists_eq_left, keyOf, implies_true, fillC, capOf]
    all_goals exact ⟨rfl, by first | rfl | assumption, by first | rfl | assumption, by first | rfl | assumption, by first | rfl | assumption, by first | rfl | assumption, by first | rfl | assumption, by first | rfl | assumption, by first | rfl | assumption, by first | rfl | assumption, by first | rfl | assumption, by first | rfl | assumption⟩
  clear f0 f3 f4 f5 f6 f9
  rintro fr W10 ⟨rfl, f0, f3, f4, f5, f6, f9, f17, f18, f19, f20, f21⟩
  simp (disch := omega) only [f0, f3, f4, f5, f6, f9, f17, f18, f19, f20, f21, ↓SXd, SXu, slBounds, ↓sop, ↓aop, ↓reduceIte, LV.cells, AOp.dst, LV.I, LV.B, LV.U, LV.S, LV.nil, Nat.reduceEqDiff, Nat.reduceAdd, Nat.reduceMul, Nat.reduceSub, Nat.reduceLeDiff, Nat.reduceBEq, Nat.reduceDiv, Nat.reduceMod, Int.reduceToNat, Int.reduceLT, Int.reduceLE, Int.reduceAdd, Int.reduceSub, Int.reduceMul, Int.reduceEq, Int.reduceNeg, reduceCtorEq, resV, resAll, ARes.ev, LV.flat, ite_true, ite_false, exists_eq_left', exists_eq_left, keyOf, implies_true, fillC, capOf]
  refine callR_of (d_DrawStackHeap (h.pre (q1.trans (hp2.trans (hp3.trans (q4.trans (q5.trans (hp6.trans (hp7.trans (q8.trans (hp9.trans (hp10))))))))))) hn.2 hl) ?_
  rintro _ W11 ⟨⟨x3, y3, z3, hs, u3, rfl, hu3, hcl3⟩, hp11⟩
  obtain ⟨G, s, eG, bG, lG, hG⟩ := stk_facts x3 y3 z3 hs
  simp (disch := omega) only [f0, f3, f4, f5, f6, f9, f17, f18, f19, f20, f21, ↓SXd, SXu, slBounds, ↓sop, ↓aop, ↓reduceIte, LV.cells, AOp.dst, LV.I, LV.B, LV.U, LV.S, LV.nil, Nat.reduceEqDiff, Nat.reduceAdd, Nat.reduceMul, Nat.reduceSub, Nat.reduceLeDiff, Nat.reduceBEq, Nat.reduceDiv, Nat.reduceMod, Int.reduceToNat, Int.reduceLT, Int.reduceLE, Int.reduceAdd, Int.reduceSub, Int.reduceMul, Int.reduceEq, Int.reduceNeg, reduceCtorEq, resV, resAll, ARes.ev, LV.flat, ite_true, ite_false, exists_eq_left', exists_eq_left, keyOf, implies_true, fillC, capOf]
  refine callR_of (heapGL_eq (g_StackHeap (x := x3) (y := y3) (z := z3) hu3.has (by omega)) eG bG) ?_
  rintro _ N12 ⟨v28, rfl, hv28, hp12⟩
  have B28 : Live (N12 ++ [some (.row [.I G.x, .I G.y, .I G.z, .ref v28 0 G.cs.length] true 0)]) N12.length (.row [.I G.x, .I G.y, .I G.z, .ref v28 0 G.cs.length] true 0) := Live.new
  have U28 := hv28.app (L := [some (.row [.I G.x, .I G.y, .I G.z, .ref v28 0 G.cs.length] true 0)])
  have q12 : Pre W11 (N12 ++ [some (.row [.I G.x, .I G.y, .I G.z, .ref v28 0 G.cs.length] true 0)]) := hp12.trans (Pre.app _ _)
  simp (disch := omega) only [f0, f3, f4, f5, f6, f9, f17, f18, f19, f20, f21, splice, beq_self_eq_true, Bool.not_true, ↓SXd, SXu, slBounds, ↓sop, ↓aop, ↓reduceIte, LV.cells, AOp.dst, LV.I, LV.B, LV.U, LV.S, LV.nil, Nat.reduceEqDiff, Nat.reduceAdd, Nat.reduceMul, Nat.reduceSub, Nat.reduceLeDiff, Nat.reduceBEq, Nat.reduceDiv, Nat.reduceMod, Int.reduceToNat, Int.reduceLT, Int.reduceLE, Int.reduceAdd, Int.reduceSub, Int.reduceMul, Int.reduceEq, Int.reduceNeg, reduceCtorEq, resV, resAll, ARes.ev, LV.flat, ite_true, ite_false, exists_eq_left', exists_eq_left, keyOf, implies_true, fillC, capOf]
  generalize hm28 : N12.length = m28 at B28 ⊢
  generalize N12 ++ [some (Blk.row [.I G.x, .I G.y, .I G.z, .ref v28 0 G.cs.length] true 0)] = W12 at B28 U28 q12 ⊢
  refine callR_of (heapGL_eq (h_sStackHeap (x := x3) (y := y3) (z := z3) (hu3.pre (q12)).has (by omega)) eG bG) ?_
  rintro _ N13 ⟨v30, rfl, hv30, hp13⟩
  have B30 : Live (N13 ++ [some (.row [.I G.x, .I G.y, .I G.z, .ref v30 0 G.cs.length] true 0)]) N13.length (.row [.I G.x, .I G.y, .I G.z, .ref v30 0 G.cs.length] true 0) := Live.new
  have U30 := hv30.app (L := [some (.row [.I G.x, .I G.y, .I G.z, .ref v30 0 G.cs.length] true 0)])
  have q13 : Pre W12 (N13 ++ [some (.row [.I G.x, .I G.y, .I G.z, .ref v30 0 G.cs.length] true 0)]) := hp13.trans (Pre.app _ _)
  have eB28 := B28.pre (q13)
  simp (disch := omega) only [f0, f3, f4, f5, f6, f9, f17, f18, f19, f20, f21, splice, eB28.cells, beq_self_eq_true, Bool.not_true, ↓SXd, SXu, slBounds, ↓sop, ↓aop, ↓reduceIte, LV.cells, AOp.dst, LV.I, LV.B, LV.U, LV.S, LV.nil, Nat.reduceEqDiff, Nat.reduceAdd, Nat.reduceMul, Nat.reduceSub, Nat.reduceLeDiff, Nat.reduceBEq, Nat.reduceDiv, Nat.reduceMod, Int.reduceToNat, Int.reduceLT, Int.reduceLE, Int.reduceAdd, Int.reduceSub, Int.reduceMul, Int.reduceEq, Int.reduceNeg, reduceCtorEq, resV, resAll, ARes.ev, LV.flat, ite_true, ite_false, exists_eq_left', exists_eq_left, keyOf, implies_true, fillC, capOf]
  generalize hm30 : N13.length = m30 at B30 ⊢
  generalize N13 ++ [some (Blk.row [.I G.x, .I G.y, .I G.z, .ref v30 0 G.cs.length] true 0)] = W13 at B30 U30 q13 eB28 ⊢
  have rh := k_rHeap (g := G) (h := G) (CellsV.of (U28.pre (q13)).has) (CellsV.of U30.has) (by omega) (by omega)
  rw [decide_eq_true (⟨rfl, rfl⟩ : G.dims = G.dims ∧ G.cs = G.cs)] at rh
  refine callK_of rh ?_
  refine put_cut (fun fr' M' => M' = W13 ∧ fr' 3 = .ptr m3 0 ∧ fr' 4 = .I d ∧ fr' 5 = w5 ∧ fr' 6 = .B q ∧ fr' 9 = .ptr m9 0 ∧ fr' 17 = .ptr m17 0 ∧ fr' 18 = .I d2 ∧ fr' 19 = .I k2 ∧ fr' 20 = w20 ∧ fr' 21 = .B r ∧ fr' 27 = .ref u3 0 hs.length ∧ fr' 28 = .ptr m28 0 ∧ fr' 29 = .B s) ?_ ?_
  · simp (disch := omega) only [f0, f3, f4, f5, f6, f9, f17, f18, f19, f20, f21, beq_self_eq_true, Bool.not_true, ↓SXd, SXu, slBounds, ↓sop, ↓aop, ↓reduceIte, LV.cells, AOp.dst, LV.I, LV.B, LV.U, LV.S, LV.nil, Nat.reduceEqDiff, Nat.reduceAdd, Nat.reduceMul, Nat.reduceSub, Nat.reduceLeDiff, Nat.reduceBEq, Nat.reduceDiv, Nat.reduceMod, Int.reduceToNat, Int.reduceLT, Int.reduceLE, Int.reduceAdd, Int.reduceSub, Int.reduceMul, Int.reduceEq, Int.reduceNeg, reduceCtorEq, resV, resAll, ARes.ev, LV.flat, ite_true, ite_false, exists_eq_left', exists_eq_left, keyOf, implies_true, fillC, capOf]
    all_goals exact ⟨rfl, by first | rfl | assumption, by first | rfl | assumption, by first | rfl | assumption, by first | rfl | assumption, by first | rfl | assumption, by first | rfl | assumption, by first | rfl | assumption, by first | rfl | assumption, by first | rfl | assumption, by first | rfl | assumption, by first | rfl | assumption, by first | rfl | assumption, by first | rfl | assumption⟩
  clear f0 f3 f4 f5 f6 f9 f17 f18 f19 f20 f21
  rintro fr W13 ⟨rfl, f3, f4, f5, f6, f9, f17, f18, f19, f20, f21, f27, f28, f29⟩
  simp (disch := omega) only [f3, f4, f5, f6, f9, f17, f18, f19, f20, f21, f27, f28, f29, ↓SXd, SXu, slBounds, ↓sop, ↓aop, ↓reduceIte, LV.cells, AOp.dst, LV.I, LV.B, LV.U, LV.S, LV.nil, Nat.reduceEqDiff, Nat.reduceAdd, Nat.reduceMul, Nat.reduceSub, Nat.reduceLeDiff, Nat.reduceBEq, Nat.reduceDiv, Nat.reduceMod, Int.reduceToNat, Int.reduceLT, Int.reduceLE, Int.reduceAdd, Int.reduceSub, Int.reduceMul, Int.reduceEq, Int.reduceNeg, reduceCtorEq, resV, resAll, ARes.ev, LV.flat, ite_true, ite_false, exists_eq_left', exists_eq_left, keyOf, implies_true, fillC, capOf]
  refine cond_cut (fun fr' M' => Pre W13 M' ∧ fr' 3 = .ptr m3 0 ∧ fr' 4 = .I d ∧ fr' 5 = w5 ∧ fr' 6 = .B q ∧ fr' 9 = .ptr m9 0 ∧ fr' 17 = .ptr m17 0 ∧ fr' 18 = .I d2 ∧ fr' 19 = .I k2 ∧ fr' 20 = w20 ∧ fr' 21 = .B r) ?_ ?_
  · cases s
    · simp (disch := omega) only [f3, f4, f5, f6, f9, f17, f18, f19, f20, f21, f27, f28, f29, ↓SXd, SXu, slBounds, ↓sop, ↓aop, ↓reduceIte, LV.cells, AOp.dst, LV.I, LV.B, LV.U, LV.S, LV.nil, Nat.reduceEqDiff, Nat.reduceAdd, Nat.reduceMul, Nat.reduceSub, Nat.reduceLeDiff, Nat.reduceBEq, Nat.reduceDiv, Nat.reduceMod, Int.reduceToNat, Int.reduceLT, Int.reduceLE, Int.reduceAdd, Int.reduceSub, Int.reduceMul, Int.reduceEq, Int.reduceNeg, reduceCtorEq, resV, resAll, ARes.ev, LV.flat, ite_true, ite_false, exists_eq_left', exists_eq_left, keyOf, implies_true, fillC, capOf]
      all_goals exact Pre.refl _
    obtain ⟨hK, hGe⟩ := hG rfl
    have hGok : HeapOK x3 y3 z3 (pick x3 y3 z3 (stackP y3 hs)) := pick_ok hK.1 _
    have gv := view_stackH hK
    have gt := tops_stackH hK
    subst hGe
    have B28f := (B28.pre (q13))
    have U28f := (U28.pre (q13))
    have U3f := (hu3.pre (q12.trans (q13)))
    simp only at B28f U28f lG
    generalize pick x3 y3 z3 (stackP y3 hs) = E at B28f U28f lG hGok gv gt
    have e1 : vwOf x3 y3 z3 E 2 = hs := by rw [show vwOf x3 y3 z3 E 2 = viewL x3 y3 z3 (2 : Int).toNat E from if_pos ⟨hGok, .inr (.inr rfl)⟩]; exact gv
    have e2 : sqrB x3 y3 z3 E 2 = true := decide_eq_true ⟨hGok, .inr (.inr rfl)⟩
    have e3 : tpsOf x3 y3 z3 E = hs := by rw [show tpsOf x3 y3 z3 E = topsOf x3 y3 E from if_pos hGok]; exact gt
    simp (disch := omega) only [f3, f4, f5, f6, f9, f17, f18, f19, f20, f21, f27, f28, f29, B28f.cells, ↓SXd, SXu, slBounds, ↓sop, ↓aop, ↓reduceIte, LV.cells, AOp.dst, LV.I, LV.B, LV.U, LV.S, LV.nil, Nat.reduceEqDiff, Nat.reduceAdd, Nat.reduceMul, Nat.reduceSub, Nat.reduceLeDiff, Nat.reduceBEq, Nat.reduceDiv, Nat.reduceMod, Int.reduceToNat, Int.reduceLT, Int.reduceLE, Int.reduceAdd, Int.reduceSub, Int.reduceMul, Int.reduceEq, Int.reduceNeg, reduceCtorEq, resV, resAll, ARes.ev, LV.flat, ite_true, ite_false, exists_eq_left', exists_eq_left, keyOf, implies_true, fillC, capOf]
    refine callR_of (g_ViewOfI U28f.has (by omega) (d := 2)) ?_
    rw [e1, e2]
    rintro _ Y1 ⟨w32, rfl, Iw32, hy1⟩
    simp (disch := omega) only [f3, f4, f5, f6, f9, f17, f18, f19, f20, f21, f27, f28, f29, (B28f.pre hy1).cells, ↓SXd, SXu, slBounds, ↓sop, ↓aop, ↓reduceIte, LV.cells, AOp.dst, LV.I, LV.B, LV.U, LV.S, LV.nil, Nat.reduceEqDiff, Nat.reduceAdd, Nat.reduceMul, Nat.reduceSub, Nat.reduceLeDiff, Nat.reduceBEq, Nat.reduceDiv, Nat.reduceMod, Int.reduceToNat, Int.reduceLT, Int.reduceLE, Int.reduceAdd, Int.reduceSub, Int.reduceMul, Int.reduceEq, Int.reduceNeg, reduceCtorEq, resV, resAll, ARes.ev, LV.flat, ite_true, ite_false, exists_eq_left', exists_eq_left, keyOf, implies_true, fillC, capOf]
    refine callR_of (g_TopHeightsG (U28f.pre hy1).has (by omega)) ?_
    rw [e3, decide_eq_true hGok]
    rintro _ Y2 ⟨w34, rfl, Iw34, hy2⟩
    simp (disch := omega) only [f3, f4, f5, f6, f9, f17, f18, f19, f20, f21, f27, f28, f29, Bool.not_true, ↓SXd, SXu, slBounds, ↓sop, ↓aop, ↓reduceIte, LV.cells, AOp.dst, LV.I, LV.B, LV.U, LV.S, LV.nil, Nat.reduceEqDiff, Nat.reduceAdd, Nat.reduceMul, Nat.reduceSub, Nat.reduceLeDiff, Nat.reduceBEq, Nat.reduceDiv, Nat.reduceMod, Int.reduceToNat, Int.reduceLT, Int.reduceLE, Int.reduceAdd, Int.reduceSub, Int.reduceMul, Int.reduceEq, Int.reduceNeg, reduceCtorEq, resV, resAll, ARes.ev, LV.flat, ite_true, ite_false, exists_eq_left', exists_eq_left, keyOf, implies_true, fillC, capOf]
    refine callK_of (k_rInts (Iw32.pre hy2) (.inr ⟨_, _, rfl, (U3f.pre (hy1.trans hy2)).has⟩) (by omega)) ?_
    simp (disch := omega) only [f3, f4, f5, f6, f9, f17, f18, f19, f20, f21, f27, f28, f29, Bool.not_true, ↓SXd, SXu, slBounds, ↓sop, ↓aop, ↓reduceIte, LV.cells, AOp.dst, LV.I, LV.B, LV.U, LV.S, LV.nil, Nat.reduceEqDiff, Nat.reduceAdd, Nat.reduceMul, Nat.reduceSub, Nat.reduceLeDiff, Nat.reduceBEq, Nat.reduceDiv, Nat.reduceMod, Int.reduceToNat, Int.reduceLT, Int.reduceLE, Int.reduceAdd, Int.reduceSub, Int.reduceMul, Int.reduceEq, Int.reduceNeg, reduceCtorEq, resV, resAll, ARes.ev, LV.flat, ite_true, ite_false, exists_eq_left', exists_eq_left, keyOf, implies_true, fillC, capOf]
    refine callK_of (k_rInts Iw34 (.inr ⟨_, _, rfl, (U3f.pre (hy1.trans hy2)).has⟩) (by omega)) ?_
    simp (disch := omega) only [f3, f4, f5, f6, f9, f17, f18, f19, f20, f21, f27, f28, f29, Bool.not_true, ↓SXd, SXu, slBounds, ↓sop, ↓aop, ↓reduceIte, LV.cells, AOp.dst, LV.I, LV.B, LV.U, LV.S, LV.nil, Nat.reduceEqDiff, Nat.reduceAdd, Nat.reduceMul, Nat.reduceSub, Nat.reduceLeDiff, Nat.reduceBEq, Nat.reduceDiv, Nat.reduceMod, Int.reduceToNat, Int.reduceLT, Int.reduceLE, Int.reduceAdd, Int.reduceSub, Int.reduceMul, Int.reduceEq, Int.reduceNeg, reduceCtorEq, resV, resAll, ARes.ev, LV.flat, ite_true, ite_false, exists_eq_left', exists_eq_left, keyOf, implies_true, fillC, capOf]
    all_goals exact hy1.trans hy2
  have B3f := (B3.pre (hp2.trans (hp3.trans (q4.trans (q5.trans (hp6.trans (hp7.trans (q8.trans (hp9.trans (hp10.trans (hp11.trans (q12.trans (q13)))))))))))))
  have Uf := (U.pre (hp2.trans (hp3.trans (q4.trans (q5.trans (hp6.trans (hp7.trans (q8.trans (hp9.trans (hp10.trans (hp11.trans (q12.trans (q13)))))))))))))
  have Iw5f := (Iw5.pre (hp3.trans (q4.trans (q5.trans (hp6.trans (hp7.trans (q8.trans (hp9.trans (hp10.trans (hp11.trans (q12.trans (q13))))))))))))
  have B9f := (B9.pre (q5.trans (hp6.trans (hp7.trans (q8.trans (hp9.trans (hp10.trans (hp11.trans (q12.trans (q13))))))))))
  have I9af := (I9a.pre (q5.trans (hp6.trans (hp7.trans (q8.trans (hp9.trans (hp10.trans (hp11.trans (q12.trans (q13))))))))))
  have I9bf := (I9b.pre (q5.trans (hp6.trans (hp7.trans (q8.trans (hp9.trans (hp10.trans (hp11.trans (q12.trans (q13))))))))))
  have I9cf := (I9c.pre (q5.trans (hp6.trans (hp7.trans (q8.trans (hp9.trans (hp10.trans (hp11.trans (q12.trans (q13))))))))))
  have B17f := (B17.pre (hp9.trans (hp10.trans (hp11.trans (q12.trans (q13))))))
  have U2f := (U2.pre (hp9.trans (hp10.trans (hp11.trans (q12.trans (q13))))))
  have Iw20f := (Iw20.pre (hp10.trans (hp11.trans (q12.trans (q13)))))
  clear f3 f4 f5 f6 f9 f17 f18 f19 f20 f21 f27 f28 f29
  rintro fr X ⟨hX, f3, f4, f5, f6, f9, f17, f18, f19, f20, f21⟩
  replace B3f := B3f.pre hX
  replace Uf := Uf.pre hX
  replace Iw5f := Iw5f.pre hX
  replace B9f := B9f.pre hX
  replace I9af := I9af.pre hX
  replace I9bf := I9bf.pre hX
  replace I9cf := I9cf.pre hX
  replace B17f := B17f.pre hX
  replace U2f := U2f.pre hX
  replace Iw20f := Iw20f.pre hX
  simp (disch := omega) only [f3, f4, f5, f6, f9, f17, f18, f19, f20, f21, ↓SXd, SXu, slBounds, ↓sop, ↓aop, ↓reduceIte, LV.cells, AOp.dst, LV.I, LV.B, LV.U, LV.S, LV.nil, Nat.reduceEqDiff, Nat.reduceAdd, Nat.reduceMul, Nat.reduceSub, Nat.reduceLeDiff, Nat.reduceBEq, Nat.reduceDiv, Nat.reduceMod, Int.reduceToNat, Int.reduceLT, Int.reduceLE, Int.reduceAdd, Int.reduceSub, Int.reduceMul, Int.reduceEq, Int.reduceNeg, reduceCtorEq, resV, resAll, ARes.ev, LV.flat, ite_true, ite_false, exists_eq_left', exists_eq_left, keyOf, implies_true, fillC, capOf]
  refine cond_cut (fun fr' M' => M' = X ∧ fr' 3 = .ptr m3 0 ∧ fr' 4 = .I d ∧ fr' 5 = w5 ∧ fr' 6 = .B q ∧ fr' 9 = .ptr m9 0) ?_ ?_
  · cases r
    · simp (disch := omega) only [f3, f4, f5, f6, f9, f17, f18, f19, f20, f21, ↓SXd, SXu, slBounds, ↓sop, ↓aop, ↓reduceIte, LV.cells, AOp.dst, LV.I, LV.B, LV.U, LV.S, LV.nil, Nat.reduceEqDiff, Nat.reduceAdd, Nat.reduceMul, Nat.reduceSub, Nat.reduceLeDiff, Nat.reduceBEq, Nat.reduceDiv, Nat.reduceMod, Int.reduceToNat, Int.reduceLT, Int.reduceLE, Int.reduceAdd, Int.reduceSub, Int.reduceMul, Int.reduceEq, Int.reduceNeg, reduceCtorEq, resV, resAll, ARes.ev, LV.flat, ite_true, ite_false, exists_eq_left', exists_eq_left, keyOf, implies_true, fillC, capOf]
      all_goals exact ⟨rfl, by first | rfl | assumption, by first | rfl | assumption, by first | rfl | assumption, by first | rfl | assumption, by first | rfl | assumption⟩
    obtain ⟨hL, hAe⟩ := hA rfl
    obtain ⟨hH2, hD2, hk1, hk2⟩ := hL
    obtain ⟨n2, rfl⟩ : ∃ n2 : Nat, d2 = n2 := ⟨d2.toNat, by unfold Dir at hD2; omega⟩
    have hn3 : n2 < 3 := by unfold Dir at hD2; omega
    rw [Int.toNat_natCast] at hAe
    have hls := lyr_sum hH2 hn3 ⟨hk1, hk2⟩
    rw [← hAe] at hls
    have hlen2 := hH2.len
    have hent : ∀ l ∈ A, ∀ i, 0 ≤ l.getD i 0 ∧ l.getD i 0 ≤ 1000000 := fun l hl i => by
      rw [hAe] at hl
      obtain ⟨j, _, rfl⟩ := List.mem_map.1 hl
      by_cases hi : i < (sideOf x2 y2 z2 (dirB n2)).toNat
      · have hg : (lyrR x2 y2 z2 n2 k2 cs2 j (sideOf x2 y2 z2 (dirB n2)).toNat).getD i 0 = lyrV n2 k2 cs2 j i := by
          unfold lyrR
          rw [List.getD_eq_getElem?_getD, List.getElem?_map, List.getElem?_range hi]; rfl
        rw [hg]; unfold lyrV; split <;> omega
      · rw [List.getD_eq_getElem?_getD, List.getElem?_eq_none (by rw [lyrR_len]; omega), Option.getD_none]; omega
    have hrb : ∀ l ∈ A, 0 ≤ litSum l ∧ litSum l ≤ 64 := fun l hl => by
      rw [hAe] at hl
      obtain ⟨j, _, rfl⟩ := List.mem_map.1 hl
      rw [lyrR_sum]
      have h1 := List.length_filter_le (fun (i : Nat) => decide (lyrC n2 k2 j i ∈ cs2)) (List.range (sideOf x2 y2 z2 (dirB n2)).toNat)
      rw [List.length_range] at h1
      have := sideOf_in hH2.1 (dirB n2)
      omega
    clear hA hAe hG
    simp (disch := omega) only [f3, f4, f5, f6, f9, f17, f18, f19, f20, f21, ↓SXd, SXu, slBounds, ↓sop, ↓aop, ↓reduceIte, LV.cells, AOp.dst, LV.I, LV.B, LV.U, LV.S, LV.nil, Nat.reduceEqDiff, Nat.reduceAdd, Nat.reduceMul, Nat.reduceSub, Nat.reduceLeDiff, Nat.reduceBEq, Nat.reduceDiv, Nat.reduceMod, Int.reduceToNat, Int.reduceLT, Int.reduceLE, Int.reduceAdd, Int.reduceSub, Int.reduceMul, Int.reduceEq, Int.reduceNeg, reduceCtorEq, resV, resAll, ARes.ev, LV.flat, ite_true, ite_false, exists_eq_left', exists_eq_left, keyOf, implies_true, fillC, capOf]
    refine ev_loop (fun m fr M' => ∃ k : Nat, k + m = cs2.length ∧ M' = X ∧ fr 3 = .ptr m3 0 ∧ fr 4 = .I d ∧ fr 5 = w5 ∧ fr 6 = .B q ∧ fr 9 = .ptr m9 0 ∧ fr 17 = .ptr m17 0 ∧ fr 18 = .I n2 ∧ fr 19 = .I k2 ∧ fr 20 = w20 ∧ fr 36 = .I (((cs2.take k).countP fun c => decide (c.at (n2 : Nat) = k2) : Nat) : Int) ∧ fr 37 = .I k) cs2.length
      ⟨0, by omega, rfl, f3, f4, f5, f6, f9, f17, f18, f19, f20, rfl, rfl⟩ ?_
    clear f3 f4 f5 f6 f9 f17 f18 f19 f20 f21
    rintro m fr X ⟨k, hk, rfl, f3, f4, f5, f6, f9, f17, f18, f19, f20, f36, f37⟩
    simp (disch := omega) only [f3, f4, f5, f6, f9, f17, f18, f19, f20, f36, f37, B17f.cell, ↓SXd, SXu, slBounds, ↓sop, ↓aop, ↓reduceIte, LV.cells, AOp.dst, LV.I, LV.B, LV.U, LV.S, LV.nil, Nat.reduceEqDiff, Nat.reduceAdd, Nat.reduceMul, Nat.reduceSub, Nat.reduceLeDiff, Nat.reduceBEq, Nat.reduceDiv, Nat.reduceMod, Int.reduceToNat, Int.reduceLT, Int.reduceLE, Int.reduceAdd, Int.reduceSub, Int.reduceMul, Int.reduceEq, Int.reduceNeg, reduceCtorEq, resV, resAll, ARes.ev, LV.flat, ite_true, ite_false, exists_eq_left', exists_eq_left, keyOf, implies_true, fillC, capOf]
    refine condC_dec (fun hlt => ?_) (fun hlt => ?_)
    · have hkl : k < cs2.length := by omega
      have gA := Tri.gets_at U2f.has hkl hD2
      rw [Nat.zero_add, Int.toNat_natCast] at gA
      have hcs : (cs2.take (k + 1)).countP (fun c => decide (c.at (n2 : Nat) = k2)) = (cs2.take k).countP (fun c => decide (c.at (n2 : Nat) = k2)) + if (cs2.getD k default).at (n2 : Nat) = k2 then 1 else 0 := by
        rw [List.take_add_one, List.getElem?_eq_getElem hkl, Option.toList_some, List.countP_append, List.countP_singleton]
        simp [hkl]
      have hcb : (cs2.take k).countP (fun c => decide (c.at (n2 : Nat) = k2)) ≤ 64 := Nat.le_trans List.countP_le_length (by have := List.length_take_le' k cs2; omega)
      generalize (cs2.take k).countP (fun c => decide (c.at (n2 : Nat) = k2)) = n0 at f36 hcs hcb
      generalize hn1 : (cs2.take (k + 1)).countP (fun c => decide (c.at (n2 : Nat) = k2)) = n1 at hcs
      by_cases hv : (cs2.getD k default).at (n2 : Nat) = k2
      · rw [if_pos hv] at hcs
        simp (disch := omega) only [f3, f4, f5, f6, f9, f17, f18, f19, f20, f36, f37, B17f.cell, gA, Nat.mul_one, Nat.zero_add, hv, ↓SXd, SXu, slBounds, ↓sop, ↓aop, ↓reduceIte, LV.cells, AOp.dst, LV.I, LV.B, LV.U, LV.S, LV.nil, Nat.reduceEqDiff, Nat.reduceAdd, Nat.reduceMul, Nat.reduceSub, Nat.reduceLeDiff, Nat.reduceBEq, Nat.reduceDiv, Nat.reduceMod, Int.reduceToNat, Int.reduceLT, Int.reduceLE, Int.reduceAdd, Int.reduceSub, Int.reduceMul, Int.reduceEq, Int.reduceNeg, reduceCtorEq, resV, resAll, ARes.ev, LV.flat, ite_true, ite_false, exists_eq_left', exists_eq_left, keyOf, implies_true, fillC, capOf]
        exact ⟨m - 1, by omega, k + 1, by omega, rfl, f3, f4, f5, f6, f9, f17, f18, f19, f20, by rw [hn1, hcs]; exact eqI (natI _), eqI (natI _)⟩
      · rw [if_neg hv] at hcs
        simp (disch := omega) only [f3, f4, f5, f6, f9, f17, f18, f19, f20, f36, f37, B17f.cell, gA, Nat.mul_one, Nat.zero_add, hv, ↓SXd, SXu, slBounds, ↓sop, ↓aop, ↓reduceIte, LV.cells, AOp.dst, LV.I, LV.B, LV.U, LV.S, LV.nil, Nat.reduceEqDiff, Nat.reduceAdd, Nat.reduceMul, Nat.reduceSub, Nat.reduceLeDiff, Nat.reduceBEq, Nat.reduceDiv, Nat.reduceMod, Int.reduceToNat, Int.reduceLT, Int.reduceLE, Int.reduceAdd, Int.reduceSub, Int.reduceMul, Int.reduceEq, Int.reduceNeg, reduceCtorEq, resV, resAll, ARes.ev, LV.flat, ite_true, ite_false, exists_eq_left', exists_eq_left, keyOf, implies_true, fillC, capOf]
        exact ⟨m - 1, by omega, k + 1, by omega, rfl, f3, f4, f5, f6, f9, f17, f18, f19, f20, f36.trans (by rw [hn1, hcs]; rfl), eqI (natI _)⟩
    have hkl : k = cs2.length := by omega
    subst hkl
    rw [List.take_length, ← hls] at f36
    have hAv := Iw20f.lenV
    simp (disch := omega) only [f3, f4, f5, f6, f9, f17, f18, f19, f20, f36, f37, ↓SXd, SXu, slBounds, ↓sop, ↓aop, ↓reduceIte, LV.cells, AOp.dst, LV.I, LV.B, LV.U, LV.S, LV.nil, Nat.reduceEqDiff, Nat.reduceAdd, Nat.reduceMul, Nat.reduceSub, Nat.reduceLeDiff, Nat.reduceBEq, Nat.reduceDiv, Nat.reduceMod, Int.reduceToNat, Int.reduceLT, Int.reduceLE, Int.reduceAdd, Int.reduceSub, Int.reduceMul, Int.reduceEq, Int.reduceNeg, reduceCtorEq, resV, resAll, ARes.ev, LV.flat, ite_true, ite_false, exists_eq_left', exists_eq_left, keyOf, implies_true, fillC, capOf]
    refine ev_loop (fun m fr M' => ∃ k : Nat, k + m = A.length ∧ M' = X ∧ fr 3 = .ptr m3 0 ∧ fr 4 = .I d ∧ fr 5 = w5 ∧ fr 6 = .B q ∧ fr 9 = .ptr m9 0 ∧ fr 20 = w20 ∧ fr 36 = .I (tabSum (A.drop k)) ∧ fr 38 = .I k) A.length
      ⟨0, by omega, rfl, f3, f4, f5, f6, f9, f20, f36, rfl⟩ ?_
    clear f3 f4 f5 f6 f9 f17 f18 f19 f20 f36 f37
    rintro m fr X ⟨k, hk, rfl, f3, f4, f5, f6, f9, f20, f36, f38⟩
    simp (disch := omega) only [f3, f4, f5, f6, f9, f20, f36, f38, hAv, ↓SXd, SXu, slBounds, ↓sop, ↓aop, ↓reduceIte, LV.cells, AOp.dst, LV.I, LV.B, LV.U, LV.S, LV.nil, Nat.reduceEqDiff, Nat.reduceAdd, Nat.reduceMul, Nat.reduceSub, Nat.reduceLeDiff, Nat.reduceBEq, Nat.reduceDiv, Nat.reduceMod, Int.reduceToNat, Int.reduceLT, Int.reduceLE, Int.reduceAdd, Int.reduceSub, Int.reduceMul, Int.reduceEq, Int.reduceNeg, reduceCtorEq, resV, resAll, ARes.ev, LV.flat, ite_true, ite_false, exists_eq_left', exists_eq_left, keyOf, implies_true, fillC, capOf]
    refine condC_dec (fun hlt => ?_) (fun hlt => ?_)
    · have hkl : k < A.length := by omega
      obtain ⟨ta, ua, rfl, hga, hia⟩ := Iw20f.at hkl
      have hmem : A.getD k [] ∈ A := getD_mem' (d := []) hkl
      have hds : tabSum (A.drop k) = litSum (A.getD k []) + tabSum (A.drop (k + 1)) := by
        rw [List.drop_eq_getElem_cons hkl]
        unfold tabSum
        rw [List.map_cons]
        simp [litSum, hkl]
      have htb : ∀ l : List (List Int), (∀ a ∈ l, a ∈ A) → l.length ≤ 1000 → 0 ≤ tabSum l ∧ tabSum l ≤ 64 * l.length := fun l => by
        induction l with
        | nil => intro _ _; simp [tabSum, litSum]
        | cons a l ih =>
          intro hm hl2
          have h1 := ih (fun b hb => hm b (by simp [hb])) (by simp at hl2; omega)
          have h2 := hrb a (hm a (by simp))
          unfold tabSum at *
          simp only [List.map_cons, litSum, List.length_cons]
          omega
      have hb1 := htb (A.drop k) (fun a ha => List.mem_of_mem_drop ha) (by rw [List.length_drop]; omega)
      have hb2 := htb (A.drop (k + 1)) (fun a ha => List.mem_of_mem_drop ha) (by rw [List.length_drop]; omega)
      rw [List.length_drop] at hb1 hb2
      have hr := hrb _ hmem
      simp (disch := omega) only [f3, f4, f5, f6, f9, f20, f36, f38, hga, Nat.mul_one, Nat.zero_add, ↓SXd, SXu, slBounds, ↓sop, ↓aop, ↓reduceIte, LV.cells, AOp.dst, LV.I, LV.B, LV.U, LV.S, LV.nil, Nat.reduceEqDiff, Nat.reduceAdd, Nat.reduceMul, Nat.reduceSub, Nat.reduceLeDiff, Nat.reduceBEq, Nat.reduceDiv, Nat.reduceMod, Int.reduceToNat, Int.reduceLT, Int.reduceLE, Int.reduceAdd, Int.reduceSub, Int.reduceMul, Int.reduceEq, Int.reduceNeg, reduceCtorEq, resV, resAll, ARes.ev, LV.flat, ite_true, ite_false, exists_eq_left', exists_eq_left, keyOf, implies_true, fillC, capOf]
      refine callK_of (k_rSum (.inr ⟨_, _, rfl, hia⟩) (by have := lAr _ hmem; omega) (hent _ hmem)) ?_
      simp (disch := omega) only [f3, f4, f5, f6, f9, f20, f36, f38, ↓SXd, SXu, slBounds, ↓sop, ↓aop, ↓reduceIte, LV.cells, AOp.dst, LV.I, LV.B, LV.U, LV.S, LV.nil, Nat.reduceEqDiff, Nat.reduceAdd, Nat.reduceMul, Nat.reduceSub, Nat.reduceLeDiff, Nat.reduceBEq, Nat.reduceDiv, Nat.reduceMod, Int.reduceToNat, Int.reduceLT, Int.reduceLE, Int.reduceAdd, Int.reduceSub, Int.reduceMul, Int.reduceEq, Int.reduceNeg, reduceCtorEq, resV, resAll, ARes.ev, LV.flat, ite_true, ite_false, exists_eq_left', exists_eq_left, keyOf, implies_true, fillC, capOf]
      exact ⟨m - 1, by omega, k + 1, by omega, rfl, f3, f4, f5, f6, f9, f20, eqI (by omega), eqI (natI _)⟩
    · have hkl : k = A.length := by omega
      subst hkl
      rw [List.drop_length] at f36
      replace f36 : fr 36 = .I 0 := f36
      simp (disch := omega) only [f3, f4, f5, f6, f9, f20, f36, f38, f36, ↓SXd, SXu, slBounds, ↓sop, ↓aop, ↓reduceIte, LV.cells, AOp.dst, LV.I, LV.B, LV.U, LV.S, LV.nil, Nat.reduceEqDiff, Nat.reduceAdd, Nat.reduceMul, Nat.reduceSub, Nat.reduceLeDiff, Nat.reduceBEq, Nat.reduceDiv, Nat.reduceMod, Int.reduceToNat, Int.reduceLT, Int.reduceLE, Int.reduceAdd, Int.reduceSub, Int.reduceMul, Int.reduceEq, Int.reduceNeg, reduceCtorEq, resV, resAll, ARes.ev, LV.flat, ite_true, ite_false, exists_eq_left', exists_eq_left, keyOf, implies_true, fillC, capOf]
      all_goals exact ⟨rfl, by first | rfl | assumption, by first | rfl | assumption, by first | rfl | assumption, by first | rfl | assumption, by first | rfl | assumption⟩
  clear f3 f4 f5 f6 f9 f17 f18 f19 f20 f21
  rintro fr X ⟨rfl, f3, f4, f5, f6, f9⟩
  cases q
  · simp (disch := omega) only [f3, f4, f5, f6, f9, ↓SXd, SXu, slBounds, ↓sop, ↓aop, ↓reduceIte, LV.cells, AOp.dst, LV.I, LV.B, LV.U, LV.S, LV.nil, Nat.reduceEqDiff, Nat.reduceAdd, Nat.reduceMul, Nat.reduceSub, Nat.reduceLeDiff, Nat.reduceBEq, Nat.reduceDiv, Nat.reduceMod, Int.reduceToNat, Int.reduceLT, Int.reduceLE, Int.reduceAdd, Int.reduceSub, Int.reduceMul, Int.reduceEq, Int.reduceNeg, reduceCtorEq, resV, resAll, ARes.ev, LV.flat, ite_true, ite_false, exists_eq_left', exists_eq_left, keyOf, implies_true, fillC, capOf]
    rfl
  obtain ⟨hH, hD, hLe, hCe⟩ := hV rfl
  subst hCe
  simp only at B9f I9af I9bf I9cf lC1 lC2 lC3
  obtain ⟨n, rfl⟩ : ∃ n : Nat, d = n := ⟨d.toNat, by unfold Dir at hD; omega⟩
  have hn3 : n < 3 := by unfold Dir at hD; omega
  rw [Int.toNat_natCast] at hLe
  have hin : ∀ c ∈ cs, c.inBox x y z := fun c hc => hH.mem hc
  have hlen := hH.len
  have hvs := view_len_sum hH.1 hn3 hin
  have hlw := loomis hH
  have hLl : L.length = (linesOf x y z n).toNat := by rw [hLe, viewL_len]
  have hLg : ∀ i, i < (linesOf x y z n).toNat → L.getD i 0 = (lineN y z n cs i : Nat) := fun i hi => by rw [hLe, viewL_get hi]; rfl
  have hSg : ∀ i, i < (linesOf x y z n).toNat → (shdOf x y z n cs).getD i 0 = min ((lineN y z n cs i : Nat) : Int) 1 := fun i hi => shd_get hi
  have hLb : ∀ i, 0 ≤ L.getD i 0 ∧ L.getD i 0 ≤ 1000000 := fun i => by
    by_cases hi : i < (linesOf x y z n).toNat
    · rw [hLg i hi]
      have : lineN y z n cs i ≤ cs.length := List.countP_le_length
      omega
    · rw [List.getD_eq_getElem?_getD, List.getElem?_eq_none (by rw [hLl]; omega), Option.getD_none]; omega
  rw [← hLe] at hvs
  have hSl : (shdOf x y z n cs).length = (linesOf x y z n).toNat := shdOf_len
  have hlin := lines_le hH.1 hn3
  have hb1 : ∀ {d : Nat}, ∀ i, 0 ≤ (shdOf x y z d cs).getD i 0 ∧ (shdOf x y z d cs).getD i 0 ≤ 1000000 := fun {d} i => by
    by_cases hi : i < (linesOf x y z d).toNat
    · rw [shd_get hi]; omega
    · rw [List.getD_eq_getElem?_getD, List.getElem?_eq_none (by rw [shdOf_len]; omega), Option.getD_none]; omega
  have hlq : ∀ {d : Nat}, d < 3 → (shdOf x y z d cs).length ≤ 16 := fun {d} hd => by
    have := lines_le hH.1 hd
    rw [shdOf_len]; omega
  have o2 : 0 ≤ litSum (shdOf x y z 2 cs) ∧ litSum (shdOf x y z 2 cs) ≤ 16 := by have := litSum_bound (l := shdOf x y z 2 cs) shd_ones; have := hlq (d := 2) (by omega); omega
  have o1 : 0 ≤ litSum (shdOf x y z 1 cs) ∧ litSum (shdOf x y z 1 cs) ≤ 16 := by have := litSum_bound (l := shdOf x y z 1 cs) shd_ones; have := hlq (d := 1) (by omega); omega
  have o0 : 0 ≤ litSum (shdOf x y z 0 cs) ∧ litSum (shdOf x y z 0 cs) ≤ 16 := by have := litSum_bound (l := shdOf x y z 0 cs) shd_ones; have := hlq (d := 0) (by omega); omega
  have k2 := hlq (d := 2) (by omega)
  have k1 := hlq (d := 1) (by omega)
  have k0 := hlq (d := 0) (by omega)
  obtain ⟨w39, hw39, I39⟩ : ∃ w : Nat, [LV.ref w9c 0 (shdOf x y z 0 cs).length, .ref w9b 0 (shdOf x y z 1 cs).length, .ref w9a 0 (shdOf x y z 2 cs).length][n]? = some (.ref w 0 (shdOf x y z n cs).length) ∧ Ints X w 0 (shdOf x y z n cs) := by
    rcases (show n = 0 ∨ n = 1 ∨ n = 2 by omega) with rfl | rfl | rfl
    · exact ⟨w9c, rfl, I9cf⟩
    · exact ⟨w9b, rfl, I9bf⟩
    · exact ⟨w9a, rfl, I9af⟩
  have hwv := Iw5f.lenV
  have hq : Pre X (X ++ [some (.row [.ref w9c 0 (shdOf x y z 0 cs).length, .ref w9b 0 (shdOf x y z 1 cs).length, .ref w9a 0 (shdOf x y z 2 cs).length] true 1)]) := Pre.app _ _
  have B3g := B3f.pre hq
  have B9g := B9f.pre hq
  have Iw5g := Iw5f.pre hq
  have I39g := I39.pre hq
  have I9ag := I9af.pre hq
  have I9bg := I9bf.pre hq
  have I9cg := I9cf.pre hq
  simp (disch := omega) only [f3, f4, f5, f6, f9, B9f.cell, hw39, B3g.cell, ↓SXd, SXu, slBounds, ↓sop, ↓aop, ↓reduceIte, LV.cells, AOp.dst, LV.I, LV.B, LV.U, LV.S, LV.nil, Nat.reduceEqDiff, Nat.reduceAdd, Nat.reduceMul, Nat.reduceSub, Nat.reduceLeDiff, Nat.reduceBEq, Nat.reduceDiv, Nat.reduceMod, Int.reduceToNat, Int.reduceLT, Int.reduceLE, Int.reduceAdd, Int.reduceSub, Int.reduceMul, Int.reduceEq, Int.reduceNeg, reduceCtorEq, resV, resAll, ARes.ev, LV.flat, ite_true, ite_false, exists_eq_left', exists_eq_left, keyOf, implies_true, fillC, capOf]
  generalize X ++ [some (Blk.row [.ref w9c 0 (shdOf x y z 0 cs).length, .ref w9b 0 (shdOf x y z 1 cs).length, .ref w9a 0 (shdOf x y z 2 cs).length] true 1)] = Y at B3g B9g Iw5g I39g I9ag I9bg I9cg ⊢
  refine callK_of (k_rSum Iw5g (by omega) hLb) ?_
  rw [hvs]
  have hll : ((shdOf x y z n cs).length : Int) = (L.length : Nat) := by omega
  simp (disch := omega) only [f3, f4, f5, f6, f9, hwv, hll, ↓SXd, SXu, slBounds, ↓sop, ↓aop, ↓reduceIte, LV.cells, AOp.dst, LV.I, LV.B, LV.U, LV.S, LV.nil, Nat.reduceEqDiff, Nat.reduceAdd, Nat.reduceMul, Nat.reduceSub, Nat.reduceLeDiff, Nat.reduceBEq, Nat.reduceDiv, Nat.reduceMod, Int.reduceToNat, Int.reduceLT, Int.reduceLE, Int.reduceAdd, Int.reduceSub, Int.reduceMul, Int.reduceEq, Int.reduceNeg, reduceCtorEq, resV, resAll, ARes.ev, LV.flat, ite_true, ite_false, exists_eq_left', exists_eq_left, keyOf, implies_true, fillC, capOf]
  refine ev_loop (fun m fr M' => ∃ k : Nat, k + m = L.length ∧ M' = Y ∧ fr 3 = .ptr m3 0 ∧ fr 5 = w5 ∧ fr 9 = .ptr m9 0 ∧ fr 39 = .ref w39 0 L.length ∧ fr 40 = .I k) L.length
    ⟨0, by omega, rfl, f3, f5, f9, by rw [← show (shdOf x y z n cs).length = L.length by omega]; rfl, rfl⟩ ?_
  clear f3 f4 f5 f6 f9
  rintro m fr Y ⟨k, hk, rfl, f3, f5, f9, f39, f40⟩
  have hwv2 := Iw5g.lenV
  simp (disch := omega) only [f3, f5, f9, f39, f40, hwv2, ↓SXd, SXu, slBounds, ↓sop, ↓aop, ↓reduceIte, LV.cells, AOp.dst, LV.I, LV.B, LV.U, LV.S, LV.nil, Nat.reduceEqDiff, Nat.reduceAdd, Nat.reduceMul, Nat.reduceSub, Nat.reduceLeDiff, Nat.reduceBEq, Nat.reduceDiv, Nat.reduceMod, Int.reduceToNat, Int.reduceLT, Int.reduceLE, Int.reduceAdd, Int.reduceSub, Int.reduceMul, Int.reduceEq, Int.reduceNeg, reduceCtorEq, resV, resAll, ARes.ev, LV.flat, ite_true, ite_false, exists_eq_left', exists_eq_left, keyOf, implies_true, fillC, capOf]
  refine condC_dec (fun hlt => ?_) (fun hlt => ?_)
  · have hkl : k < L.length := by omega
    obtain ⟨ta, oa, rfl, hga⟩ := Iw5g.at (k := k) hkl
    have hgb := Ints.get I39g (k := k) (by omega)
    rw [Nat.zero_add] at hgb
    have h1 := hLg k (by omega)
    have h2 := hSg k (by omega)
    by_cases hv : L.getD k 0 > 0
    · have hs : (shdOf x y z n cs).getD k 0 = 1 := by omega
      rw [hs] at hgb
      simp (disch := omega) only [f3, f5, f9, f39, f40, hga, hgb, Nat.mul_one, Nat.zero_add, hv, beq_self_eq_true, Bool.not_true, ↓SXd, SXu, slBounds, ↓sop, ↓aop, ↓reduceIte, LV.cells, AOp.dst, LV.I, LV.B, LV.U, LV.S, LV.nil, Nat.reduceEqDiff, Nat.reduceAdd, Nat.reduceMul, Nat.reduceSub, Nat.reduceLeDiff, Nat.reduceBEq, Nat.reduceDiv, Nat.reduceMod, Int.reduceToNat, Int.reduceLT, Int.reduceLE, Int.reduceAdd, Int.reduceSub, Int.reduceMul, Int.reduceEq, Int.reduceNeg, reduceCtorEq, resV, resAll, ARes.ev, LV.flat, ite_true, ite_false, exists_eq_left', exists_eq_left, keyOf, implies_true, fillC, capOf]
      exact ⟨m - 1, by omega, k + 1, by omega, rfl, f3, f5, f9, f39, eqI (natI _)⟩
    · have hs : (shdOf x y z n cs).getD k 0 = 0 := by omega
      rw [hs] at hgb
      simp (disch := omega) only [f3, f5, f9, f39, f40, hga, hgb, Nat.mul_one, Nat.zero_add, hv, beq_self_eq_true, Bool.not_true, ↓SXd, SXu, slBounds, ↓sop, ↓aop, ↓reduceIte, LV.cells, AOp.dst, LV.I, LV.B, LV.U, LV.S, LV.nil, Nat.reduceEqDiff, Nat.reduceAdd, Nat.reduceMul, Nat.reduceSub, Nat.reduceLeDiff, Nat.reduceBEq, Nat.reduceDiv, Nat.reduceMod, Int.reduceToNat, Int.reduceLT, Int.reduceLE, Int.reduceAdd, Int.reduceSub, Int.reduceMul, Int.reduceEq, Int.reduceNeg, reduceCtorEq, resV, resAll, ARes.ev, LV.flat, ite_true, ite_false, exists_eq_left', exists_eq_left, keyOf, implies_true, fillC, capOf]
      exact ⟨m - 1, by omega, k + 1, by omega, rfl, f3, f5, f9, f39, eqI (natI _)⟩
  have hmm : 0 ≤ (cs.length : Int) * cs.length ∧ (cs.length : Int) * cs.length ≤ 4096 := ⟨Int.mul_nonneg (by omega) (by omega), Int.le_trans (Int.mul_le_mul (show (cs.length : Int) ≤ 64 by omega) (show (cs.length : Int) ≤ 64 by omega) (by omega) (by omega)) (by omega)⟩
  generalize hN : (cs.length : Int) * cs.length = NN at hmm hlw
  simp (disch := omega) only [f3, f5, f9, f39, f40, B3g.cell, B9g.cell, hN, ↓SXd, SXu, slBounds, ↓sop, ↓aop, ↓reduceIte, LV.cells, AOp.dst, LV.I, LV.B, LV.U, LV.S, LV.nil, Nat.reduceEqDiff, Nat.reduceAdd, Nat.reduceMul, Nat.reduceSub, Nat.reduceLeDiff, Nat.reduceBEq, Nat.reduceDiv, Nat.reduceMod, Int.reduceToNat, Int.reduceLT, Int.reduceLE, Int.reduceAdd, Int.reduceSub, Int.reduceMul, Int.reduceEq, Int.reduceNeg, reduceCtorEq, resV, resAll, ARes.ev, LV.flat, ite_true, ite_false, exists_eq_left', exists_eq_left, keyOf, implies_true, fillC, capOf]
  refine callK_of (k_rSum (.inr ⟨_, _, rfl, I9ag⟩) (by omega) hb1) ?_
  simp (disch := omega) only [f3, f5, f9, f39, f40, ↓SXd, SXu, slBounds, ↓sop, ↓aop, ↓reduceIte, LV.cells, AOp.dst, LV.I, LV.B, LV.U, LV.S, LV.nil, Nat.reduceEqDiff, Nat.reduceAdd, Nat.reduceMul, Nat.reduceSub, Nat.reduceLeDiff, Nat.reduceBEq, Nat.reduceDiv, Nat.reduceMod, Int.reduceToNat, Int.reduceLT, Int.reduceLE, Int.reduceAdd, Int.reduceSub, Int.reduceMul, Int.reduceEq, Int.reduceNeg, reduceCtorEq, resV, resAll, ARes.ev, LV.flat, ite_true, ite_false, exists_eq_left', exists_eq_left, keyOf, implies_true, fillC, capOf]
  refine callK_of (k_rSum (.inr ⟨_, _, rfl, I9bg⟩) (by omega) hb1) ?_
  have hm1 : 0 ≤ litSum (shdOf x y z 2 cs) * litSum (shdOf x y z 1 cs) ∧ litSum (shdOf x y z 2 cs) * litSum (shdOf x y z 1 cs) ≤ 256 := ⟨Int.mul_nonneg o2.1 o1.1, Int.le_trans (Int.mul_le_mul o2.2 o1.2 o1.1 (by omega)) (by omega)⟩
  have hm2 : 0 ≤ litSum (shdOf x y z 2 cs) * litSum (shdOf x y z 1 cs) * litSum (shdOf x y z 0 cs) ∧ litSum (shdOf x y z 2 cs) * litSum (shdOf x y z 1 cs) * litSum (shdOf x y z 0 cs) ≤ 4096 := ⟨Int.mul_nonneg hm1.1 o0.1, Int.le_trans (Int.mul_le_mul hm1.2 o0.2 o0.1 (by omega)) (by omega)⟩
  generalize litSum (shdOf x y z 2 cs) = t2 at hm1 hm2 hlw ⊢
  generalize litSum (shdOf x y z 1 cs) = t1 at hm1 hm2 hlw ⊢
  simp (disch := omega) only [f3, f5, f9, f39, f40, ↓SXd, SXu, slBounds, ↓sop, ↓aop, ↓reduceIte, LV.cells, AOp.dst, LV.I, LV.B, LV.U, LV.S, LV.nil, Nat.reduceEqDiff, Nat.reduceAdd, Nat.reduceMul, Nat.reduceSub, Nat.reduceLeDiff, Nat.reduceBEq, Nat.reduceDiv, Nat.reduceMod, Int.reduceToNat, Int.reduceLT, Int.reduceLE, Int.reduceAdd, Int.reduceSub, Int.reduceMul, Int.reduceEq, Int.reduceNeg, reduceCtorEq, resV, resAll, ARes.ev, LV.flat, ite_true, ite_false, exists_eq_left', exists_eq_left, keyOf, implies_true, fillC, capOf]
  refine callK_of (k_rSum (.inr ⟨_, _, rfl, I9cg⟩) (by omega) hb1) ?_
  generalize litSum (shdOf x y z 0 cs) = t0 at hm2 hlw ⊢
  simp (disch := omega) only [f3, f5, f9, f39, f40, hlw, ↓SXd, SXu, slBounds, ↓sop, ↓aop, ↓reduceIte, LV.cells, AOp.dst, LV.I, LV.B, LV.U, LV.S, LV.nil, Nat.reduceEqDiff, Nat.reduceAdd, Nat.reduceMul, Nat.reduceSub, Nat.reduceLeDiff, Nat.reduceBEq, Nat.reduceDiv, Nat.reduceMod, Int.reduceToNat, Int.reduceLT, Int.reduceLE, Int.reduceAdd, Int.reduceSub, Int.reduceMul, Int.reduceEq, Int.reduceNeg, reduceCtorEq, resV, resAll, ARes.ev, LV.flat, ite_true, ite_false, exists_eq_left', exists_eq_left, keyOf, implies_true, fillC, capOf]
  all_goals rfl
end Go.Ab

/- Bytes that came in, opened. -/
namespace Go.Ab
open Go Go.RowKit Go.Joins Go.ChangeShapes Go.WideShapes Go.Deep Go.WideElems Go.Maps

/-- What the abstract machine is told of a slice of bytes that came in. -/
def RowOfB (w : World) (a : Option Addr) (len cap : Nat) (xs : List Nat) : Prop :=
  xs.length = len ∧ len ≤ cap ∧ cap ≤ maxLen ∧ (∀ b ∈ xs, b ≤ 255) ∧ (cap = 0 ∨ ∃ b o c e fz, a = some ⟨b, o, none⟩ ∧ w.heap[b]? = some (.cells c e fz) ∧ ∀ i, i < len → c[o + i]? = some (.int .u8 ((xs.getD i 0 : Nat) : Int)))

section
variable {H : Type} {enc : TypeId × Value → H} {P : Program} {w : World} {held : Bool}
theorem open_bytesB {ts ti : TypeId} {fuel : Nat} {cs : List Value} {x : DataW H × List MemPlace} (hts : P.underlying ts = some (.slice ti)) (hti : P.underlying ti = some (.int .u8)) (hci : P.cellsOf ti = 1)
    (h : DataW.trod enc P w 0 (fun _ => true) held fuel ts cs = some x) : ∃ a len cap xs, cs = [.slice a len cap] ∧ RowOfB w a len cap xs := by
  rcases Go.ChangeShapes.open_ints hts hti hci h with ⟨rfl, _⟩ | ⟨a, len, cap, zs, rfl, _, hl, hm, hz, _, hel, hwf⟩
  · exact ⟨none, 0, 0, [], rfl, rfl, Nat.le_refl _, Nat.zero_le _, by simp, .inl rfl⟩
  · have hzl : zs.length = cap := by simpa using hz
    have hby : ∀ n ∈ zs, 0 ≤ n ∧ n ≤ 255 := fun n hn => by
      have h1 := hwf n hn
      unfold Lit.wf at h1
      rw [Bool.and_eq_true, decide_eq_true_iff, decide_eq_true_iff] at h1
      exact h1
    refine ⟨some a, len, cap, (zs.take len).map Int.toNat, rfl, by simp; omega, hl, hm, fun b hb => ?_, ?_⟩
    · obtain ⟨n, hn, rfl⟩ := List.mem_map.1 hb
      have := hby n (List.mem_of_mem_take hn)
      omega
    rcases Nat.eq_zero_or_pos cap with h0 | h0
    · exact .inl h0
    · refine .inr ?_
      have hc0 := hel 0 (by omega)
      obtain ⟨b, o, c, e, fz, ha, hh, _⟩ := cell_heap hc0
      have ha' : a = ⟨b, o, none⟩ := by simpa [Addr.add] using ha
      subst ha'
      refine ⟨b, o, c, e, fz, rfl, hh, fun i hi => ?_⟩
      have hcell := hel i (by omega)
      have hadd : (⟨b, o, none⟩ : Addr).add i = ⟨b, o + i, none⟩ := addr_add _ _ _
      rw [hadd] at hcell
      unfold World.cell? at hcell
      simp only [hh] at hcell
      have hil : i < zs.length := by omega
      have hbi := hby _ (getD_mem' (d := 0) hil)
      have hg : ((((zs.take len).map Int.toNat).getD i 0 : Nat) : Int) = zs.getD i 0 := by
        have e1 : ((zs.take len).map Int.toNat).getD i 0 = (zs.getD i 0).toNat := by simp [hi, hil]
        rw [e1]; omega
      rw [hg]
      simpa using hcell
end
theorem byL_get {bs : List Nat} {i : Nat} (h : i < bs.length) : (byL bs)[i]? = some (.val (.int .u8 ((bs.getD i 0 : Nat) : Int))) := by simp [byL, h]
theorem Inv.addBytes' {G : Gh} {M : Mem} {w : World} (hi : Inv G M w) (hno : NoOwn M) {a : Option Addr} {len cap : Nat} {xs : List Nat} (h : RowOfB w a len cap xs) :
    ∃ (G' : Gh) (N : Mem) (t : Nat), Ext G G' ∧ Inv G' N w ∧ NoOwn N ∧ Pre M N ∧ VR1 G' (.ref t 0 len) (.slice a len cap) ∧ Bytes N t 0 xs := by
  obtain ⟨h1, h2, h3, _, h4⟩ := h
  have key : ∃ G', Ext G G' ∧ Inv G' (M ++ [some (.row (byL xs) false 1)]) w ∧ NoOwn (M ++ [some (.row (byL xs) false 1)]) ∧ VR1 G' (.ref M.length 0 len) (.slice a len cap) := by
    refine hi.addRow hno h2 (by rw [byL_len]; omega) ?_
    rcases h4 with h0 | ⟨b, o, c, e, fz, ha, hh, hc⟩
    · refine .inl ⟨h0, ?_⟩
      have : xs = [] := List.eq_nil_of_length_eq_zero (by omega)
      rw [this]; rfl
    · refine .inr ⟨b, o, c, e, fz, ha, hh, fun j l hj => ?_⟩
      have hjl : j < xs.length := by
        rw [← byL_len]
        rcases Nat.lt_or_ge j (byL xs).length with h | h
        · exact h
        · rw [List.getElem?_eq_none h] at hj; cases hj
      rw [byL_get hjl] at hj
      cases hj
      exact ⟨_, hc j (by omega), rfl, rfl⟩
  obtain ⟨G', k1, k2, k3, k4⟩ := key
  exact ⟨G', _, _, k1, k2, k3, Pre.app _ _, k4, Has.new⟩
/-- Bytes whose block has elements of one cell. -/
def BytesZ (M : Mem) (t o : Nat) (bs : List Nat) : Prop := Bytes M t o bs ∧ getEsz M t = some 1
theorem RowOfB.le {w : World} {a : Option Addr} {len cap : Nat} {xs : List Nat} (h : RowOfB w a len cap xs) : xs.length ≤ 9223372036854775807 ∧ ∀ b ∈ xs, b ≤ 255 := by
  obtain ⟨h0, h1, h2, h3, _⟩ := h
  have := max63
  exact ⟨by omega, h3⟩
end Go.Ab
