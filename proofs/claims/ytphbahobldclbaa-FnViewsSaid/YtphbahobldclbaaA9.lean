/- Parts of the proof of FnViewsSaid: El Ba C_Bc K_Bc C_Bb K_Bb Bb Bc C_On K_On C_Og K_Og C_Of K_Of Of Og Oi Om On Jk C_Bd K_Bd C_Jm K_Jm C_Jl K_Jl Jl C_Qa K_Qa Qa Jm C_Jj K_Jj Jj. -/
import Derived.Test.YtphbahobldclbaaA8
import Derived.Test.YtphbahobldclbaaA4
import Derived.Test.YtphbahobldclbaaA3
import Derived.Test.YtphbahobldclbaaProg
import Derived.KernelRfl
import Derived.Test.YtphbahobldclbaaA7
import Derived.Test.YtphbahobldclbaaA6
import Derived.Test.YtphbahobldclbaaA5
set_option linter.all false
/- Contracts: steps between columns and the climbs of walks, both sides; heights. -/
namespace Go.Ab
open Go
set_option linter.unusedSimpArgs false
set_option linter.unusedVariables false
set_option maxRecDepth 20000

/-- What StepColumns answers. -/
noncomputable def stepRes (x y z : Int) (cs : List Cell) (p s : Int) : Option (List Int) := by
  classical
  exact if HeapOK x y z cs ∧ (0 ≤ p ∧ p ≤ x * y - 1) ∧ 0 ≤ s then some (stepsOf x y (topsOf x y cs) p s) else none
/-- What TopHeights answers. -/
noncomputable def topRes (x y z : Int) (cs : List Cell) : Option (List Int) := by
  classical
  exact if HeapOK x y z cs then some (topsOf x y cs) else none
section
variable {x y z : Int} {t o : Nat} {cs : List Cell} {M : Mem} (h : Tri M t o cs) (hn : cs.length ≤ 1000000000)
include h hn
theorem g_TopHeights : CallsR PG F.impl_TopHeights [.agg [.I x, .I y, .I z, .ref t o cs.length]] M (IntsRes M (topRes x y z cs)) := by
  refine callsR_run K.impl_TopHeights rfl ?_
  simp (disch := omega) only [C.impl_TopHeights, ↓SXd, SXu, slBounds, ↓sop, ↓aop, ↓reduceIte, LV.cells, AOp.dst, LV.I, LV.B, LV.U, LV.S, LV.nil, Nat.reduceEqDiff, Nat.reduceAdd, Nat.reduceMul, Nat.reduceSub, Nat.reduceLeDiff, Nat.reduceBEq, Nat.reduceDiv, Nat.reduceMod, Int.reduceToNat, Int.reduceLT, Int.reduceLE, Int.reduceAdd, Int.reduceSub, Int.reduceMul, Int.reduceEq, Int.reduceNeg, reduceCtorEq, resV, resAll, ARes.ev, LV.flat, ite_true, ite_false, exists_eq_left', exists_eq_left, keyOf, implies_true, fillC, capOf]
  refine callK_of (g_IsHeap h.app hn) ?_
  simp (disch := omega) only [↓SXd, SXu, slBounds, ↓sop, ↓aop, ↓reduceIte, LV.cells, AOp.dst, LV.I, LV.B, LV.U, LV.S, LV.nil, Nat.reduceEqDiff, Nat.reduceAdd, Nat.reduceMul, Nat.reduceSub, Nat.reduceLeDiff, Nat.reduceBEq, Nat.reduceDiv, Nat.reduceMod, Int.reduceToNat, Int.reduceLT, Int.reduceLE, Int.reduceAdd, Int.reduceSub, Int.reduceMul, Int.reduceEq, Int.reduceNeg, reduceCtorEq, resV, resAll, ARes.ev, LV.flat, ite_true, ite_false, exists_eq_left', exists_eq_left, keyOf, implies_true, fillC, capOf]
  unfold topRes
  by_cases hH : HeapOK x y z cs
  · rw [if_pos hH]
    simp (disch := omega) only [hH, ↓SXd, SXu, slBounds, ↓sop, ↓aop, ↓reduceIte, LV.cells, AOp.dst, LV.I, LV.B, LV.U, LV.S, LV.nil, Nat.reduceEqDiff, Nat.reduceAdd, Nat.reduceMul, Nat.reduceSub, Nat.reduceLeDiff, Nat.reduceBEq, Nat.reduceDiv, Nat.reduceMod, Int.reduceToNat, Int.reduceLT, Int.reduceLE, Int.reduceAdd, Int.reduceSub, Int.reduceMul, Int.reduceEq, Int.reduceNeg, reduceCtorEq, resV, resAll, ARes.ev, LV.flat, ite_true, ite_false, exists_eq_left', exists_eq_left, keyOf, implies_true, fillC, capOf]
    refine callK_of (g_heights h.app hn hH) ?_
    simp (disch := omega) only [↓SXd, SXu, slBounds, ↓sop, ↓aop, ↓reduceIte, LV.cells, AOp.dst, LV.I, LV.B, LV.U, LV.S, LV.nil, Nat.reduceEqDiff, Nat.reduceAdd, Nat.reduceMul, Nat.reduceSub, Nat.reduceLeDiff, Nat.reduceBEq, Nat.reduceDiv, Nat.reduceMod, Int.reduceToNat, Int.reduceLT, Int.reduceLE, Int.reduceAdd, Int.reduceSub, Int.reduceMul, Int.reduceEq, Int.reduceNeg, reduceCtorEq, resV, resAll, ARes.ev, LV.flat, ite_true, ite_false, exists_eq_left', exists_eq_left, keyOf, implies_true, fillC, capOf]
    have hl := topsOf_len x y cs
    exact ⟨_, rfl, .inr ⟨_, [], by rw [Option.getD_some, hl], by rw [List.append_nil]; exact Live.newj (j := 1) rfl⟩, Newer.of (by omega), Pre.app _ _⟩
  · rw [if_neg hH]
    simp (disch := omega) only [hH, ↓SXd, SXu, slBounds, ↓sop, ↓aop, ↓reduceIte, LV.cells, AOp.dst, LV.I, LV.B, LV.U, LV.S, LV.nil, Nat.reduceEqDiff, Nat.reduceAdd, Nat.reduceMul, Nat.reduceSub, Nat.reduceLeDiff, Nat.reduceBEq, Nat.reduceDiv, Nat.reduceMod, Int.reduceToNat, Int.reduceLT, Int.reduceLE, Int.reduceAdd, Int.reduceSub, Int.reduceMul, Int.reduceEq, Int.reduceNeg, reduceCtorEq, resV, resAll, ARes.ev, LV.flat, ite_true, ite_false, exists_eq_left', exists_eq_left, keyOf, implies_true, fillC, capOf]
    exact ⟨_, rfl, SlI.nil, Newer.nil, Pre.app _ _⟩
end
end Go.Ab

/- Contracts: views, shadows and heights of columns, both sides, for all heaps. -/
namespace Go.Ab
open Go
set_option linter.unusedSimpArgs false
set_option linter.unusedVariables false
set_option maxRecDepth 20000

noncomputable def vwOf (x y z : Int) (cs : List Cell) (d : Int) : List Int := by
  classical
  exact if HeapOK x y z cs ∧ Dir d then viewL x y z d.toNat cs else []
noncomputable def shsOf (x y z : Int) (cs : List Cell) : Option Shd := by
  classical
  exact if HeapOK x y z cs then some ⟨x, y, z, shdOf x y z 2 cs, shdOf x y z 1 cs, shdOf x y z 0 cs⟩ else none
noncomputable def tpsOf (x y z : Int) (cs : List Cell) : List Int := by
  classical
  exact if HeapOK x y z cs then topsOf x y cs else []
section
variable {x y z : Int} {t : Nat} {cs : List Cell} {M : Mem} (h : Tri M t 0 cs) (hn : cs.length ≤ 1000000000)
include h hn
theorem g_ViewOfI {d : Int} : CallsR PG F.impl_ViewOf [.agg [.I x, .I y, .I z, .ref t 0 cs.length], .I d] M (IntsG M (vwOf x y z cs d) (sqrB x y z cs d)) := by
  refine callsR_run K.impl_ViewOf rfl ?_
  simp (disch := omega) only [C.impl_ViewOf, ↓SXd, SXu, slBounds, ↓sop, ↓aop, ↓reduceIte, LV.cells, AOp.dst, LV.I, LV.B, LV.U, LV.S, LV.nil, Nat.reduceEqDiff, Nat.reduceAdd, Nat.reduceMul, Nat.reduceSub, Nat.reduceLeDiff, Nat.reduceBEq, Nat.reduceDiv, Nat.reduceMod, Int.reduceToNat, Int.reduceLT, Int.reduceLE, Int.reduceAdd, Int.reduceSub, Int.reduceMul, Int.reduceEq, Int.reduceNeg, reduceCtorEq, resV, resAll, ARes.ev, LV.flat, ite_true, ite_false, exists_eq_left', exists_eq_left, keyOf, implies_true, fillC, capOf]
  refine callK_of (g_IsHeap h.app hn) ?_
  simp (disch := omega) only [↓SXd, SXu, slBounds, ↓sop, ↓aop, ↓reduceIte, LV.cells, AOp.dst, LV.I, LV.B, LV.U, LV.S, LV.nil, Nat.reduceEqDiff, Nat.reduceAdd, Nat.reduceMul, Nat.reduceSub, Nat.reduceLeDiff, Nat.reduceBEq, Nat.reduceDiv, Nat.reduceMod, Int.reduceToNat, Int.reduceLT, Int.reduceLE, Int.reduceAdd, Int.reduceSub, Int.reduceMul, Int.reduceEq, Int.reduceNeg, reduceCtorEq, resV, resAll, ARes.ev, LV.flat, ite_true, ite_false, exists_eq_left', exists_eq_left, keyOf, implies_true, fillC, capOf]
  have hdd : Dir d ↔ 0 ≤ d ∧ d ≤ 2 := by unfold Dir; omega
  have hisd : ∀ {M : Mem}, CallsTo PG F.impl_isDirection [.I d] M (.B (decide (0 ≤ d ∧ d ≤ 2))) M := fun {M} => by
    refine calls_run K.impl_isDirection rfl ?_
    simp (disch := omega) only [C.impl_isDirection, ↓SXd, SXu, slBounds, ↓sop, ↓aop, ↓reduceIte, LV.cells, AOp.dst, LV.I, LV.B, LV.U, LV.S, LV.nil, Nat.reduceEqDiff, Nat.reduceAdd, Nat.reduceMul, Nat.reduceSub, Nat.reduceLeDiff, Nat.reduceBEq, Nat.reduceDiv, Nat.reduceMod, Int.reduceToNat, Int.reduceLT, Int.reduceLE, Int.reduceAdd, Int.reduceSub, Int.reduceMul, Int.reduceEq, Int.reduceNeg, reduceCtorEq, resV, resAll, ARes.ev, LV.flat, ite_true, ite_false, exists_eq_left', exists_eq_left, keyOf, implies_true, fillC, capOf]
    refine callK_of (g_within) ?_
    simp (disch := omega) only [↓SXd, SXu, slBounds, ↓sop, ↓aop, ↓reduceIte, LV.cells, AOp.dst, LV.I, LV.B, LV.U, LV.S, LV.nil, Nat.reduceEqDiff, Nat.reduceAdd, Nat.reduceMul, Nat.reduceSub, Nat.reduceLeDiff, Nat.reduceBEq, Nat.reduceDiv, Nat.reduceMod, Int.reduceToNat, Int.reduceLT, Int.reduceLE, Int.reduceAdd, Int.reduceSub, Int.reduceMul, Int.reduceEq, Int.reduceNeg, reduceCtorEq, resV, resAll, ARes.ev, LV.flat, ite_true, ite_false, exists_eq_left', exists_eq_left, keyOf, implies_true, fillC, capOf]
    exact cmp_drop0 rfl
  by_cases hH : HeapOK x y z cs
  rotate_left
  · rw [show vwOf x y z cs d = [] from if_neg (fun e => hH e.1), show sqrB x y z cs d = false from decide_eq_false fun e => hH e.1]
    simp (disch := omega) only [hH, ↓SXd, SXu, slBounds, ↓sop, ↓aop, ↓reduceIte, LV.cells, AOp.dst, LV.I, LV.B, LV.U, LV.S, LV.nil, Nat.reduceEqDiff, Nat.reduceAdd, Nat.reduceMul, Nat.reduceSub, Nat.reduceLeDiff, Nat.reduceBEq, Nat.reduceDiv, Nat.reduceMod, Int.reduceToNat, Int.reduceLT, Int.reduceLE, Int.reduceAdd, Int.reduceSub, Int.reduceMul, Int.reduceEq, Int.reduceNeg, reduceCtorEq, resV, resAll, ARes.ev, LV.flat, ite_true, ite_false, exists_eq_left', exists_eq_left, keyOf, implies_true, fillC, capOf]
    exact ⟨_, rfl, .inl ⟨rfl, rfl⟩, Pre.app _ _⟩
  have hpk : pick x y z (fun c => decide (c ∈ cs)) = cs := hH.pick.symm
  simp (disch := omega) only [hH, ↓SXd, SXu, slBounds, ↓sop, ↓aop, ↓reduceIte, LV.cells, AOp.dst, LV.I, LV.B, LV.U, LV.S, LV.nil, Nat.reduceEqDiff, Nat.reduceAdd, Nat.reduceMul, Nat.reduceSub, Nat.reduceLeDiff, Nat.reduceBEq, Nat.reduceDiv, Nat.reduceMod, Int.reduceToNat, Int.reduceLT, Int.reduceLE, Int.reduceAdd, Int.reduceSub, Int.reduceMul, Int.reduceEq, Int.reduceNeg, reduceCtorEq, resV, resAll, ARes.ev, LV.flat, ite_true, ite_false, exists_eq_left', exists_eq_left, keyOf, implies_true, fillC, capOf]
  refine callK_of (hisd) ?_
  simp (disch := omega) only [↓SXd, SXu, slBounds, ↓sop, ↓aop, ↓reduceIte, LV.cells, AOp.dst, LV.I, LV.B, LV.U, LV.S, LV.nil, Nat.reduceEqDiff, Nat.reduceAdd, Nat.reduceMul, Nat.reduceSub, Nat.reduceLeDiff, Nat.reduceBEq, Nat.reduceDiv, Nat.reduceMod, Int.reduceToNat, Int.reduceLT, Int.reduceLE, Int.reduceAdd, Int.reduceSub, Int.reduceMul, Int.reduceEq, Int.reduceNeg, reduceCtorEq, resV, resAll, ARes.ev, LV.flat, ite_true, ite_false, exists_eq_left', exists_eq_left, keyOf, implies_true, fillC, capOf]
  by_cases hd : 0 ≤ d ∧ d ≤ 2
  rotate_left
  · rw [show vwOf x y z cs d = [] from if_neg (fun e => hd (hdd.1 e.2)), show sqrB x y z cs d = false from decide_eq_false fun e => hd (hdd.1 e.2), decide_eq_false hd]
    simp (disch := omega) only [↓SXd, SXu, slBounds, ↓sop, ↓aop, ↓reduceIte, LV.cells, AOp.dst, LV.I, LV.B, LV.U, LV.S, LV.nil, Nat.reduceEqDiff, Nat.reduceAdd, Nat.reduceMul, Nat.reduceSub, Nat.reduceLeDiff, Nat.reduceBEq, Nat.reduceDiv, Nat.reduceMod, Int.reduceToNat, Int.reduceLT, Int.reduceLE, Int.reduceAdd, Int.reduceSub, Int.reduceMul, Int.reduceEq, Int.reduceNeg, reduceCtorEq, resV, resAll, ARes.ev, LV.flat, ite_true, ite_false, exists_eq_left', exists_eq_left, keyOf, implies_true, fillC, capOf]
    exact ⟨_, rfl, .inl ⟨rfl, rfl⟩, Pre.app _ _⟩
  rw [show vwOf x y z cs d = viewL x y z d.toNat cs from if_pos ⟨hH, hdd.2 hd⟩, show sqrB x y z cs d = true from decide_eq_true ⟨hH, hdd.2 hd⟩, decide_eq_true hd]
  obtain ⟨n, rfl⟩ : ∃ n : Nat, d = n := ⟨d.toNat, by omega⟩
  rw [Int.toNat_natCast]
  simp (disch := omega) only [↓SXd, SXu, slBounds, ↓sop, ↓aop, ↓reduceIte, LV.cells, AOp.dst, LV.I, LV.B, LV.U, LV.S, LV.nil, Nat.reduceEqDiff, Nat.reduceAdd, Nat.reduceMul, Nat.reduceSub, Nat.reduceLeDiff, Nat.reduceBEq, Nat.reduceDiv, Nat.reduceMod, Int.reduceToNat, Int.reduceLT, Int.reduceLE, Int.reduceAdd, Int.reduceSub, Int.reduceMul, Int.reduceEq, Int.reduceNeg, reduceCtorEq, resV, resAll, ARes.ev, LV.flat, ite_true, ite_false, exists_eq_left', exists_eq_left, keyOf, implies_true, fillC, capOf]
  refine callK_of (g_box) ?_
  simp (disch := omega) only [↓SXd, SXu, slBounds, ↓sop, ↓aop, ↓reduceIte, LV.cells, AOp.dst, LV.I, LV.B, LV.U, LV.S, LV.nil, Nat.reduceEqDiff, Nat.reduceAdd, Nat.reduceMul, Nat.reduceSub, Nat.reduceLeDiff, Nat.reduceBEq, Nat.reduceDiv, Nat.reduceMod, Int.reduceToNat, Int.reduceLT, Int.reduceLE, Int.reduceAdd, Int.reduceSub, Int.reduceMul, Int.reduceEq, Int.reduceNeg, reduceCtorEq, resV, resAll, ARes.ev, LV.flat, ite_true, ite_false, exists_eq_left', exists_eq_left, keyOf, implies_true, fillC, capOf]
  refine callK_of (g_cubes h.app hn hH.1 (fun c hc => hH.mem hc)) ?_
  simp (disch := omega) only [↓SXd, SXu, slBounds, ↓sop, ↓aop, ↓reduceIte, LV.cells, AOp.dst, LV.I, LV.B, LV.U, LV.S, LV.nil, Nat.reduceEqDiff, Nat.reduceAdd, Nat.reduceMul, Nat.reduceSub, Nat.reduceLeDiff, Nat.reduceBEq, Nat.reduceDiv, Nat.reduceMod, Int.reduceToNat, Int.reduceLT, Int.reduceLE, Int.reduceAdd, Int.reduceSub, Int.reduceMul, Int.reduceEq, Int.reduceNeg, reduceCtorEq, resV, resAll, ARes.ev, LV.flat, ite_true, ite_false, exists_eq_left', exists_eq_left, keyOf, implies_true, fillC, capOf]
  have hgv := g_view (x := x) (y := y) (z := z) (d := n) (p := fun c => decide (c ∈ cs)) (M := M ++ [some (.row [.I x, .I y, .I z, .ref t 0 cs.length] true 0)]) hH.1 (by omega)
  rw [hpk] at hgv
  refine callK_of (hgv) ?_
  simp (disch := omega) only [↓SXd, SXu, slBounds, ↓sop, ↓aop, ↓reduceIte, LV.cells, AOp.dst, LV.I, LV.B, LV.U, LV.S, LV.nil, Nat.reduceEqDiff, Nat.reduceAdd, Nat.reduceMul, Nat.reduceSub, Nat.reduceLeDiff, Nat.reduceBEq, Nat.reduceDiv, Nat.reduceMod, Int.reduceToNat, Int.reduceLT, Int.reduceLE, Int.reduceAdd, Int.reduceSub, Int.reduceMul, Int.reduceEq, Int.reduceNeg, reduceCtorEq, resV, resAll, ARes.ev, LV.flat, ite_true, ite_false, exists_eq_left', exists_eq_left, keyOf, implies_true, fillC, capOf]
  exact ⟨_, rfl, .inr ⟨_, _, rfl, (Live.newj (j := 1) rfl : Live _ _ (.row (intL (viewL x y z n cs)) true 1)).has⟩, Pre.app _ _⟩
theorem h_sViewOf {d : Int} : CallsR PG F.spec_ViewOf [.agg [.I x, .I y, .I z, .ref t 0 cs.length], .I d] M (IntsG M (vwOf x y z cs d) (sqrB x y z cs d)) := by
  refine callsR_run K.spec_ViewOf rfl ?_
  simp (disch := omega) only [C.spec_ViewOf, ↓SXd, SXu, slBounds, ↓sop, ↓aop, ↓reduceIte, LV.cells, AOp.dst, LV.I, LV.B, LV.U, LV.S, LV.nil, Nat.reduceEqDiff, Nat.reduceAdd, Nat.reduceMul, Nat.reduceSub, Nat.reduceLeDiff, Nat.reduceBEq, Nat.reduceDiv, Nat.reduceMod, Int.reduceToNat, Int.reduceLT, Int.reduceLE, Int.reduceAdd, Int.reduceSub, Int.reduceMul, Int.reduceEq, Int.reduceNeg, reduceCtorEq, resV, resAll, ARes.ev, LV.flat, ite_true, ite_false, exists_eq_left', exists_eq_left, keyOf, implies_true, fillC, capOf]
  refine callK_of (h_l2Heap h.app hn) ?_
  simp (disch := omega) only [↓SXd, SXu, slBounds, ↓sop, ↓aop, ↓reduceIte, LV.cells, AOp.dst, LV.I, LV.B, LV.U, LV.S, LV.nil, Nat.reduceEqDiff, Nat.reduceAdd, Nat.reduceMul, Nat.reduceSub, Nat.reduceLeDiff, Nat.reduceBEq, Nat.reduceDiv, Nat.reduceMod, Int.reduceToNat, Int.reduceLT, Int.reduceLE, Int.reduceAdd, Int.reduceSub, Int.reduceMul, Int.reduceEq, Int.reduceNeg, reduceCtorEq, resV, resAll, ARes.ev, LV.flat, ite_true, ite_false, exists_eq_left', exists_eq_left, keyOf, implies_true, fillC, capOf]
  have hdd : Dir d ↔ 0 ≤ d ∧ d ≤ 2 := by unfold Dir; omega
  by_cases hH : HeapOK x y z cs
  rotate_left
  · rw [show vwOf x y z cs d = [] from if_neg (fun e => hH e.1), show sqrB x y z cs d = false from decide_eq_false fun e => hH e.1]
    simp (disch := omega) only [hH, ↓SXd, SXu, slBounds, ↓sop, ↓aop, ↓reduceIte, LV.cells, AOp.dst, LV.I, LV.B, LV.U, LV.S, LV.nil, Nat.reduceEqDiff, Nat.reduceAdd, Nat.reduceMul, Nat.reduceSub, Nat.reduceLeDiff, Nat.reduceBEq, Nat.reduceDiv, Nat.reduceMod, Int.reduceToNat, Int.reduceLT, Int.reduceLE, Int.reduceAdd, Int.reduceSub, Int.reduceMul, Int.reduceEq, Int.reduceNeg, reduceCtorEq, resV, resAll, ARes.ev, LV.flat, ite_true, ite_false, exists_eq_left', exists_eq_left, keyOf, implies_true, fillC, capOf]
    exact ⟨_, rfl, .inr ⟨_, _, rfl, (Live.newj (j := 1) rfl : Live _ _ (.row (intL []) true 1)).has⟩, Pre.app _ _⟩
  simp (disch := omega) only [hH, ↓SXd, SXu, slBounds, ↓sop, ↓aop, ↓reduceIte, LV.cells, AOp.dst, LV.I, LV.B, LV.U, LV.S, LV.nil, Nat.reduceEqDiff, Nat.reduceAdd, Nat.reduceMul, Nat.reduceSub, Nat.reduceLeDiff, Nat.reduceBEq, Nat.reduceDiv, Nat.reduceMod, Int.reduceToNat, Int.reduceLT, Int.reduceLE, Int.reduceAdd, Int.reduceSub, Int.reduceMul, Int.reduceEq, Int.reduceNeg, reduceCtorEq, resV, resAll, ARes.ev, LV.flat, ite_true, ite_false, exists_eq_left', exists_eq_left, keyOf, implies_true, fillC, capOf]
  refine callK_of (h_l1In) ?_
  simp (disch := omega) only [↓SXd, SXu, slBounds, ↓sop, ↓aop, ↓reduceIte, LV.cells, AOp.dst, LV.I, LV.B, LV.U, LV.S, LV.nil, Nat.reduceEqDiff, Nat.reduceAdd, Nat.reduceMul, Nat.reduceSub, Nat.reduceLeDiff, Nat.reduceBEq, Nat.reduceDiv, Nat.reduceMod, Int.reduceToNat, Int.reduceLT, Int.reduceLE, Int.reduceAdd, Int.reduceSub, Int.reduceMul, Int.reduceEq, Int.reduceNeg, reduceCtorEq, resV, resAll, ARes.ev, LV.flat, ite_true, ite_false, exists_eq_left', exists_eq_left, keyOf, implies_true, fillC, capOf]
  by_cases hd : 0 ≤ d ∧ d ≤ 2
  rotate_left
  · rw [show vwOf x y z cs d = [] from if_neg (fun e => hd (hdd.1 e.2)), show sqrB x y z cs d = false from decide_eq_false fun e => hd (hdd.1 e.2), decide_eq_false hd]
    simp (disch := omega) only [↓SXd, SXu, slBounds, ↓sop, ↓aop, ↓reduceIte, LV.cells, AOp.dst, LV.I, LV.B, LV.U, LV.S, LV.nil, Nat.reduceEqDiff, Nat.reduceAdd, Nat.reduceMul, Nat.reduceSub, Nat.reduceLeDiff, Nat.reduceBEq, Nat.reduceDiv, Nat.reduceMod, Int.reduceToNat, Int.reduceLT, Int.reduceLE, Int.reduceAdd, Int.reduceSub, Int.reduceMul, Int.reduceEq, Int.reduceNeg, reduceCtorEq, resV, resAll, ARes.ev, LV.flat, ite_true, ite_false, exists_eq_left', exists_eq_left, keyOf, implies_true, fillC, capOf]
    exact ⟨_, rfl, .inr ⟨_, _, rfl, (Live.newj (j := 1) rfl : Live _ _ (.row (intL []) true 1)).has⟩, Pre.app _ _⟩
  rw [show vwOf x y z cs d = viewL x y z d.toNat cs from if_pos ⟨hH, hdd.2 hd⟩, show sqrB x y z cs d = true from decide_eq_true ⟨hH, hdd.2 hd⟩, decide_eq_true hd]
  obtain ⟨n, rfl⟩ : ∃ n : Nat, d = n := ⟨d.toNat, by omega⟩
  rw [Int.toNat_natCast]
  simp (disch := omega) only [↓SXd, SXu, slBounds, ↓sop, ↓aop, ↓reduceIte, LV.cells, AOp.dst, LV.I, LV.B, LV.U, LV.S, LV.nil, Nat.reduceEqDiff, Nat.reduceAdd, Nat.reduceMul, Nat.reduceSub, Nat.reduceLeDiff, Nat.reduceBEq, Nat.reduceDiv, Nat.reduceMod, Int.reduceToNat, Int.reduceLT, Int.reduceLE, Int.reduceAdd, Int.reduceSub, Int.reduceMul, Int.reduceEq, Int.reduceNeg, reduceCtorEq, resV, resAll, ARes.ev, LV.flat, ite_true, ite_false, exists_eq_left', exists_eq_left, keyOf, implies_true, fillC, capOf]
  refine callK_of (h_l2View h.app hH (d := n) (by omega)) ?_
  simp (disch := omega) only [↓SXd, SXu, slBounds, ↓sop, ↓aop, ↓reduceIte, LV.cells, AOp.dst, LV.I, LV.B, LV.U, LV.S, LV.nil, Nat.reduceEqDiff, Nat.reduceAdd, Nat.reduceMul, Nat.reduceSub, Nat.reduceLeDiff, Nat.reduceBEq, Nat.reduceDiv, Nat.reduceMod, Int.reduceToNat, Int.reduceLT, Int.reduceLE, Int.reduceAdd, Int.reduceSub, Int.reduceMul, Int.reduceEq, Int.reduceNeg, reduceCtorEq, resV, resAll, ARes.ev, LV.flat, ite_true, ite_false, exists_eq_left', exists_eq_left, keyOf, implies_true, fillC, capOf]
  exact ⟨_, rfl, .inr ⟨_, _, rfl, (Live.newj (j := 1) rfl : Live _ _ (.row (intL (viewL x y z n cs)) true 1)).has⟩, Pre.app _ _⟩
theorem g_ShadowsOfX : CallsR PG F.impl_ShadowsOf [.agg [.I x, .I y, .I z, .ref t 0 cs.length]] M (ShdX M (shsOf x y z cs)) := by
  refine shdX_of ?_
  by_cases hH : HeapOK x y z cs
  · rw [show shsOf x y z cs = some ⟨x, y, z, shdOf x y z 2 cs, shdOf x y z 1 cs, shdOf x y z 0 cs⟩ from if_pos hH]
    exact (g_ShadowsOf h hH).mono fun v N ⟨a, b, c, h1, h2, h3, h4, h5⟩ => .inl ⟨_, a, b, c, rfl, h1, h2, h3, h4, h5⟩
  rw [show shsOf x y z cs = none from if_neg hH]
  refine callsR_run K.impl_ShadowsOf rfl ?_
  simp (disch := omega) only [C.impl_ShadowsOf, ↓SXd, SXu, slBounds, ↓sop, ↓aop, ↓reduceIte, LV.cells, AOp.dst, LV.I, LV.B, LV.U, LV.S, LV.nil, Nat.reduceEqDiff, Nat.reduceAdd, Nat.reduceMul, Nat.reduceSub, Nat.reduceLeDiff, Nat.reduceBEq, Nat.reduceDiv, Nat.reduceMod, Int.reduceToNat, Int.reduceLT, Int.reduceLE, Int.reduceAdd, Int.reduceSub, Int.reduceMul, Int.reduceEq, Int.reduceNeg, reduceCtorEq, resV, resAll, ARes.ev, LV.flat, ite_true, ite_false, exists_eq_left', exists_eq_left, keyOf, implies_true, fillC, capOf]
  refine callK_of (g_IsHeap h.app hn) ?_
  simp (disch := omega) only [↓SXd, SXu, slBounds, ↓sop, ↓aop, ↓reduceIte, LV.cells, AOp.dst, LV.I, LV.B, LV.U, LV.S, LV.nil, Nat.reduceEqDiff, Nat.reduceAdd, Nat.reduceMul, Nat.reduceSub, Nat.reduceLeDiff, Nat.reduceBEq, Nat.reduceDiv, Nat.reduceMod, Int.reduceToNat, Int.reduceLT, Int.reduceLE, Int.reduceAdd, Int.reduceSub, Int.reduceMul, Int.reduceEq, Int.reduceNeg, reduceCtorEq, resV, resAll, ARes.ev, LV.flat, ite_true, ite_false, exists_eq_left', exists_eq_left, keyOf, implies_true, fillC, capOf]
  exact .inr ⟨rfl, Pre.app _ _⟩
theorem h_sShadowsOf : CallsR PG F.spec_ShadowsOf [.agg [.I x, .I y, .I z, .ref t 0 cs.length]] M (ShdX M (shsOf x y z cs)) := by
  refine shdX_of ?_
  refine callsR_run K.spec_ShadowsOf rfl ?_
  simp (disch := omega) only [C.spec_ShadowsOf, ↓SXd, SXu, slBounds, ↓sop, ↓aop, ↓reduceIte, LV.cells, AOp.dst, LV.I, LV.B, LV.U, LV.S, LV.nil, Nat.reduceEqDiff, Nat.reduceAdd, Nat.reduceMul, Nat.reduceSub, Nat.reduceLeDiff, Nat.reduceBEq, Nat.reduceDiv, Nat.reduceMod, Int.reduceToNat, Int.reduceLT, Int.reduceLE, Int.reduceAdd, Int.reduceSub, Int.reduceMul, Int.reduceEq, Int.reduceNeg, reduceCtorEq, resV, resAll, ARes.ev, LV.flat, ite_true, ite_false, exists_eq_left', exists_eq_left, keyOf, implies_true, fillC, capOf]
  refine callK_of (h_l2Heap h.app hn) ?_
  simp (disch := omega) only [↓SXd, SXu, slBounds, ↓sop, ↓aop, ↓reduceIte, LV.cells, AOp.dst, LV.I, LV.B, LV.U, LV.S, LV.nil, Nat.reduceEqDiff, Nat.reduceAdd, Nat.reduceMul, Nat.reduceSub, Nat.reduceLeDiff, Nat.reduceBEq, Nat.reduceDiv, Nat.reduceMod, Int.reduceToNat, Int.reduceLT, Int.reduceLE, Int.reduceAdd, Int.reduceSub, Int.reduceMul, Int.reduceEq, Int.reduceNeg, reduceCtorEq, resV, resAll, ARes.ev, LV.flat, ite_true, ite_false, exists_eq_left', exists_eq_left, keyOf, implies_true, fillC, capOf]
  by_cases hH : HeapOK x y z cs
  rotate_left
  · rw [show shsOf x y z cs = none from if_neg hH]
    simp (disch := omega) only [hH, splice, ↓SXd, SXu, slBounds, ↓sop, ↓aop, ↓reduceIte, LV.cells, AOp.dst, LV.I, LV.B, LV.U, LV.S, LV.nil, Nat.reduceEqDiff, Nat.reduceAdd, Nat.reduceMul, Nat.reduceSub, Nat.reduceLeDiff, Nat.reduceBEq, Nat.reduceDiv, Nat.reduceMod, Int.reduceToNat, Int.reduceLT, Int.reduceLE, Int.reduceAdd, Int.reduceSub, Int.reduceMul, Int.reduceEq, Int.reduceNeg, reduceCtorEq, resV, resAll, ARes.ev, LV.flat, ite_true, ite_false, exists_eq_left', exists_eq_left, keyOf, implies_true, fillC, capOf]
    exact .inr ⟨rfl, Pre.app _ _⟩
  rw [show shsOf x y z cs = some ⟨x, y, z, shdOf x y z 2 cs, shdOf x y z 1 cs, shdOf x y z 0 cs⟩ from if_pos hH]
  simp (disch := omega) only [hH, ↓SXd, SXu, slBounds, ↓sop, ↓aop, ↓reduceIte, LV.cells, AOp.dst, LV.I, LV.B, LV.U, LV.S, LV.nil, Nat.reduceEqDiff, Nat.reduceAdd, Nat.reduceMul, Nat.reduceSub, Nat.reduceLeDiff, Nat.reduceBEq, Nat.reduceDiv, Nat.reduceMod, Int.reduceToNat, Int.reduceLT, Int.reduceLE, Int.reduceAdd, Int.reduceSub, Int.reduceMul, Int.reduceEq, Int.reduceNeg, reduceCtorEq, resV, resAll, ARes.ev, LV.flat, ite_true, ite_false, exists_eq_left', exists_eq_left, keyOf, implies_true, fillC, capOf]
  refine callK_of (h_l2Top h.app hH) ?_
  simp (disch := omega) only [↓SXd, SXu, slBounds, ↓sop, ↓aop, ↓reduceIte, LV.cells, AOp.dst, LV.I, LV.B, LV.U, LV.S, LV.nil, Nat.reduceEqDiff, Nat.reduceAdd, Nat.reduceMul, Nat.reduceSub, Nat.reduceLeDiff, Nat.reduceBEq, Nat.reduceDiv, Nat.reduceMod, Int.reduceToNat, Int.reduceLT, Int.reduceLE, Int.reduceAdd, Int.reduceSub, Int.reduceMul, Int.reduceEq, Int.reduceNeg, reduceCtorEq, resV, resAll, ARes.ev, LV.flat, ite_true, ite_false, exists_eq_left', exists_eq_left, keyOf, implies_true, fillC, capOf]
  refine callK_of (h_l2Front h.app hH) ?_
  simp (disch := omega) only [↓SXd, SXu, slBounds, ↓sop, ↓aop, ↓reduceIte, LV.cells, AOp.dst, LV.I, LV.B, LV.U, LV.S, LV.nil, Nat.reduceEqDiff, Nat.reduceAdd, Nat.reduceMul, Nat.reduceSub, Nat.reduceLeDiff, Nat.reduceBEq, Nat.reduceDiv, Nat.reduceMod, Int.reduceToNat, Int.reduceLT, Int.reduceLE, Int.reduceAdd, Int.reduceSub, Int.reduceMul, Int.reduceEq, Int.reduceNeg, reduceCtorEq, resV, resAll, ARes.ev, LV.flat, ite_true, ite_false, exists_eq_left', exists_eq_left, keyOf, implies_true, fillC, capOf]
  refine callK_of (h_l2Side h.app hH) ?_
  simp (disch := omega) only [splice, ↓SXd, SXu, slBounds, ↓sop, ↓aop, ↓reduceIte, LV.cells, AOp.dst, LV.I, LV.B, LV.U, LV.S, LV.nil, Nat.reduceEqDiff, Nat.reduceAdd, Nat.reduceMul, Nat.reduceSub, Nat.reduceLeDiff, Nat.reduceBEq, Nat.reduceDiv, Nat.reduceMod, Int.reduceToNat, Int.reduceLT, Int.reduceLE, Int.reduceAdd, Int.reduceSub, Int.reduceMul, Int.reduceEq, Int.reduceNeg, reduceCtorEq, resV, resAll, ARes.ev, LV.flat, ite_true, ite_false, exists_eq_left', exists_eq_left, keyOf, implies_true, fillC, capOf]
  exact .inl ⟨_, M.length + 2, M.length + 3, M.length + 4, rfl, rfl, (Live.newj (j := 2) rfl : Live _ _ (.row (intL (shdOf x y z 2 cs)) true 1)).has, (Live.newj (j := 3) rfl : Live _ _ (.row (intL (shdOf x y z 1 cs)) true 1)).has, (Live.newj (j := 4) rfl : Live _ _ (.row (intL (shdOf x y z 0 cs)) true 1)).has, Pre.app _ _⟩
theorem g_TopHeightsG : CallsR PG F.impl_TopHeights [.agg [.I x, .I y, .I z, .ref t 0 cs.length]] M (IntsG M (tpsOf x y z cs) (decide (HeapOK x y z cs))) := by
  refine (g_TopHeights h hn).mono fun v N ⟨w, h1, h2, _, h4⟩ => ?_
  unfold topRes at h1 h2
  unfold tpsOf
  by_cases hH : HeapOK x y z cs
  · rw [if_pos hH] at h1 h2 ⊢
    rw [decide_eq_true hH]
    exact ⟨w, h1, h2.v, h4⟩
  · rw [if_neg hH] at h1 h2 ⊢
    rw [decide_eq_false hH]
    exact ⟨w, h1, h2.v, h4⟩
theorem h_sTopHeights : CallsR PG F.spec_TopHeights [.agg [.I x, .I y, .I z, .ref t 0 cs.length]] M (IntsG M (tpsOf x y z cs) (decide (HeapOK x y z cs))) := by
  unfold tpsOf
  refine callsR_run K.spec_TopHeights rfl ?_
  simp (disch := omega) only [C.spec_TopHeights, ↓SXd, SXu, slBounds, ↓sop, ↓aop, ↓reduceIte, LV.cells, AOp.dst, LV.I, LV.B, LV.U, LV.S, LV.nil, Nat.reduceEqDiff, Nat.reduceAdd, Nat.reduceMul, Nat.reduceSub, Nat.reduceLeDiff, Nat.reduceBEq, Nat.reduceDiv, Nat.reduceMod, Int.reduceToNat, Int.reduceLT, Int.reduceLE, Int.reduceAdd, Int.reduceSub, Int.reduceMul, Int.reduceEq, Int.reduceNeg, reduceCtorEq, resV, resAll, ARes.ev, LV.flat, ite_true, ite_false, exists_eq_left', exists_eq_left, keyOf, implies_true, fillC, capOf]
  refine callK_of (h_l2Heap h.app hn) ?_
  simp (disch := omega) only [↓SXd, SXu, slBounds, ↓sop, ↓aop, ↓reduceIte, LV.cells, AOp.dst, LV.I, LV.B, LV.U, LV.S, LV.nil, Nat.reduceEqDiff, Nat.reduceAdd, Nat.reduceMul, Nat.reduceSub, Nat.reduceLeDiff, Nat.reduceBEq, Nat.reduceDiv, Nat.reduceMod, Int.reduceToNat, Int.reduceLT, Int.reduceLE, Int.reduceAdd, Int.reduceSub, Int.reduceMul, Int.reduceEq, Int.reduceNeg, reduceCtorEq, resV, resAll, ARes.ev, LV.flat, ite_true, ite_false, exists_eq_left', exists_eq_left, keyOf, implies_true, fillC, capOf]
  by_cases hH : HeapOK x y z cs
  rotate_left
  · rw [if_neg hH, decide_eq_false hH]
    simp (disch := omega) only [↓SXd, SXu, slBounds, ↓sop, ↓aop, ↓reduceIte, LV.cells, AOp.dst, LV.I, LV.B, LV.U, LV.S, LV.nil, Nat.reduceEqDiff, Nat.reduceAdd, Nat.reduceMul, Nat.reduceSub, Nat.reduceLeDiff, Nat.reduceBEq, Nat.reduceDiv, Nat.reduceMod, Int.reduceToNat, Int.reduceLT, Int.reduceLE, Int.reduceAdd, Int.reduceSub, Int.reduceMul, Int.reduceEq, Int.reduceNeg, reduceCtorEq, resV, resAll, ARes.ev, LV.flat, ite_true, ite_false, exists_eq_left', exists_eq_left, keyOf, implies_true, fillC, capOf]
    exact ⟨_, rfl, .inr ⟨_, _, rfl, (Live.newj (j := 1) rfl : Live _ _ (.row (intL []) true 1)).has⟩, Pre.app _ _⟩
  rw [if_pos hH, decide_eq_true hH]
  have hl := topsOf_len x y cs
  simp (disch := omega) only [↓SXd, SXu, slBounds, ↓sop, ↓aop, ↓reduceIte, LV.cells, AOp.dst, LV.I, LV.B, LV.U, LV.S, LV.nil, Nat.reduceEqDiff, Nat.reduceAdd, Nat.reduceMul, Nat.reduceSub, Nat.reduceLeDiff, Nat.reduceBEq, Nat.reduceDiv, Nat.reduceMod, Int.reduceToNat, Int.reduceLT, Int.reduceLE, Int.reduceAdd, Int.reduceSub, Int.reduceMul, Int.reduceEq, Int.reduceNeg, reduceCtorEq, resV, resAll, ARes.ev, LV.flat, ite_true, ite_false, exists_eq_left', exists_eq_left, keyOf, implies_true, fillC, capOf]
  refine callK_of (h_l2Tops h.app hn hH) ?_
  simp (disch := omega) only [↓SXd, SXu, slBounds, ↓sop, ↓aop, ↓reduceIte, LV.cells, AOp.dst, LV.I, LV.B, LV.U, LV.S, LV.nil, Nat.reduceEqDiff, Nat.reduceAdd, Nat.reduceMul, Nat.reduceSub, Nat.reduceLeDiff, Nat.reduceBEq, Nat.reduceDiv, Nat.reduceMod, Int.reduceToNat, Int.reduceLT, Int.reduceLE, Int.reduceAdd, Int.reduceSub, Int.reduceMul, Int.reduceEq, Int.reduceNeg, reduceCtorEq, resV, resAll, ARes.ev, LV.flat, ite_true, ite_false, exists_eq_left', exists_eq_left, keyOf, implies_true, fillC, capOf]
  exact ⟨_, rfl, .inr ⟨_, _, by rw [hl], (Live.newj (j := 1) rfl : Live _ _ (.row (intL (topsOf x y cs)) true 1)).has⟩, Pre.app _ _⟩
end
end Go.Ab

/- The abstract code of some functions (written by a program of mine from the translation, by way of prepF). -/
namespace Go.Ab.C
open Go.Ab
def spec_l2Layer : AFn :=
 ⟨3, 59, [.tmp 6],
 .seq (.ops [(none, .box 3 (.t 0)),
 (none, .mv 6 (.c .nil))])
 (.seq (.ops [(none, .mv 15 (.t 1)),
 (none, .call (some 16) F.spec_l2Others [(.t 15)]),
 (none, .mv 14 (.t 16)),
 (none, .extract 17 (.t 14) 0),
 (none, .extract 18 (.t 14) 1),
 (none, .mv 7 (.t 17)),
 (none, .mv 8 (.t 18))])
 (.seq (.ops [(none, .buildSl 19 0 1 [] []),
 (none, .mv 9 (.t 19))])
 (.seq (.seq (.ops [(none, .mv 10 (.c (.I 0)))])
 (.block 0 (.loop (.seq (.seq (.ops [(none, .mv 20 (.t 10)),
 (none, .loadN 21 4 (.t 3)),
 (none, .mv 22 (.t 7)),
 (none, .call (some 23) F.spec_l2Long [(.t 21), (.t 22)]),
 (none, .bin 24 .lss (.t 20) (.t 23))])
 (.cond (.t 24) (.skip)
 (.exit 0)))
 (.seq (.block 1 (.seq (.ops [(none, .buildSl 27 0 1 [] []),
 (none, .mv 11 (.t 27))])
 (.seq (.seq (.ops [(none, .mv 12 (.c (.I 0)))])
 (.block 2 (.loop (.seq (.seq (.ops [(none, .mv 28 (.t 12)),
 (none, .loadN 29 4 (.t 3)),
 (none, .mv 30 (.t 8)),
 (none, .call (some 31) F.spec_l2Long [(.t 29), (.t 30)]),
 (none, .bin 32 .lss (.t 28) (.t 31))])
 (.cond (.t 32) (.skip)
 (.exit 2)))
 (.seq (.block 3 (.seq (.ops [(none, .build 35 [(.I 0), (.I 0), (.I 0)] []),
 (none, .alloc 13 [(.I 0), (.I 0), (.I 0)]),
 (none, .store 3 (.t 13) (.t 35))])
 (.seq (.ops [(none, .mv 36 (.t 1)),
 (none, .mv 37 (.t 2)),
 (none, .idxA 38 3 1 (.t 13) (.t 36)),
 (none, .store 1 (.t 38) (.t 37))])
 (.seq (.ops [(none, .mv 39 (.t 7)),
 (none, .mv 40 (.t 10)),
 (none, .idxA 41 3 1 (.t 13) (.t 39)),
 (none, .store 1 (.t 41) (.t 40))])
 (.seq (.ops [(none, .mv 42 (.t 8)),
 (none, .mv 43 (.t 12)),
 (none, .idxA 44 3 1 (.t 13) (.t 42)),
 (none, .store 1 (.t 44) (.t 43))])
 (.seq (.ops [(none, .loadN 45 4 (.t 3)),
 (none, .loadN 46 3 (.t 13)),
 (none, .call (some 47) F.spec_l2Has [(.t 45), (.t 46)])])
 (.cond (.t 47) (.ops [(none, .mv 48 (.t 11)),
 (none, .buildSl 49 1 1 [(.I 0)] [(0, 1, (.c (.I 1)))]),
 (none, .append 50 1 8 (.t 48) (.t 49)),
 (none, .mv 11 (.t 50))])
 (.ops [(none, .mv 51 (.t 11)),
 (none, .buildSl 52 1 1 [(.I 0)] [(0, 1, (.c (.I 0)))]),
 (none, .append 53 1 8 (.t 51) (.t 52)),
 (none, .mv 11 (.t 53))]))))))))
 (.ops [(none, .mv 33 (.t 12)),
 (none, .bin 34 .add (.t 33) (.c (.I 1))),
 (none, .mv 12 (.t 34))]))))))
 (.ops [(none, .mv 54 (.t 9)),
 (none, .mv 55 (.t 11)),
 (none, .buildSl 56 1 1 [.nil] [(0, 1, (.t 55))]),
 (none, .append 57 1 24 (.t 54) (.t 56)),
 (none, .mv 9 (.t 57))]))))
 (.ops [(none, .mv 25 (.t 10)),
 (none, .bin 26 .add (.t 25) (.c (.I 1))),
 (none, .mv 10 (.t 26))]))))))
 (.seq (.ops [(none, .mv 58 (.t 9)),
 (none, .mv 6 (.t 58))])
 (.ret)))))⟩
def spec_LayerOf : AFn :=
 ⟨3, 30, [.tmp 6, .tmp 7],
 .seq (.ops [(none, .box 3 (.t 0)),
 (none, .mv 6 (.c .nil)),
 (none, .mv 7 (.c (.B false)))])
 (.seq (.seq (.ops [(none, .loadN 8 4 (.t 3)),
 (none, .call (some 9) F.spec_l2Heap [(.t 8)]),
 (none, .un 10 .not (.t 9)),
 (none, .mv 11 (.t 10)),
 (some (11, false), .mv 12 (.t 1)),
 (some (11, false), .call (some 13) F.spec_l1In [(.t 12), (.c (.I 0)), (.c (.I 2))]),
 (some (11, false), .un 14 .not (.t 13)),
 (none, .pick 15 (.t 11) (.c (.B true)) (.t 14)),
 (none, .mv 16 (.t 15)),
 (some (16, false), .mv 17 (.t 2)),
 (some (16, false), .loadN 18 4 (.t 3)),
 (some (16, false), .mv 19 (.t 1)),
 (some (16, false), .call (some 20) F.spec_l2Long [(.t 18), (.t 19)]),
 (some (16, false), .bin 21 .sub (.t 20) (.c (.I 1))),
 (some (16, false), .call (some 22) F.spec_l1In [(.t 17), (.c (.I 0)), (.t 21)]),
 (some (16, false), .un 23 .not (.t 22)),
 (none, .pick 24 (.t 16) (.c (.B true)) (.t 23))])
 (.cond (.t 24) (.seq (.ops [(none, .buildSl 25 0 1 [] []),
 (none, .mv 6 (.t 25)),
 (none, .mv 7 (.c (.B false)))])
 (.ret))
 (.skip)))
 (.seq (.ops [(none, .loadN 26 4 (.t 3)),
 (none, .mv 27 (.t 1)),
 (none, .mv 28 (.t 2)),
 (none, .call (some 29) F.spec_l2Layer [(.t 26), (.t 27), (.t 28)]),
 (none, .mv 6 (.t 29)),
 (none, .mv 7 (.c (.B true)))])
 (.ret)))⟩
def impl_LayerOf : AFn :=
 ⟨3, 79, [.tmp 6, .tmp 7],
 .seq (.ops [(none, .box 3 (.t 0)),
 (none, .mv 6 (.c .nil)),
 (none, .mv 7 (.c (.B false)))])
 (.seq (.seq (.ops [(none, .loadN 16 4 (.t 3)),
 (none, .call (some 17) F.impl_IsHeap [(.t 16)]),
 (none, .un 18 .not (.t 17)),
 (none, .mv 19 (.t 18)),
 (some (19, false), .mv 20 (.t 1)),
 (some (19, false), .call (some 21) F.impl_isDirection [(.t 20)]),
 (some (19, false), .un 22 .not (.t 21)),
 (none, .pick 23 (.t 19) (.c (.B true)) (.t 22)),
 (none, .mv 24 (.t 23)),
 (some (24, false), .mv 25 (.t 2)),
 (some (24, false), .loadN 26 4 (.t 3)),
 (some (24, false), .call (some 27) F.impl_Heap_box [(.t 26)]),
 (some (24, false), .mv 28 (.t 1)),
 (some (24, false), .index 29 3 1 false (.t 27) (.t 28)),
 (some (24, false), .bin 30 .sub (.t 29) (.c (.I 1))),
 (some (24, false), .call (some 31) F.impl_within [(.t 25), (.c (.I 0)), (.t 30)]),
 (some (24, false), .un 32 .not (.t 31)),
 (none, .pick 33 (.t 24) (.c (.B true)) (.t 32))])
 (.cond (.t 33) (.seq (.ops [(none, .mv 6 (.c .nil)),
 (none, .mv 7 (.c (.B false)))])
 (.ret))
 (.skip)))
 (.seq (.ops [(none, .mv 35 (.t 1)),
 (none, .call (some 36) F.impl_others [(.t 35)]),
 (none, .mv 34 (.t 36)),
 (none, .extract 37 (.t 34) 0),
 (none, .extract 38 (.t 34) 1),
 (none, .mv 8 (.t 37)),
 (none, .mv 9 (.t 38))])
 (.seq (.ops [(none, .buildSl 39 0 1 [] []),
 (none, .mv 10 (.t 39))])
 (.seq (.seq (.ops [(none, .loadN 40 4 (.t 3)),
 (none, .call (some 41) F.impl_Heap_box [(.t 40)]),
 (none, .mv 42 (.t 8)),
 (none, .index 43 3 1 false (.t 41) (.t 42)),
 (none, .mv 44 (.c (.I 0)))])
 (.block 0 (.loop (.seq (.ops [(none, .bin 45 .lss (.t 44) (.t 43))])
 (.seq (.cond (.t 45) (.skip)
 (.exit 0))
 (.seq (.block 1 (.seq (.ops [(none, .mv 46 (.t 44)),
 (none, .mv 11 (.t 46))])
 (.seq (.ops [(none, .buildSl 47 0 1 [] []),
 (none, .mv 12 (.t 47))])
 (.seq (.seq (.ops [(none, .loadN 48 4 (.t 3)),
 (none, .call (some 49) F.impl_Heap_box [(.t 48)]),
 (none, .mv 50 (.t 9)),
 (none, .index 51 3 1 false (.t 49) (.t 50)),
 (none, .mv 52 (.c (.I 0)))])
 (.block 2 (.loop (.seq (.ops [(none, .bin 53 .lss (.t 52) (.t 51))])
 (.seq (.cond (.t 53) (.skip)
 (.exit 2))
 (.seq (.block 3 (.seq (.ops [(none, .mv 54 (.t 52)),
 (none, .mv 13 (.t 54))])
 (.seq (.ops [(none, .build 55 [(.I 0), (.I 0), (.I 0)] []),
 (none, .alloc 14 [(.I 0), (.I 0), (.I 0)]),
 (none, .store 3 (.t 14) (.t 55))])
 (.seq (.ops [(none, .mv 56 (.t 1)),
 (none, .mv 57 (.t 8)),
 (none, .mv 58 (.t 9)),
 (none, .mv 59 (.t 2)),
 (none, .mv 60 (.t 11)),
 (none, .mv 61 (.t 13)),
 (none, .idxA 62 3 1 (.t 14) (.t 56)),
 (none, .store 1 (.t 62) (.t 59)),
 (none, .idxA 63 3 1 (.t 14) (.t 57)),
 (none, .store 1 (.t 63) (.t 60)),
 (none, .idxA 64 3 1 (.t 14) (.t 58)),
 (none, .store 1 (.t 64) (.t 61))])
 (.seq (.ops [(none, .mv 15 (.c (.I 0)))])
 (.seq (.seq (.ops [(none, .loadN 65 4 (.t 3)),
 (none, .loadN 66 3 (.t 14)),
 (none, .call (some 67) F.impl_Heap_hasCube [(.t 65), (.t 66)])])
 (.cond (.t 67) (.ops [(none, .mv 15 (.c (.I 1)))])
 (.skip)))
 (.ops [(none, .mv 68 (.t 12)),
 (none, .mv 69 (.t 15)),
 (none, .buildSl 70 1 1 [(.I 0)] [(0, 1, (.t 69))]),
 (none, .append 71 1 8 (.t 68) (.t 70)),
 (none, .mv 12 (.t 71))])))))))
 (.ops [(none, .bin 72 .add (.t 52) (.c (.I 1))),
 (none, .mv 52 (.t 72))])))))))
 (.ops [(none, .mv 73 (.t 10)),
 (none, .mv 74 (.t 12)),
 (none, .buildSl 75 1 1 [.nil] [(0, 1, (.t 74))]),
 (none, .append 76 1 24 (.t 73) (.t 75)),
 (none, .mv 10 (.t 76))])))))
 (.ops [(none, .bin 77 .add (.t 44) (.c (.I 1))),
 (none, .mv 44 (.t 77))])))))))
 (.seq (.ops [(none, .mv 78 (.t 10)),
 (none, .mv 6 (.t 78)),
 (none, .mv 7 (.c (.B true)))])
 (.ret))))))⟩
end Go.Ab.C

/- That the program has this code. -/
namespace Go.Ab.K
open Go Go.Ab
theorem spec_l2Layer : prepF Go.Proofs.Try.prog F.spec_l2Layer = some C.spec_l2Layer := by kernel_rfl
theorem spec_LayerOf : prepF Go.Proofs.Try.prog F.spec_LayerOf = some C.spec_LayerOf := by kernel_rfl
theorem impl_LayerOf : prepF Go.Proofs.Try.prog F.impl_LayerOf = some C.impl_LayerOf := by kernel_rfl
end Go.Ab.K

/- The abstract code of some functions (written by a program of mine from the translation, by way of prepF). -/
namespace Go.Ab.C
open Go.Ab
def laws_rTable : AFn :=
 ⟨2, 27, [.tmp 4],
 .seq (.ops [(none, .mv 4 (.c (.B false)))])
 (.seq (.seq (.ops [(none, .mv 6 (.t 0)),
 (none, .len 7 (.t 6)),
 (none, .mv 8 (.t 1)),
 (none, .len 9 (.t 8)),
 (none, .bin 10 .neq (.t 7) (.t 9))])
 (.cond (.t 10) (.seq (.ops [(none, .mv 4 (.c (.B false)))])
 (.ret))
 (.skip)))
 (.seq (.seq (.ops [(none, .mv 5 (.c (.I 0)))])
 (.block 0 (.loop (.seq (.seq (.ops [(none, .mv 11 (.t 5)),
 (none, .mv 12 (.t 0)),
 (none, .len 13 (.t 12)),
 (none, .bin 14 .lss (.t 11) (.t 13))])
 (.cond (.t 14) (.skip)
 (.exit 0)))
 (.seq (.block 1 (.seq (.draw [⟨(none, .mv 17 (.t 0)), [], []⟩,
 ⟨(none, .mv 18 (.t 5)), [], []⟩,
 ⟨(none, .idxS 19 1 (.t 17) (.t 18)), [], []⟩,
 ⟨(none, .load1 20 (.t 19)), [], []⟩,
 ⟨(none, .mv 21 (.t 1)), [], []⟩,
 ⟨(none, .mv 22 (.t 5)), [], []⟩,
 ⟨(none, .idxS 23 1 (.t 21) (.t 22)), [], []⟩,
 ⟨(none, .load1 24 (.t 23)), [], []⟩,
 ⟨(none, .call (some 25) F.laws_rInts [(.t 20), (.t 24)]), [], []⟩,
 ⟨(none, .un 26 .not (.t 25)), [], []⟩])
 (.cond (.t 26) (.seq (.ops [(none, .mv 4 (.c (.B false)))])
 (.ret))
 (.skip))))
 (.ops [(none, .mv 15 (.t 5)),
 (none, .bin 16 .add (.t 15) (.c (.I 1))),
 (none, .mv 5 (.t 16))]))))))
 (.seq (.ops [(none, .mv 4 (.c (.B true)))])
 (.ret))))⟩
end Go.Ab.C

/- That the program has this code. -/
namespace Go.Ab.K
open Go Go.Ab
theorem laws_rTable : prepF Go.Proofs.Try.prog F.laws_rTable = some C.laws_rTable := by kernel_rfl
end Go.Ab.K

/- Tables: lists of lists of numbers in memory; how they grow; the law's comparison. -/
namespace Go.Ab
open Go
set_option linter.unusedSimpArgs false
set_option linter.unusedVariables false
set_option maxRecDepth 20000

/-- A table that is one's own: its blocks lie before b. -/
def TabO (N : Mem) (t : Nat) (L : List (List Int)) (b : Nat) : Prop := ∃ refs : List LV, Live N t (.row refs true 1) ∧ refs.length = L.length ∧ t < b ∧ ∀ i, i < L.length → ∃ u, u < b ∧ u ≠ t ∧ refs[i]? = some (.ref u 0 (L.getD i []).length) ∧ Live N u (.row (intL (L.getD i [])) true 1)
theorem TabO.pre {N N' : Mem} {t : Nat} {L : List (List Int)} {b : Nat} (h : TabO N t L b) (hp : Pre N N') : TabO N' t L b := by
  obtain ⟨refs, h1, h2, h3, h4⟩ := h
  exact ⟨refs, h1.pre hp, h2, h3, fun i hi => by obtain ⟨u, q1, q2, q3, q4⟩ := h4 i hi; exact ⟨u, q1, q2, q3, q4.pre hp⟩⟩
theorem TabO.up {N : Mem} {t : Nat} {L : List (List Int)} {b b' : Nat} (h : TabO N t L b) (hb : b ≤ b') : TabO N t L b' := by
  obtain ⟨refs, h1, h2, h3, h4⟩ := h
  exact ⟨refs, h1, h2, by omega, fun i hi => by obtain ⟨u, q1, q2, q3, q4⟩ := h4 i hi; exact ⟨u, by omega, q2, q3, q4⟩⟩
theorem TabO.nil {N : Mem} {t : Nat} (h : Live N t (.row [] true 1)) : TabO N t [] N.length := ⟨[], h, rfl, h.lt, fun i hi => by simp at hi⟩
/-- A row goes behind a table. -/
theorem appendK_tab {M0 N0 N : Mem} {t r : Nat} {L : List (List Int)} {l : List Int} {A : LV → Mem → Prop} (h : TabO N0 t L N0.length) (hp : Pre N0 N) (hr : Live N r (.row (intL l) true 1)) (hr0 : N0.length ≤ r) (hl : L.length ≤ 1000) (hM : Pre M0 N) (ht : M0.length ≤ t)
    (hA : ∀ u M', TabO M' u (L ++ [l]) M'.length → Pre M0 M' → (u = t ∨ N.length ≤ u) → (∀ w, w ≠ t → w < N.length → M'[w]? = N[w]?) → N.length ≤ M'.length → A (.ref u 0 (L ++ [l]).length) M') :
    appendK 1 24 (.ref t 0 L.length) (.ref N.length 0 1) (N ++ [some (.row [.ref r 0 l.length] true 1)]) A := by
  obtain ⟨refs, h1, h2, h3, h4⟩ := h
  have hN := hp.1
  have hrl := hr.lt
  refine appendK_list (acc := refs) (new := [.ref r 0 l.length]) (h1.pre (hp.trans (Pre.app _ _))) (by omega) (Live.new (b := .row [.ref r 0 l.length] true 1)).has (by simp) (by omega) (by omega) fun u M' k1 k2 k3 k4 => ?_
  rw [List.length_append, List.length_singleton] at k1 k3 k4
  have hu : u ≠ r := by rcases k3 with e | e <;> omega
  have hold : ∀ w, w ≠ t → w < N.length → M'[w]? = N[w]? := fun w hw hwl => by
    rw [k4 w hw (by omega)]; exact List.getElem?_append_left hwl
  have e : L.length + 1 = (L ++ [l]).length := by simp
  rw [e]
  refine hA u M' ⟨refs ++ [.ref r 0 l.length], k2, by simp [h2], k2.lt, fun i hi => ?_⟩ ?_ ?_ hold (by omega)
  · rw [List.length_append, List.length_singleton] at hi
    by_cases hi2 : i < L.length
    · obtain ⟨v, q1, q2, q3, q4⟩ := h4 i hi2
      have hg : (L ++ [l]).getD i [] = L.getD i [] := by simp only [List.getD_eq_getElem?_getD]; rw [List.getElem?_append_left hi2]
      rw [hg]
      refine ⟨v, by omega, by rcases k3 with e | e <;> omega, by rw [List.getElem?_append_left (by omega)]; exact q3, ?_⟩
      have := q4.pre hp
      unfold Live at this ⊢
      rw [hold v q2 (by omega)]; exact this
    · have : i = L.length := by omega
      subst this
      have hg : (L ++ [l]).getD L.length [] = l := by simp
      rw [hg]
      refine ⟨r, by omega, fun e => hu e.symm, by rw [← h2, List.getElem?_concat_length], ?_⟩
      unfold Live at hr ⊢
      rw [hold r (by omega) hrl]; exact hr
  · exact ⟨by have := hM.1; omega, fun w hw => by rw [hold w (by omega) (Nat.lt_of_lt_of_le hw hM.1)]; exact hM.2 w hw⟩
  · rcases k3 with e | e
    · exact .inl e
    · exact .inr (by omega)
/-- A table that may be read. -/
def TabV (N : Mem) (v : LV) (L : List (List Int)) : Prop := (v = .nil ∧ L = []) ∨ ∃ (t : Nat) (refs : List LV), v = .ref t 0 L.length ∧ Live N t (.row refs true 1) ∧ refs.length = L.length ∧ ∀ i, i < L.length → ∃ u : Nat, refs[i]? = some (.ref u 0 (L.getD i []).length) ∧ Ints N u 0 (L.getD i [])
theorem TabO.v {N : Mem} {t : Nat} {L : List (List Int)} {b : Nat} (h : TabO N t L b) : TabV N (.ref t 0 L.length) L := by
  obtain ⟨refs, h1, h2, h3, h4⟩ := h
  exact .inr ⟨t, refs, rfl, h1, h2, fun i hi => by obtain ⟨u, q1, q2, q3, q4⟩ := h4 i hi; exact ⟨u, q3, q4.has⟩⟩
theorem TabV.pre {N N' : Mem} {v : LV} {L : List (List Int)} (h : TabV N v L) (hp : Pre N N') : TabV N' v L := by
  rcases h with h | ⟨t, refs, h1, h2, h3, h4⟩
  · exact .inl h
  · exact .inr ⟨t, refs, h1, h2.pre hp, h3, fun i hi => by obtain ⟨u, q3, q4⟩ := h4 i hi; exact ⟨u, q3, q4.pre hp⟩⟩
theorem TabV.lenV {N : Mem} {v : LV} {L : List (List Int)} (h : TabV N v L) : lenV v = some (L.length : Int) := by
  rcases h with ⟨rfl, rfl⟩ | ⟨t, refs, rfl, _⟩ <;> rfl
theorem TabV.at {N : Mem} {v : LV} {L : List (List Int)} {i : Nat} (h : TabV N v L) (hi : i < L.length) : ∃ t u : Nat, v = .ref t 0 L.length ∧ getCell N t i = some (.ref u 0 (L.getD i []).length) ∧ Ints N u 0 (L.getD i []) := by
  rcases h with ⟨_, rfl⟩ | ⟨t, refs, rfl, h2, h3, h4⟩
  · simp at hi
  · obtain ⟨u, q3, q4⟩ := h4 i hi
    refine ⟨t, u, rfl, ?_, q4⟩
    rw [← q3]
    exact h2.cell
theorem k_rTable {L : List (List Int)} {v v' : LV} {M : Mem} (h : TabV M v L) (h' : TabV M v' L) (hn : L.length ≤ 1000) (hr : ∀ l ∈ L, l.length ≤ 1000) : CallsTo PG F.laws_rTable [v, v'] M (.B true) M := by
  have hv := h.lenV
  have hv' := h'.lenV
  refine calls_run K.laws_rTable rfl ?_
  simp (disch := omega) only [C.laws_rTable, hv, hv', ↓SXd, SXu, slBounds, ↓sop, ↓aop, ↓reduceIte, LV.cells, AOp.dst, LV.I, LV.B, LV.U, LV.S, LV.nil, Nat.reduceEqDiff, Nat.reduceAdd, Nat.reduceMul, Nat.reduceSub, Nat.reduceLeDiff, Nat.reduceBEq, Nat.reduceDiv, Nat.reduceMod, Int.reduceToNat, Int.reduceLT, Int.reduceLE, Int.reduceAdd, Int.reduceSub, Int.reduceMul, Int.reduceEq, Int.reduceNeg, reduceCtorEq, resV, resAll, ARes.ev, LV.flat, ite_true, ite_false, exists_eq_left', exists_eq_left, keyOf, implies_true, fillC, capOf]
  refine ev_loop (fun m fr M' => ∃ k : Nat, k + m = L.length ∧ M' = M ∧ fr 0 = v ∧ fr 1 = v' ∧ fr 5 = .I k) L.length ⟨0, by omega, rfl, rfl, rfl, rfl⟩ ?_
  rintro m fr M' ⟨k, hk, rfl, f0, f1, f5⟩
  simp (disch := omega) only [f0, f1, f5, hv, ↓SXd, SXu, slBounds, ↓sop, ↓aop, ↓reduceIte, LV.cells, AOp.dst, LV.I, LV.B, LV.U, LV.S, LV.nil, Nat.reduceEqDiff, Nat.reduceAdd, Nat.reduceMul, Nat.reduceSub, Nat.reduceLeDiff, Nat.reduceBEq, Nat.reduceDiv, Nat.reduceMod, Int.reduceToNat, Int.reduceLT, Int.reduceLE, Int.reduceAdd, Int.reduceSub, Int.reduceMul, Int.reduceEq, Int.reduceNeg, reduceCtorEq, resV, resAll, ARes.ev, LV.flat, ite_true, ite_false, exists_eq_left', exists_eq_left, keyOf, implies_true, fillC, capOf]
  refine condC_dec (fun hlt => ?_) (fun hlt => ?_)
  · have hkl : k < L.length := by omega
    obtain ⟨t, u, rfl, hg, hi⟩ := h.at hkl
    obtain ⟨t', u', rfl, hg', hi'⟩ := h'.at hkl
    have hll := hr _ (getD_mem' (d := []) hkl)
    simp (disch := omega) only [f0, f1, f5, hg, hg', Nat.mul_one, Nat.zero_add, ↓SXd, SXu, slBounds, ↓sop, ↓aop, ↓reduceIte, LV.cells, AOp.dst, LV.I, LV.B, LV.U, LV.S, LV.nil, Nat.reduceEqDiff, Nat.reduceAdd, Nat.reduceMul, Nat.reduceSub, Nat.reduceLeDiff, Nat.reduceBEq, Nat.reduceDiv, Nat.reduceMod, Int.reduceToNat, Int.reduceLT, Int.reduceLE, Int.reduceAdd, Int.reduceSub, Int.reduceMul, Int.reduceEq, Int.reduceNeg, reduceCtorEq, resV, resAll, ARes.ev, LV.flat, ite_true, ite_false, exists_eq_left', exists_eq_left, keyOf, implies_true, fillC, capOf]
    refine callK_of (k_rInts (.inr ⟨_, _, rfl, hi⟩) (.inr ⟨_, _, rfl, hi'⟩) (by omega)) ?_
    simp (disch := omega) only [f0, f1, f5, Bool.not_true, ↓SXd, SXu, slBounds, ↓sop, ↓aop, ↓reduceIte, LV.cells, AOp.dst, LV.I, LV.B, LV.U, LV.S, LV.nil, Nat.reduceEqDiff, Nat.reduceAdd, Nat.reduceMul, Nat.reduceSub, Nat.reduceLeDiff, Nat.reduceBEq, Nat.reduceDiv, Nat.reduceMod, Int.reduceToNat, Int.reduceLT, Int.reduceLE, Int.reduceAdd, Int.reduceSub, Int.reduceMul, Int.reduceEq, Int.reduceNeg, reduceCtorEq, resV, resAll, ARes.ev, LV.flat, ite_true, ite_false, exists_eq_left', exists_eq_left, keyOf, implies_true, fillC, capOf]
    exact ⟨m - 1, by omega, k + 1, by omega, rfl, f0, f1, eqI (natI _)⟩
  · simp (disch := omega) only [f0, f1, f5, ↓SXd, SXu, slBounds, ↓sop, ↓aop, ↓reduceIte, LV.cells, AOp.dst, LV.I, LV.B, LV.U, LV.S, LV.nil, Nat.reduceEqDiff, Nat.reduceAdd, Nat.reduceMul, Nat.reduceSub, Nat.reduceLeDiff, Nat.reduceBEq, Nat.reduceDiv, Nat.reduceMod, Int.reduceToNat, Int.reduceLT, Int.reduceLE, Int.reduceAdd, Int.reduceSub, Int.reduceMul, Int.reduceEq, Int.reduceNeg, reduceCtorEq, resV, resAll, ARes.ev, LV.flat, ite_true, ite_false, exists_eq_left', exists_eq_left, keyOf, implies_true, fillC, capOf]
    exact cmp_drop0 rfl
end Go.Ab

/- Contracts: layers as tables, both sides; the sum of a layer. -/
namespace Go.Ab
open Go
set_option linter.unusedSimpArgs false
set_option linter.unusedVariables false
set_option maxRecDepth 20000

def lyrC (d : Nat) (k i j : Int) : Cell := if d = 0 then ⟨k, i, j⟩ else if d = 1 then ⟨i, k, j⟩ else ⟨i, j, k⟩
def dirA (d : Nat) : Int := if d = 0 then 1 else 0
def dirB (d : Nat) : Int := if d = 2 then 1 else 2
def lyrV (d : Nat) (k : Int) (cs : List Cell) (i j : Nat) : Int := if lyrC d k i j ∈ cs then 1 else 0
def lyrR (x y z : Int) (d : Nat) (k : Int) (cs : List Cell) (i : Nat) (n : Nat) : List Int := (List.range n).map fun j => lyrV d k cs i j
def lyrT (x y z : Int) (d : Nat) (k : Int) (cs : List Cell) (m : Nat) : List (List Int) := (List.range m).map fun i => lyrR x y z d k cs i (sideOf x y z (dirB d)).toNat
section
variable {x y z : Int} {d : Nat} {k : Int} {cs : List Cell}
theorem lyrR_succ {i n : Nat} : lyrR x y z d k cs i (n + 1) = lyrR x y z d k cs i n ++ [lyrV d k cs i n] := by simp [lyrR, List.range_succ]
theorem lyrR_len {i n : Nat} : (lyrR x y z d k cs i n).length = n := by simp [lyrR]
theorem lyrT_succ {m : Nat} : lyrT x y z d k cs (m + 1) = lyrT x y z d k cs m ++ [lyrR x y z d k cs m (sideOf x y z (dirB d)).toNat] := by simp [lyrT, List.range_succ]
theorem lyrT_len {m : Nat} : (lyrT x y z d k cs m).length = m := by simp [lyrT]
theorem lyr_row {i j : Int} (hd : d < 3) : (([LV.I 0, .I 0, .I 0].set d (.I k)).set (dirA d).toNat (.I i)).set (dirB d).toNat (.I j) = [.I (lyrC d k i j).a, .I (lyrC d k i j).b, .I (lyrC d k i j).c] := by
  rcases (show d = 0 ∨ d = 1 ∨ d = 2 by omega) with rfl | rfl | rfl <;> rfl
theorem litSum_append {l l' : List Int} : litSum (l ++ l') = litSum l + litSum l' := by
  induction l with
  | nil => simp [litSum]
  | cons a l ih => simp only [List.cons_append, litSum, ih]; omega
/-- The sum of all rows. -/
def tabSum (L : List (List Int)) : Int := litSum (L.map litSum)
theorem lyrR_sum {i n : Nat} : litSum (lyrR x y z d k cs i n) = (((List.range n).filter fun (j : Nat) => decide (lyrC d k i j ∈ cs)).length : Nat) := by
  induction n with
  | zero => rfl
  | succ n ih =>
    rw [lyrR_succ, litSum_append, ih, List.range_succ, List.filter_append, List.length_append]
    unfold lyrV
    by_cases h : lyrC d k i n ∈ cs
    · simp [h, litSum]
    · simp [h, litSum]
theorem lyr_in (hS : Sides x y z) (hd : d < 3) (hk : 0 ≤ k ∧ k < sideOf x y z (d : Nat)) {c : Cell} : (c.inBox x y z ∧ c.at (d : Nat) = k) ↔ ∃ i j : Nat, (i < (sideOf x y z (dirA d)).toNat ∧ j < (sideOf x y z (dirB d)).toNat) ∧ c = lyrC d k i j := by
  obtain ⟨⟨_, _⟩, ⟨_, _⟩, ⟨_, _⟩⟩ := id hS
  obtain ⟨a, b, e⟩ := c
  rcases (show d = 0 ∨ d = 1 ∨ d = 2 by omega) with rfl | rfl | rfl
  · constructor
    · rintro ⟨⟨⟨h1, h2⟩, ⟨h3, h4⟩, h5, h6⟩, h7⟩
      simp only [Cell.at, sideOf, dirA, dirB] at *
      refine ⟨b.toNat, e.toNat, ⟨by simp; omega, by simp; omega⟩, ?_⟩
      simp only [lyrC, if_true, cell_eq]
      simp at h7
      omega
    · rintro ⟨i, j, ⟨h1, h2⟩, h3⟩
      simp [lyrC, cell_eq] at h3
      simp [sideOf, dirA, dirB] at h1 h2 hk
      obtain ⟨rfl, rfl, rfl⟩ := h3
      simp [Cell.inBox, Cell.at]
      omega
  · constructor
    · rintro ⟨⟨⟨h1, h2⟩, ⟨h3, h4⟩, h5, h6⟩, h7⟩
      simp only [Cell.at, sideOf, dirA, dirB] at *
      refine ⟨a.toNat, e.toNat, ⟨by simp; omega, by simp; omega⟩, ?_⟩
      simp [lyrC, cell_eq]
      simp at h7
      omega
    · rintro ⟨i, j, ⟨h1, h2⟩, h3⟩
      simp [lyrC, cell_eq] at h3
      simp [sideOf, dirA, dirB] at h1 h2 hk
      obtain ⟨rfl, rfl, rfl⟩ := h3
      simp [Cell.inBox, Cell.at]
      omega
  · constructor
    · rintro ⟨⟨⟨h1, h2⟩, ⟨h3, h4⟩, h5, h6⟩, h7⟩
      simp only [Cell.at, sideOf, dirA, dirB] at *
      refine ⟨a.toNat, b.toNat, ⟨by simp; omega, by simp; omega⟩, ?_⟩
      simp [lyrC, cell_eq]
      simp at h7
      omega
    · rintro ⟨i, j, ⟨h1, h2⟩, h3⟩
      simp [lyrC, cell_eq] at h3
      simp [sideOf, dirA, dirB] at h1 h2 hk
      obtain ⟨rfl, rfl, rfl⟩ := h3
      simp [Cell.inBox, Cell.at]
      omega
theorem lyr_inj (hd : d < 3) {i j i' j' : Nat} (h : lyrC d k i j = lyrC d k i' j') : i = i' ∧ j = j' := by
  rcases (show d = 0 ∨ d = 1 ∨ d = 2 by omega) with rfl | rfl | rfl <;> simp [lyrC, cell_eq] at h <;> omega
/-- The sum of a layer is the number of its cubes. -/
theorem lyr_sum (hH : HeapOK x y z cs) (hd : d < 3) (hk : 0 ≤ k ∧ k < sideOf x y z (d : Nat)) : tabSum (lyrT x y z d k cs (sideOf x y z (dirA d)).toNat) = (cs.countP fun c => decide (c.at (d : Nat) = k) : Nat) := by
  have e1 : ∀ m : Nat, tabSum (lyrT x y z d k cs m) = (((List.range m).flatMap fun (i : Nat) => ((List.range (sideOf x y z (dirB d)).toNat).filter fun (j : Nat) => decide (lyrC d k i j ∈ cs)).map fun (j : Nat) => lyrC d k i j).length : Nat) := fun m => by
    induction m with
    | zero => rfl
    | succ m ih =>
      rw [lyrT_succ, List.range_succ, List.flatMap_append, List.length_append, List.flatMap_singleton, List.length_map]
      unfold tabSum at *
      rw [List.map_append, litSum_append, ih, List.map_singleton]
      simp only [litSum]
      rw [lyrR_sum]
      omega
  rw [e1, List.countP_eq_length_filter]
  refine congrArg Int.ofNat (List.Perm.length_eq ((List.perm_ext_iff_of_nodup ?_ (hH.nodup.filter _)).2 fun c => ?_))
  · unfold List.Nodup
    rw [List.pairwise_flatMap]
    refine ⟨fun i _ => ?_, List.nodup_range.imp fun {a b} hab u hu v hv e => ?_⟩
    · rw [List.pairwise_map]
      exact (List.nodup_range.filter _).imp fun {a b} hab e => hab (lyr_inj hd e).2
    · obtain ⟨j, _, rfl⟩ := List.mem_map.1 hu
      obtain ⟨j', _, rfl⟩ := List.mem_map.1 hv
      exact hab (lyr_inj hd e).1
  · rw [List.mem_flatMap, List.mem_filter, decide_eq_true_iff]
    constructor
    · rintro ⟨i, hi, hj⟩
      obtain ⟨j, hjm, rfl⟩ := List.mem_map.1 hj
      obtain ⟨h1, h2⟩ := List.mem_filter.1 hjm
      have h3 := of_decide_eq_true h2
      exact ⟨h3, ((lyr_in hH.1 hd hk).2 ⟨i, j, ⟨List.mem_range.1 hi, List.mem_range.1 h1⟩, rfl⟩).2⟩
    · rintro ⟨h1, h2⟩
      obtain ⟨i, j, ⟨h3, h4⟩, rfl⟩ := (lyr_in hH.1 hd hk).1 ⟨hH.mem h1, h2⟩
      exact ⟨i, List.mem_range.2 h3, List.mem_map.2 ⟨j, List.mem_filter.2 ⟨List.mem_range.2 h4, decide_eq_true h1⟩, rfl⟩⟩
end
/-- What LayerOf answers. -/
def LyrOK (x y z : Int) (cs : List Cell) (d k : Int) : Prop := HeapOK x y z cs ∧ Dir d ∧ 0 ≤ k ∧ k < sideOf x y z d
noncomputable instance (x y z : Int) (cs : List Cell) (d k : Int) : Decidable (LyrOK x y z cs d k) := Classical.propDecidable _
noncomputable def lyrOf (x y z : Int) (cs : List Cell) (d k : Int) : List (List Int) := if LyrOK x y z cs d k then lyrT x y z d.toNat k cs (sideOf x y z (dirA d.toNat)).toNat else []
noncomputable def lyrB (x y z : Int) (cs : List Cell) (d k : Int) : Bool := decide (LyrOK x y z cs d k)
def TabG (M : Mem) (L : List (List Int)) (b : Bool) (v : LV) (N : Mem) : Prop := ∃ w, v = .tup [w, .B b] ∧ TabV N w L ∧ Pre M N
section
variable {x y z : Int} {t : Nat} {cs : List Cell} {M : Mem} (h : Tri M t 0 cs)
include h
theorem h_l2Layer {d : Nat} {k : Int} (hH : HeapOK x y z cs) (hd : d < 3) (hk : 0 ≤ k ∧ k < sideOf x y z (d : Nat)) : CallsR PG F.spec_l2Layer [.agg [.I x, .I y, .I z, .ref t 0 cs.length], .I d, .I k] M fun v N => ∃ u : Nat, v = .ref u 0 (lyrT x y z d k cs (sideOf x y z (dirA d)).toNat).length ∧ TabV N (.ref u 0 (lyrT x y z d k cs (sideOf x y z (dirA d)).toNat).length) (lyrT x y z d k cs (sideOf x y z (dirA d)).toNat) ∧ Pre M N := by
  have hS := hH.1
  have hlen := hH.len
  have hda : Dir (dirA d) := by unfold dirA Dir; split <;> omega
  have hdb : Dir (dirB d) := by unfold dirB Dir; split <;> omega
  have hrA : 0 ≤ dirA d ∧ dirA d < 3 := by unfold dirA; split <;> omega
  have hrB : 0 ≤ dirB d ∧ dirB d < 3 := by unfold dirB; split <;> omega
  have hlr := fun (i j : Int) => lyr_row (k := k) (i := i) (j := j) hd
  refine callsR_run K.spec_l2Layer rfl ?_
  simp (disch := omega) only [C.spec_l2Layer, ↓SXd, SXu, slBounds, ↓sop, ↓aop, ↓reduceIte, LV.cells, AOp.dst, LV.I, LV.B, LV.U, LV.S, LV.nil, Nat.reduceEqDiff, Nat.reduceAdd, Nat.reduceMul, Nat.reduceSub, Nat.reduceLeDiff, Nat.reduceBEq, Nat.reduceDiv, Nat.reduceMod, Int.reduceToNat, Int.reduceLT, Int.reduceLE, Int.reduceAdd, Int.reduceSub, Int.reduceMul, Int.reduceEq, Int.reduceNeg, reduceCtorEq, resV, resAll, ARes.ev, LV.flat, ite_true, ite_false, exists_eq_left', exists_eq_left, keyOf, implies_true, fillC, capOf]
  refine callK_of (h_l2Others hd) ?_
  change putK _ _ _ (.tup [.I (dirA d), .I (dirB d)]) _
  simp (disch := omega) only [↓SXd, SXu, slBounds, ↓sop, ↓aop, ↓reduceIte, LV.cells, AOp.dst, LV.I, LV.B, LV.U, LV.S, LV.nil, Nat.reduceEqDiff, Nat.reduceAdd, Nat.reduceMul, Nat.reduceSub, Nat.reduceLeDiff, Nat.reduceBEq, Nat.reduceDiv, Nat.reduceMod, Int.reduceToNat, Int.reduceLT, Int.reduceLE, Int.reduceAdd, Int.reduceSub, Int.reduceMul, Int.reduceEq, Int.reduceNeg, reduceCtorEq, resV, resAll, ARes.ev, LV.flat, ite_true, ite_false, exists_eq_left', exists_eq_left, keyOf, implies_true, fillC, capOf]
  have sA := sideOf_in hS (dirA d)
  have sB := sideOf_in hS (dirB d)
  refine ev_loop (fun m fr M' => ∃ (i : Nat) (u : Nat), i + m = (sideOf x y z (dirA d)).toNat ∧ Pre M M' ∧ M.length + 1 ≤ M'.length ∧ Live M' M.length (.row [.I x, .I y, .I z, .ref t 0 cs.length] true 0) ∧ TabO M' u (lyrT x y z d k cs i) M'.length ∧ M.length < u ∧
    fr 1 = .I d ∧ fr 2 = .I k ∧ fr 3 = .ptr M.length 0 ∧ fr 7 = .I (dirA d) ∧ fr 8 = .I (dirB d) ∧ fr 9 = .ref u 0 (lyrT x y z d k cs i).length ∧ fr 10 = .I i) (sideOf x y z (dirA d)).toNat
    ⟨0, M.length + 1, by omega, Pre.app _ _, by simp, Live.new, TabO.nil (Live.newj (j := 1) rfl), by omega, rfl, rfl, rfl, rfl, rfl, rfl, rfl⟩ ?_
  rintro m fr M' ⟨i, u, hi, hpre, hM', b3, hT, hu, f1, f2, f3, f7, f8, f9, f10⟩
  simp (disch := omega) only [f1, f2, f3, f7, f8, f9, f10, b3.cells, ↓SXd, SXu, slBounds, ↓sop, ↓aop, ↓reduceIte, LV.cells, AOp.dst, LV.I, LV.B, LV.U, LV.S, LV.nil, Nat.reduceEqDiff, Nat.reduceAdd, Nat.reduceMul, Nat.reduceSub, Nat.reduceLeDiff, Nat.reduceBEq, Nat.reduceDiv, Nat.reduceMod, Int.reduceToNat, Int.reduceLT, Int.reduceLE, Int.reduceAdd, Int.reduceSub, Int.reduceMul, Int.reduceEq, Int.reduceNeg, reduceCtorEq, resV, resAll, ARes.ev, LV.flat, ite_true, ite_false, exists_eq_left', exists_eq_left, keyOf, implies_true, fillC, capOf]
  refine callK_of (h_l2Long hda) ?_
  simp (disch := omega) only [f1, f2, f3, f7, f8, f9, f10, ↓SXd, SXu, slBounds, ↓sop, ↓aop, ↓reduceIte, LV.cells, AOp.dst, LV.I, LV.B, LV.U, LV.S, LV.nil, Nat.reduceEqDiff, Nat.reduceAdd, Nat.reduceMul, Nat.reduceSub, Nat.reduceLeDiff, Nat.reduceBEq, Nat.reduceDiv, Nat.reduceMod, Int.reduceToNat, Int.reduceLT, Int.reduceLE, Int.reduceAdd, Int.reduceSub, Int.reduceMul, Int.reduceEq, Int.reduceNeg, reduceCtorEq, resV, resAll, ARes.ev, LV.flat, ite_true, ite_false, exists_eq_left', exists_eq_left, keyOf, implies_true, fillC, capOf]
  refine condC_dec (fun hlt => ?_) (fun hlt => ?_)
  · have hi4 : i < 4 := by omega
    have hb3l := b3.lt
    simp (disch := omega) only [f1, f2, f3, f7, f8, f9, f10, ↓SXd, SXu, slBounds, ↓sop, ↓aop, ↓reduceIte, LV.cells, AOp.dst, LV.I, LV.B, LV.U, LV.S, LV.nil, Nat.reduceEqDiff, Nat.reduceAdd, Nat.reduceMul, Nat.reduceSub, Nat.reduceLeDiff, Nat.reduceBEq, Nat.reduceDiv, Nat.reduceMod, Int.reduceToNat, Int.reduceLT, Int.reduceLE, Int.reduceAdd, Int.reduceSub, Int.reduceMul, Int.reduceEq, Int.reduceNeg, reduceCtorEq, resV, resAll, ARes.ev, LV.flat, ite_true, ite_false, exists_eq_left', exists_eq_left, keyOf, implies_true, fillC, capOf]
    refine ev_loop (fun m2 fr N => ∃ (j r : Nat), j + m2 = (sideOf x y z (dirB d)).toNat ∧ Pre M' N ∧ M'.length ≤ r ∧ Live N r (.row (intL (lyrR x y z d k cs i j)) true 1) ∧
      fr 1 = .I d ∧ fr 2 = .I k ∧ fr 3 = .ptr M.length 0 ∧ fr 7 = .I (dirA d) ∧ fr 8 = .I (dirB d) ∧ fr 9 = .ref u 0 (lyrT x y z d k cs i).length ∧ fr 10 = .I i ∧ fr 11 = .ref r 0 (lyrR x y z d k cs i j).length ∧ fr 12 = .I j) (sideOf x y z (dirB d)).toNat
      ⟨0, M'.length, by omega, Pre.app _ _, Nat.le_refl _, Live.new, f1, f2, f3, f7, f8, f9, f10, rfl, rfl⟩ ?_
    clear f1 f2 f3 f7 f8 f9 f10
    rintro m2 fr N ⟨j, r, hj, hp, hr, br, f1, f2, f3, f7, f8, f9, f10, f11, f12⟩
    have c3 := b3.pre hp
    simp (disch := omega) only [f2, f3, f7, f8, f9, f10, f11, f12, c3.cells, ↓SXd, SXu, slBounds, ↓sop, ↓aop, ↓reduceIte, LV.cells, AOp.dst, LV.I, LV.B, LV.U, LV.S, LV.nil, Nat.reduceEqDiff, Nat.reduceAdd, Nat.reduceMul, Nat.reduceSub, Nat.reduceLeDiff, Nat.reduceBEq, Nat.reduceDiv, Nat.reduceMod, Int.reduceToNat, Int.reduceLT, Int.reduceLE, Int.reduceAdd, Int.reduceSub, Int.reduceMul, Int.reduceEq, Int.reduceNeg, reduceCtorEq, resV, resAll, ARes.ev, LV.flat, ite_true, ite_false, exists_eq_left', exists_eq_left, keyOf, implies_true, fillC, capOf]
    refine callK_of (h_l2Long hdb) ?_
    simp (disch := omega) only [f2, f3, f7, f8, f9, f10, f11, f12, ↓SXd, SXu, slBounds, ↓sop, ↓aop, ↓reduceIte, LV.cells, AOp.dst, LV.I, LV.B, LV.U, LV.S, LV.nil, Nat.reduceEqDiff, Nat.reduceAdd, Nat.reduceMul, Nat.reduceSub, Nat.reduceLeDiff, Nat.reduceBEq, Nat.reduceDiv, Nat.reduceMod, Int.reduceToNat, Int.reduceLT, Int.reduceLE, Int.reduceAdd, Int.reduceSub, Int.reduceMul, Int.reduceEq, Int.reduceNeg, reduceCtorEq, resV, resAll, ARes.ev, LV.flat, ite_true, ite_false, exists_eq_left', exists_eq_left, keyOf, implies_true, fillC, capOf]
    refine condC_dec (fun hlt2 => ?_) (fun hlt2 => ?_)
    · have hj4 : j < 4 := by omega
      have hc3l := c3.lt
      have hbrl := br.lt
      simp (disch := omega) only [f2, f3, f7, f8, f9, f10, f11, f12, splice, ↓SXd, SXu, slBounds, ↓sop, ↓aop, ↓reduceIte, LV.cells, AOp.dst, LV.I, LV.B, LV.U, LV.S, LV.nil, Nat.reduceEqDiff, Nat.reduceAdd, Nat.reduceMul, Nat.reduceSub, Nat.reduceLeDiff, Nat.reduceBEq, Nat.reduceDiv, Nat.reduceMod, Int.reduceToNat, Int.reduceLT, Int.reduceLE, Int.reduceAdd, Int.reduceSub, Int.reduceMul, Int.reduceEq, Int.reduceNeg, reduceCtorEq, resV, resAll, ARes.ev, LV.flat, ite_true, ite_false, exists_eq_left', exists_eq_left, keyOf, implies_true, fillC, capOf]
      have e13 : Live (N ++ [some (.row [.I 0, .I 0, .I 0] true 0)]) N.length (.row [.I 0, .I 0, .I 0] true 0) := Live.new
      have hpN : Pre N (N ++ [some (.row [.I 0, .I 0, .I 0] true 0)]) := Pre.app _ _
      have d3 := c3.pre hpN
      have dr := br.pre hpN
      have hpq := hp.trans hpN
      generalize hN1 : N ++ [some (Blk.row [.I 0, .I 0, .I 0] true 0)] = N1 at e13 hpN d3 dr hpq ⊢
      clear hN1
      have hNl := hp.1
      simp (disch := omega) only [f2, f3, f7, f8, f9, f10, f11, f12, f1, ↓SXd, SXu, slBounds, ↓sop, ↓aop, ↓reduceIte, LV.cells, AOp.dst, LV.I, LV.B, LV.U, LV.S, LV.nil, Nat.reduceEqDiff, Nat.reduceAdd, Nat.reduceMul, Nat.reduceSub, Nat.reduceLeDiff, Nat.reduceBEq, Nat.reduceDiv, Nat.reduceMod, Int.reduceToNat, Int.reduceLT, Int.reduceLE, Int.reduceAdd, Int.reduceSub, Int.reduceMul, Int.reduceEq, Int.reduceNeg, reduceCtorEq, resV, resAll, ARes.ev, LV.flat, ite_true, ite_false, exists_eq_left', exists_eq_left, keyOf, implies_true, fillC, capOf]
      refine memK_at e13 (show d < 3 by omega) fun N2 k1 k2 k3 => ?_
      have hP2 := pre_step hpq (by omega) (j := 0) k1 k3
      have d3 := live_step d3 (by omega) k3
      have dr := live_step dr (by omega) k3
      clear e13 hpN hpq k3
      simp (disch := omega) only [f2, f3, f7, f8, f9, f10, f11, f12, ↓SXd, SXu, slBounds, ↓sop, ↓aop, ↓reduceIte, LV.cells, AOp.dst, LV.I, LV.B, LV.U, LV.S, LV.nil, Nat.reduceEqDiff, Nat.reduceAdd, Nat.reduceMul, Nat.reduceSub, Nat.reduceLeDiff, Nat.reduceBEq, Nat.reduceDiv, Nat.reduceMod, Int.reduceToNat, Int.reduceLT, Int.reduceLE, Int.reduceAdd, Int.reduceSub, Int.reduceMul, Int.reduceEq, Int.reduceNeg, reduceCtorEq, resV, resAll, ARes.ev, LV.flat, ite_true, ite_false, exists_eq_left', exists_eq_left, keyOf, implies_true, fillC, capOf]
      refine memK_at k2 (show (dirA d).toNat < ([LV.I 0, .I 0, .I 0].set d (.I k)).length by simp; omega) fun N3 q1 q2 q3 => ?_
      have hP3 := pre_step hP2 (by omega) (j := 0) q1 q3
      have d3 := live_step d3 (by omega) q3
      have dr := live_step dr (by omega) q3
      clear k2 q3 hP2
      simp (disch := omega) only [f2, f3, f7, f8, f9, f10, f11, f12, ↓SXd, SXu, slBounds, ↓sop, ↓aop, ↓reduceIte, LV.cells, AOp.dst, LV.I, LV.B, LV.U, LV.S, LV.nil, Nat.reduceEqDiff, Nat.reduceAdd, Nat.reduceMul, Nat.reduceSub, Nat.reduceLeDiff, Nat.reduceBEq, Nat.reduceDiv, Nat.reduceMod, Int.reduceToNat, Int.reduceLT, Int.reduceLE, Int.reduceAdd, Int.reduceSub, Int.reduceMul, Int.reduceEq, Int.reduceNeg, reduceCtorEq, resV, resAll, ARes.ev, LV.flat, ite_true, ite_false, exists_eq_left', exists_eq_left, keyOf, implies_true, fillC, capOf]
      refine memK_at q2 (show (dirB d).toNat < (([LV.I 0, .I 0, .I 0].set d (.I k)).set (dirA d).toNat (.I i)).length by simp; omega) fun N4 w1 w2 w3 => ?_
      have hP4 := pre_step hP3 (by omega) (j := 0) w1 w3
      have d3 := live_step d3 (by omega) w3
      have dr := live_step dr (by omega) w3
      rw [hlr] at w2
      clear q2 w3 hP3
      simp (disch := omega) only [f2, f3, f7, f8, f9, f10, f11, f12, d3.cells, w2.cells, ↓SXd, SXu, slBounds, ↓sop, ↓aop, ↓reduceIte, LV.cells, AOp.dst, LV.I, LV.B, LV.U, LV.S, LV.nil, Nat.reduceEqDiff, Nat.reduceAdd, Nat.reduceMul, Nat.reduceSub, Nat.reduceLeDiff, Nat.reduceBEq, Nat.reduceDiv, Nat.reduceMod, Int.reduceToNat, Int.reduceLT, Int.reduceLE, Int.reduceAdd, Int.reduceSub, Int.reduceMul, Int.reduceEq, Int.reduceNeg, reduceCtorEq, resV, resAll, ARes.ev, LV.flat, ite_true, ite_false, exists_eq_left', exists_eq_left, keyOf, implies_true, fillC, capOf]
      refine callK_of (h_l2Has ((h.pre hpre).pre hP4) (by omega)) ?_
      have hlv : lyrV d k cs i j = if lyrC d k i j ∈ cs then 1 else 0 := rfl
      have hrs := lyrR_succ (x := x) (y := y) (z := z) (d := d) (k := k) (cs := cs) (i := i) (n := j)
      have hrl := lyrR_len (x := x) (y := y) (z := z) (d := d) (k := k) (cs := cs) (i := i) (n := j)
      by_cases hm : lyrC d k i j ∈ cs
      · rw [if_pos hm] at hlv
        rw [show decide ((⟨(lyrC d k i j).a, (lyrC d k i j).b, (lyrC d k i j).c⟩ : Cell) ∈ cs) = true from decide_eq_true hm]
        simp (disch := omega) only [f2, f3, f7, f8, f9, f10, f11, f12, ↓SXd, SXu, slBounds, ↓sop, ↓aop, ↓reduceIte, LV.cells, AOp.dst, LV.I, LV.B, LV.U, LV.S, LV.nil, Nat.reduceEqDiff, Nat.reduceAdd, Nat.reduceMul, Nat.reduceSub, Nat.reduceLeDiff, Nat.reduceBEq, Nat.reduceDiv, Nat.reduceMod, Int.reduceToNat, Int.reduceLT, Int.reduceLE, Int.reduceAdd, Int.reduceSub, Int.reduceMul, Int.reduceEq, Int.reduceNeg, reduceCtorEq, resV, resAll, ARes.ev, LV.flat, ite_true, ite_false, exists_eq_left', exists_eq_left, keyOf, implies_true, fillC, capOf]
        refine appendK_int dr (by omega) fun N5 l1 l2 l3 => ?_
        rw [hlv] at hrs
        rw [← hrs] at l2 ⊢
        simp (disch := omega) only [f2, f3, f7, f8, f9, f10, f11, f12, ↓SXd, SXu, slBounds, ↓sop, ↓aop, ↓reduceIte, LV.cells, AOp.dst, LV.I, LV.B, LV.U, LV.S, LV.nil, Nat.reduceEqDiff, Nat.reduceAdd, Nat.reduceMul, Nat.reduceSub, Nat.reduceLeDiff, Nat.reduceBEq, Nat.reduceDiv, Nat.reduceMod, Int.reduceToNat, Int.reduceLT, Int.reduceLE, Int.reduceAdd, Int.reduceSub, Int.reduceMul, Int.reduceEq, Int.reduceNeg, reduceCtorEq, resV, resAll, ARes.ev, LV.flat, ite_true, ite_false, exists_eq_left', exists_eq_left, keyOf, implies_true, fillC, capOf]
        exact ⟨m2 - 1, by omega, j + 1, N4.length + 1, by omega, pre_step hP4 (by omega) (j := 2) l1 l3, by have := hP4.1; omega, l2, f1, f2, f3, f7, f8, f9, f10, rfl, eqI (natI _)⟩
      · rw [if_neg hm] at hlv
        rw [show decide ((⟨(lyrC d k i j).a, (lyrC d k i j).b, (lyrC d k i j).c⟩ : Cell) ∈ cs) = false from decide_eq_false hm]
        simp (disch := omega) only [f2, f3, f7, f8, f9, f10, f11, f12, ↓SXd, SXu, slBounds, ↓sop, ↓aop, ↓reduceIte, LV.cells, AOp.dst, LV.I, LV.B, LV.U, LV.S, LV.nil, Nat.reduceEqDiff, Nat.reduceAdd, Nat.reduceMul, Nat.reduceSub, Nat.reduceLeDiff, Nat.reduceBEq, Nat.reduceDiv, Nat.reduceMod, Int.reduceToNat, Int.reduceLT, Int.reduceLE, Int.reduceAdd, Int.reduceSub, Int.reduceMul, Int.reduceEq, Int.reduceNeg, reduceCtorEq, resV, resAll, ARes.ev, LV.flat, ite_true, ite_false, exists_eq_left', exists_eq_left, keyOf, implies_true, fillC, capOf]
        refine appendK_int dr (by omega) fun N5 l1 l2 l3 => ?_
        rw [hlv] at hrs
        rw [← hrs] at l2 ⊢
        simp (disch := omega) only [f2, f3, f7, f8, f9, f10, f11, f12, ↓SXd, SXu, slBounds, ↓sop, ↓aop, ↓reduceIte, LV.cells, AOp.dst, LV.I, LV.B, LV.U, LV.S, LV.nil, Nat.reduceEqDiff, Nat.reduceAdd, Nat.reduceMul, Nat.reduceSub, Nat.reduceLeDiff, Nat.reduceBEq, Nat.reduceDiv, Nat.reduceMod, Int.reduceToNat, Int.reduceLT, Int.reduceLE, Int.reduceAdd, Int.reduceSub, Int.reduceMul, Int.reduceEq, Int.reduceNeg, reduceCtorEq, resV, resAll, ARes.ev, LV.flat, ite_true, ite_false, exists_eq_left', exists_eq_left, keyOf, implies_true, fillC, capOf]
        exact ⟨m2 - 1, by omega, j + 1, N4.length + 1, by omega, pre_step hP4 (by omega) (j := 2) l1 l3, by have := hP4.1; omega, l2, f1, f2, f3, f7, f8, f9, f10, rfl, eqI (natI _)⟩
    · have hjl : j = (sideOf x y z (dirB d)).toNat := by omega
      subst hjl
      have hts := lyrT_succ (x := x) (y := y) (z := z) (d := d) (k := k) (cs := cs) (m := i)
      have htl := lyrT_len (x := x) (y := y) (z := z) (d := d) (k := k) (cs := cs) (m := i)
      simp (disch := omega) only [f2, f3, f7, f8, f9, f10, f11, f12, ↓SXd, SXu, slBounds, ↓sop, ↓aop, ↓reduceIte, LV.cells, AOp.dst, LV.I, LV.B, LV.U, LV.S, LV.nil, Nat.reduceEqDiff, Nat.reduceAdd, Nat.reduceMul, Nat.reduceSub, Nat.reduceLeDiff, Nat.reduceBEq, Nat.reduceDiv, Nat.reduceMod, Int.reduceToNat, Int.reduceLT, Int.reduceLE, Int.reduceAdd, Int.reduceSub, Int.reduceMul, Int.reduceEq, Int.reduceNeg, reduceCtorEq, resV, resAll, ARes.ev, LV.flat, ite_true, ite_false, exists_eq_left', exists_eq_left, keyOf, implies_true, fillC, capOf]
      refine appendK_tab hT hp br hr (by omega) (hpre.trans hp) (by omega) fun u' Q hTab hM hu' hold hQl => ?_
      rw [← hts] at hTab ⊢
      simp (disch := omega) only [f2, f3, f7, f8, f9, f10, f11, f12, ↓SXd, SXu, slBounds, ↓sop, ↓aop, ↓reduceIte, LV.cells, AOp.dst, LV.I, LV.B, LV.U, LV.S, LV.nil, Nat.reduceEqDiff, Nat.reduceAdd, Nat.reduceMul, Nat.reduceSub, Nat.reduceLeDiff, Nat.reduceBEq, Nat.reduceDiv, Nat.reduceMod, Int.reduceToNat, Int.reduceLT, Int.reduceLE, Int.reduceAdd, Int.reduceSub, Int.reduceMul, Int.reduceEq, Int.reduceNeg, reduceCtorEq, resV, resAll, ARes.ev, LV.flat, ite_true, ite_false, exists_eq_left', exists_eq_left, keyOf, implies_true, fillC, capOf]
      have hc3l := c3.lt
      refine ⟨m - 1, by omega, i + 1, u', by omega, hM, by omega, ?_, hTab, by rcases hu' with e | e <;> omega, f1, f2, f3, f7, f8, rfl, eqI (natI _)⟩
      unfold Live at c3 ⊢
      rw [hold _ (by omega) hc3l]; exact c3
  · have hil : i = (sideOf x y z (dirA d)).toNat := by omega
    subst hil
    simp (disch := omega) only [f1, f2, f3, f7, f8, f9, f10, ↓SXd, SXu, slBounds, ↓sop, ↓aop, ↓reduceIte, LV.cells, AOp.dst, LV.I, LV.B, LV.U, LV.S, LV.nil, Nat.reduceEqDiff, Nat.reduceAdd, Nat.reduceMul, Nat.reduceSub, Nat.reduceLeDiff, Nat.reduceBEq, Nat.reduceDiv, Nat.reduceMod, Int.reduceToNat, Int.reduceLT, Int.reduceLE, Int.reduceAdd, Int.reduceSub, Int.reduceMul, Int.reduceEq, Int.reduceNeg, reduceCtorEq, resV, resAll, ARes.ev, LV.flat, ite_true, ite_false, exists_eq_left', exists_eq_left, keyOf, implies_true, fillC, capOf]
    exact ⟨u, rfl, hT.v, hpre⟩
theorem h_sLayerOf (hn : cs.length ≤ 1000000000) {d k : Int} : CallsR PG F.spec_LayerOf [.agg [.I x, .I y, .I z, .ref t 0 cs.length], .I d, .I k] M (TabG M (lyrOf x y z cs d k) (lyrB x y z cs d k)) := by
  refine callsR_run K.spec_LayerOf rfl ?_
  simp (disch := omega) only [C.spec_LayerOf, ↓SXd, SXu, slBounds, ↓sop, ↓aop, ↓reduceIte, LV.cells, AOp.dst, LV.I, LV.B, LV.U, LV.S, LV.nil, Nat.reduceEqDiff, Nat.reduceAdd, Nat.reduceMul, Nat.reduceSub, Nat.reduceLeDiff, Nat.reduceBEq, Nat.reduceDiv, Nat.reduceMod, Int.reduceToNat, Int.reduceLT, Int.reduceLE, Int.reduceAdd, Int.reduceSub, Int.reduceMul, Int.reduceEq, Int.reduceNeg, reduceCtorEq, resV, resAll, ARes.ev, LV.flat, ite_true, ite_false, exists_eq_left', exists_eq_left, keyOf, implies_true, fillC, capOf]
  refine callK_of (h_l2Heap h.app hn) ?_
  simp (disch := omega) only [↓SXd, SXu, slBounds, ↓sop, ↓aop, ↓reduceIte, LV.cells, AOp.dst, LV.I, LV.B, LV.U, LV.S, LV.nil, Nat.reduceEqDiff, Nat.reduceAdd, Nat.reduceMul, Nat.reduceSub, Nat.reduceLeDiff, Nat.reduceBEq, Nat.reduceDiv, Nat.reduceMod, Int.reduceToNat, Int.reduceLT, Int.reduceLE, Int.reduceAdd, Int.reduceSub, Int.reduceMul, Int.reduceEq, Int.reduceNeg, reduceCtorEq, resV, resAll, ARes.ev, LV.flat, ite_true, ite_false, exists_eq_left', exists_eq_left, keyOf, implies_true, fillC, capOf]
  have hdd : Dir d ↔ 0 ≤ d ∧ d ≤ 2 := by unfold Dir; omega
  have hno : ∀ hx : ¬ LyrOK x y z cs d k, lyrOf x y z cs d k = [] ∧ lyrB x y z cs d k = false := fun hx => ⟨if_neg hx, decide_eq_false hx⟩
  by_cases hH : HeapOK x y z cs
  rotate_left
  · rw [(hno fun e => hH e.1).1, (hno fun e => hH e.1).2]
    simp (disch := omega) only [hH, ↓SXd, SXu, slBounds, ↓sop, ↓aop, ↓reduceIte, LV.cells, AOp.dst, LV.I, LV.B, LV.U, LV.S, LV.nil, Nat.reduceEqDiff, Nat.reduceAdd, Nat.reduceMul, Nat.reduceSub, Nat.reduceLeDiff, Nat.reduceBEq, Nat.reduceDiv, Nat.reduceMod, Int.reduceToNat, Int.reduceLT, Int.reduceLE, Int.reduceAdd, Int.reduceSub, Int.reduceMul, Int.reduceEq, Int.reduceNeg, reduceCtorEq, resV, resAll, ARes.ev, LV.flat, ite_true, ite_false, exists_eq_left', exists_eq_left, keyOf, implies_true, fillC, capOf]
    exact ⟨_, rfl, .inr ⟨_, [], rfl, Live.newj (j := 1) rfl, rfl, fun i hi => by simp at hi⟩, Pre.app _ _⟩
  simp (disch := omega) only [hH, ↓SXd, SXu, slBounds, ↓sop, ↓aop, ↓reduceIte, LV.cells, AOp.dst, LV.I, LV.B, LV.U, LV.S, LV.nil, Nat.reduceEqDiff, Nat.reduceAdd, Nat.reduceMul, Nat.reduceSub, Nat.reduceLeDiff, Nat.reduceBEq, Nat.reduceDiv, Nat.reduceMod, Int.reduceToNat, Int.reduceLT, Int.reduceLE, Int.reduceAdd, Int.reduceSub, Int.reduceMul, Int.reduceEq, Int.reduceNeg, reduceCtorEq, resV, resAll, ARes.ev, LV.flat, ite_true, ite_false, exists_eq_left', exists_eq_left, keyOf, implies_true, fillC, capOf]
  refine callK_of (h_l1In) ?_
  simp (disch := omega) only [↓SXd, SXu, slBounds, ↓sop, ↓aop, ↓reduceIte, LV.cells, AOp.dst, LV.I, LV.B, LV.U, LV.S, LV.nil, Nat.reduceEqDiff, Nat.reduceAdd, Nat.reduceMul, Nat.reduceSub, Nat.reduceLeDiff, Nat.reduceBEq, Nat.reduceDiv, Nat.reduceMod, Int.reduceToNat, Int.reduceLT, Int.reduceLE, Int.reduceAdd, Int.reduceSub, Int.reduceMul, Int.reduceEq, Int.reduceNeg, reduceCtorEq, resV, resAll, ARes.ev, LV.flat, ite_true, ite_false, exists_eq_left', exists_eq_left, keyOf, implies_true, fillC, capOf]
  by_cases hd : 0 ≤ d ∧ d ≤ 2
  rotate_left
  · rw [(hno fun e => hd (hdd.1 e.2.1)).1, (hno fun e => hd (hdd.1 e.2.1)).2, decide_eq_false hd]
    simp (disch := omega) only [↓SXd, SXu, slBounds, ↓sop, ↓aop, ↓reduceIte, LV.cells, AOp.dst, LV.I, LV.B, LV.U, LV.S, LV.nil, Nat.reduceEqDiff, Nat.reduceAdd, Nat.reduceMul, Nat.reduceSub, Nat.reduceLeDiff, Nat.reduceBEq, Nat.reduceDiv, Nat.reduceMod, Int.reduceToNat, Int.reduceLT, Int.reduceLE, Int.reduceAdd, Int.reduceSub, Int.reduceMul, Int.reduceEq, Int.reduceNeg, reduceCtorEq, resV, resAll, ARes.ev, LV.flat, ite_true, ite_false, exists_eq_left', exists_eq_left, keyOf, implies_true, fillC, capOf]
    exact ⟨_, rfl, .inr ⟨_, [], rfl, Live.newj (j := 1) rfl, rfl, fun i hi => by simp at hi⟩, Pre.app _ _⟩
  rw [decide_eq_true hd]
  have hsd := sideOf_in hH.1 d
  simp (disch := omega) only [↓SXd, SXu, slBounds, ↓sop, ↓aop, ↓reduceIte, LV.cells, AOp.dst, LV.I, LV.B, LV.U, LV.S, LV.nil, Nat.reduceEqDiff, Nat.reduceAdd, Nat.reduceMul, Nat.reduceSub, Nat.reduceLeDiff, Nat.reduceBEq, Nat.reduceDiv, Nat.reduceMod, Int.reduceToNat, Int.reduceLT, Int.reduceLE, Int.reduceAdd, Int.reduceSub, Int.reduceMul, Int.reduceEq, Int.reduceNeg, reduceCtorEq, resV, resAll, ARes.ev, LV.flat, ite_true, ite_false, exists_eq_left', exists_eq_left, keyOf, implies_true, fillC, capOf]
  refine callK_of (h_l2Long (hdd.2 hd)) ?_
  simp (disch := omega) only [↓SXd, SXu, slBounds, ↓sop, ↓aop, ↓reduceIte, LV.cells, AOp.dst, LV.I, LV.B, LV.U, LV.S, LV.nil, Nat.reduceEqDiff, Nat.reduceAdd, Nat.reduceMul, Nat.reduceSub, Nat.reduceLeDiff, Nat.reduceBEq, Nat.reduceDiv, Nat.reduceMod, Int.reduceToNat, Int.reduceLT, Int.reduceLE, Int.reduceAdd, Int.reduceSub, Int.reduceMul, Int.reduceEq, Int.reduceNeg, reduceCtorEq, resV, resAll, ARes.ev, LV.flat, ite_true, ite_false, exists_eq_left', exists_eq_left, keyOf, implies_true, fillC, capOf]
  refine callK_of (h_l1In) ?_
  simp (disch := omega) only [↓SXd, SXu, slBounds, ↓sop, ↓aop, ↓reduceIte, LV.cells, AOp.dst, LV.I, LV.B, LV.U, LV.S, LV.nil, Nat.reduceEqDiff, Nat.reduceAdd, Nat.reduceMul, Nat.reduceSub, Nat.reduceLeDiff, Nat.reduceBEq, Nat.reduceDiv, Nat.reduceMod, Int.reduceToNat, Int.reduceLT, Int.reduceLE, Int.reduceAdd, Int.reduceSub, Int.reduceMul, Int.reduceEq, Int.reduceNeg, reduceCtorEq, resV, resAll, ARes.ev, LV.flat, ite_true, ite_false, exists_eq_left', exists_eq_left, keyOf, implies_true, fillC, capOf]
  by_cases hk : 0 ≤ k ∧ k ≤ sideOf x y z d - 1
  rotate_left
  · rw [(hno fun e => hk ⟨e.2.2.1, by have := e.2.2.2; omega⟩).1, (hno fun e => hk ⟨e.2.2.1, by have := e.2.2.2; omega⟩).2, decide_eq_false hk]
    simp (disch := omega) only [↓SXd, SXu, slBounds, ↓sop, ↓aop, ↓reduceIte, LV.cells, AOp.dst, LV.I, LV.B, LV.U, LV.S, LV.nil, Nat.reduceEqDiff, Nat.reduceAdd, Nat.reduceMul, Nat.reduceSub, Nat.reduceLeDiff, Nat.reduceBEq, Nat.reduceDiv, Nat.reduceMod, Int.reduceToNat, Int.reduceLT, Int.reduceLE, Int.reduceAdd, Int.reduceSub, Int.reduceMul, Int.reduceEq, Int.reduceNeg, reduceCtorEq, resV, resAll, ARes.ev, LV.flat, ite_true, ite_false, exists_eq_left', exists_eq_left, keyOf, implies_true, fillC, capOf]
    exact ⟨_, rfl, .inr ⟨_, [], rfl, Live.newj (j := 1) rfl, rfl, fun i hi => by simp at hi⟩, Pre.app _ _⟩
  have hL : LyrOK x y z cs d k := ⟨hH, hdd.2 hd, hk.1, by omega⟩
  rw [show lyrOf x y z cs d k = lyrT x y z d.toNat k cs (sideOf x y z (dirA d.toNat)).toNat from if_pos hL, show lyrB x y z cs d k = true from decide_eq_true hL, decide_eq_true hk]
  obtain ⟨n, rfl⟩ : ∃ n : Nat, d = n := ⟨d.toNat, by omega⟩
  rw [Int.toNat_natCast]
  simp (disch := omega) only [↓SXd, SXu, slBounds, ↓sop, ↓aop, ↓reduceIte, LV.cells, AOp.dst, LV.I, LV.B, LV.U, LV.S, LV.nil, Nat.reduceEqDiff, Nat.reduceAdd, Nat.reduceMul, Nat.reduceSub, Nat.reduceLeDiff, Nat.reduceBEq, Nat.reduceDiv, Nat.reduceMod, Int.reduceToNat, Int.reduceLT, Int.reduceLE, Int.reduceAdd, Int.reduceSub, Int.reduceMul, Int.reduceEq, Int.reduceNeg, reduceCtorEq, resV, resAll, ARes.ev, LV.flat, ite_true, ite_false, exists_eq_left', exists_eq_left, keyOf, implies_true, fillC, capOf]
  refine callR_of (h_l2Layer h.app hH (d := n) (by omega) ⟨hk.1, by omega⟩) ?_
  rintro _ N ⟨w, rfl, hT, hp⟩
  simp (disch := omega) only [↓SXd, SXu, slBounds, ↓sop, ↓aop, ↓reduceIte, LV.cells, AOp.dst, LV.I, LV.B, LV.U, LV.S, LV.nil, Nat.reduceEqDiff, Nat.reduceAdd, Nat.reduceMul, Nat.reduceSub, Nat.reduceLeDiff, Nat.reduceBEq, Nat.reduceDiv, Nat.reduceMod, Int.reduceToNat, Int.reduceLT, Int.reduceLE, Int.reduceAdd, Int.reduceSub, Int.reduceMul, Int.reduceEq, Int.reduceNeg, reduceCtorEq, resV, resAll, ARes.ev, LV.flat, ite_true, ite_false, exists_eq_left', exists_eq_left, keyOf, implies_true, fillC, capOf]
  exact ⟨_, rfl, hT, (Pre.app _ _).trans hp⟩
theorem g_LayerOf (hn : cs.length ≤ 1000000000) {d k : Int} : CallsR PG F.impl_LayerOf [.agg [.I x, .I y, .I z, .ref t 0 cs.length], .I d, .I k] M (TabG M (lyrOf x y z cs d k) (lyrB x y z cs d k)) := by
  refine callsR_run K.impl_LayerOf rfl ?_
  simp (disch := omega) only [C.impl_LayerOf, ↓SXd, SXu, slBounds, ↓sop, ↓aop, ↓reduceIte, LV.cells, AOp.dst, LV.I, LV.B, LV.U, LV.S, LV.nil, Nat.reduceEqDiff, Nat.reduceAdd, Nat.reduceMul, Nat.reduceSub, Nat.reduceLeDiff, Nat.reduceBEq, Nat.reduceDiv, Nat.reduceMod, Int.reduceToNat, Int.reduceLT, Int.reduceLE, Int.reduceAdd, Int.reduceSub, Int.reduceMul, Int.reduceEq, Int.reduceNeg, reduceCtorEq, resV, resAll, ARes.ev, LV.flat, ite_true, ite_false, exists_eq_left', exists_eq_left, keyOf, implies_true, fillC, capOf]
  refine callK_of (g_IsHeap h.app hn) ?_
  simp (disch := omega) only [↓SXd, SXu, slBounds, ↓sop, ↓aop, ↓reduceIte, LV.cells, AOp.dst, LV.I, LV.B, LV.U, LV.S, LV.nil, Nat.reduceEqDiff, Nat.reduceAdd, Nat.reduceMul, Nat.reduceSub, Nat.reduceLeDiff, Nat.reduceBEq, Nat.reduceDiv, Nat.reduceMod, Int.reduceToNat, Int.reduceLT, Int.reduceLE, Int.reduceAdd, Int.reduceSub, Int.reduceMul, Int.reduceEq, Int.reduceNeg, reduceCtorEq, resV, resAll, ARes.ev, LV.flat, ite_true, ite_false, exists_eq_left', exists_eq_left, keyOf, implies_true, fillC, capOf]
  have hdd : Dir d ↔ 0 ≤ d ∧ d ≤ 2 := by unfold Dir; omega
  have hno : ∀ hx : ¬ LyrOK x y z cs d k, lyrOf x y z cs d k = [] ∧ lyrB x y z cs d k = false := fun hx => ⟨if_neg hx, decide_eq_false hx⟩
  have hisd : ∀ {M : Mem}, CallsTo PG F.impl_isDirection [.I d] M (.B (decide (0 ≤ d ∧ d ≤ 2))) M := fun {M} => by
    refine calls_run K.impl_isDirection rfl ?_
    simp (disch := omega) only [C.impl_isDirection, ↓SXd, SXu, slBounds, ↓sop, ↓aop, ↓reduceIte, LV.cells, AOp.dst, LV.I, LV.B, LV.U, LV.S, LV.nil, Nat.reduceEqDiff, Nat.reduceAdd, Nat.reduceMul, Nat.reduceSub, Nat.reduceLeDiff, Nat.reduceBEq, Nat.reduceDiv, Nat.reduceMod, Int.reduceToNat, Int.reduceLT, Int.reduceLE, Int.reduceAdd, Int.reduceSub, Int.reduceMul, Int.reduceEq, Int.reduceNeg, reduceCtorEq, resV, resAll, ARes.ev, LV.flat, ite_true, ite_false, exists_eq_left', exists_eq_left, keyOf, implies_true, fillC, capOf]
    refine callK_of (g_within) ?_
    simp (disch := omega) only [↓SXd, SXu, slBounds, ↓sop, ↓aop, ↓reduceIte, LV.cells, AOp.dst, LV.I, LV.B, LV.U, LV.S, LV.nil, Nat.reduceEqDiff, Nat.reduceAdd, Nat.reduceMul, Nat.reduceSub, Nat.reduceLeDiff, Nat.reduceBEq, Nat.reduceDiv, Nat.reduceMod, Int.reduceToNat, Int.reduceLT, Int.reduceLE, Int.reduceAdd, Int.reduceSub, Int.reduceMul, Int.reduceEq, Int.reduceNeg, reduceCtorEq, resV, resAll, ARes.ev, LV.flat, ite_true, ite_false, exists_eq_left', exists_eq_left, keyOf, implies_true, fillC, capOf]
    exact cmp_drop0 rfl
  by_cases hH : HeapOK x y z cs
  rotate_left
  · rw [(hno fun e => hH e.1).1, (hno fun e => hH e.1).2]
    simp (disch := omega) only [hH, ↓SXd, SXu, slBounds, ↓sop, ↓aop, ↓reduceIte, LV.cells, AOp.dst, LV.I, LV.B, LV.U, LV.S, LV.nil, Nat.reduceEqDiff, Nat.reduceAdd, Nat.reduceMul, Nat.reduceSub, Nat.reduceLeDiff, Nat.reduceBEq, Nat.reduceDiv, Nat.reduceMod, Int.reduceToNat, Int.reduceLT, Int.reduceLE, Int.reduceAdd, Int.reduceSub, Int.reduceMul, Int.reduceEq, Int.reduceNeg, reduceCtorEq, resV, resAll, ARes.ev, LV.flat, ite_true, ite_false, exists_eq_left', exists_eq_left, keyOf, implies_true, fillC, capOf]
    exact ⟨_, rfl, .inl ⟨rfl, rfl⟩, Pre.app _ _⟩
  simp (disch := omega) only [hH, ↓SXd, SXu, slBounds, ↓sop, ↓aop, ↓reduceIte, LV.cells, AOp.dst, LV.I, LV.B, LV.U, LV.S, LV.nil, Nat.reduceEqDiff, Nat.reduceAdd, Nat.reduceMul, Nat.reduceSub, Nat.reduceLeDiff, Nat.reduceBEq, Nat.reduceDiv, Nat.reduceMod, Int.reduceToNat, Int.reduceLT, Int.reduceLE, Int.reduceAdd, Int.reduceSub, Int.reduceMul, Int.reduceEq, Int.reduceNeg, reduceCtorEq, resV, resAll, ARes.ev, LV.flat, ite_true, ite_false, exists_eq_left', exists_eq_left, keyOf, implies_true, fillC, capOf]
  refine callK_of (hisd) ?_
  simp (disch := omega) only [↓SXd, SXu, slBounds, ↓sop, ↓aop, ↓reduceIte, LV.cells, AOp.dst, LV.I, LV.B, LV.U, LV.S, LV.nil, Nat.reduceEqDiff, Nat.reduceAdd, Nat.reduceMul, Nat.reduceSub, Nat.reduceLeDiff, Nat.reduceBEq, Nat.reduceDiv, Nat.reduceMod, Int.reduceToNat, Int.reduceLT, Int.reduceLE, Int.reduceAdd, Int.reduceSub, Int.reduceMul, Int.reduceEq, Int.reduceNeg, reduceCtorEq, resV, resAll, ARes.ev, LV.flat, ite_true, ite_false, exists_eq_left', exists_eq_left, keyOf, implies_true, fillC, capOf]
  by_cases hd : 0 ≤ d ∧ d ≤ 2
  rotate_left
  · rw [(hno fun e => hd (hdd.1 e.2.1)).1, (hno fun e => hd (hdd.1 e.2.1)).2, decide_eq_false hd]
    simp (disch := omega) only [↓SXd, SXu, slBounds, ↓sop, ↓aop, ↓reduceIte, LV.cells, AOp.dst, LV.I, LV.B, LV.U, LV.S, LV.nil, Nat.reduceEqDiff, Nat.reduceAdd, Nat.reduceMul, Nat.reduceSub, Nat.reduceLeDiff, Nat.reduceBEq, Nat.reduceDiv, Nat.reduceMod, Int.reduceToNat, Int.reduceLT, Int.reduceLE, Int.reduceAdd, Int.reduceSub, Int.reduceMul, Int.reduceEq, Int.reduceNeg, reduceCtorEq, resV, resAll, ARes.ev, LV.flat, ite_true, ite_false, exists_eq_left', exists_eq_left, keyOf, implies_true, fillC, capOf]
    exact ⟨_, rfl, .inl ⟨rfl, rfl⟩, Pre.app _ _⟩
  rw [decide_eq_true hd]
  have hS := hH.1
  have hlen := hH.len
  have hsd := sideOf_in hS d
  have hix : ∀ q : Int, 0 ≤ q ∧ q ≤ 2 → [LV.I x, .I y, .I z][q.toNat]? = some (.I (sideOf x y z q)) := fun q hq => by
    rcases (show q = 0 ∨ q = 1 ∨ q = 2 by omega) with rfl | rfl | rfl <;> rfl
  simp (disch := omega) only [↓SXd, SXu, slBounds, ↓sop, ↓aop, ↓reduceIte, LV.cells, AOp.dst, LV.I, LV.B, LV.U, LV.S, LV.nil, Nat.reduceEqDiff, Nat.reduceAdd, Nat.reduceMul, Nat.reduceSub, Nat.reduceLeDiff, Nat.reduceBEq, Nat.reduceDiv, Nat.reduceMod, Int.reduceToNat, Int.reduceLT, Int.reduceLE, Int.reduceAdd, Int.reduceSub, Int.reduceMul, Int.reduceEq, Int.reduceNeg, reduceCtorEq, resV, resAll, ARes.ev, LV.flat, ite_true, ite_false, exists_eq_left', exists_eq_left, keyOf, implies_true, fillC, capOf]
  refine callK_of (g_box) ?_
  simp (disch := omega) only [hix, hd, ↓SXd, SXu, slBounds, ↓sop, ↓aop, ↓reduceIte, LV.cells, AOp.dst, LV.I, LV.B, LV.U, LV.S, LV.nil, Nat.reduceEqDiff, Nat.reduceAdd, Nat.reduceMul, Nat.reduceSub, Nat.reduceLeDiff, Nat.reduceBEq, Nat.reduceDiv, Nat.reduceMod, Int.reduceToNat, Int.reduceLT, Int.reduceLE, Int.reduceAdd, Int.reduceSub, Int.reduceMul, Int.reduceEq, Int.reduceNeg, reduceCtorEq, resV, resAll, ARes.ev, LV.flat, ite_true, ite_false, exists_eq_left', exists_eq_left, keyOf, implies_true, fillC, capOf]
  refine callK_of (g_within) ?_
  simp (disch := omega) only [↓SXd, SXu, slBounds, ↓sop, ↓aop, ↓reduceIte, LV.cells, AOp.dst, LV.I, LV.B, LV.U, LV.S, LV.nil, Nat.reduceEqDiff, Nat.reduceAdd, Nat.reduceMul, Nat.reduceSub, Nat.reduceLeDiff, Nat.reduceBEq, Nat.reduceDiv, Nat.reduceMod, Int.reduceToNat, Int.reduceLT, Int.reduceLE, Int.reduceAdd, Int.reduceSub, Int.reduceMul, Int.reduceEq, Int.reduceNeg, reduceCtorEq, resV, resAll, ARes.ev, LV.flat, ite_true, ite_false, exists_eq_left', exists_eq_left, keyOf, implies_true, fillC, capOf]
  by_cases hk : 0 ≤ k ∧ k ≤ sideOf x y z d - 1
  rotate_left
  · rw [(hno fun e => hk ⟨e.2.2.1, by have := e.2.2.2; omega⟩).1, (hno fun e => hk ⟨e.2.2.1, by have := e.2.2.2; omega⟩).2, decide_eq_false hk]
    simp (disch := omega) only [↓SXd, SXu, slBounds, ↓sop, ↓aop, ↓reduceIte, LV.cells, AOp.dst, LV.I, LV.B, LV.U, LV.S, LV.nil, Nat.reduceEqDiff, Nat.reduceAdd, Nat.reduceMul, Nat.reduceSub, Nat.reduceLeDiff, Nat.reduceBEq, Nat.reduceDiv, Nat.reduceMod, Int.reduceToNat, Int.reduceLT, Int.reduceLE, Int.reduceAdd, Int.reduceSub, Int.reduceMul, Int.reduceEq, Int.reduceNeg, reduceCtorEq, resV, resAll, ARes.ev, LV.flat, ite_true, ite_false, exists_eq_left', exists_eq_left, keyOf, implies_true, fillC, capOf]
    exact ⟨_, rfl, .inl ⟨rfl, rfl⟩, Pre.app _ _⟩
  have hL : LyrOK x y z cs d k := ⟨hH, hdd.2 hd, hk.1, by omega⟩
  rw [show lyrOf x y z cs d k = lyrT x y z d.toNat k cs (sideOf x y z (dirA d.toNat)).toNat from if_pos hL, show lyrB x y z cs d k = true from decide_eq_true hL, decide_eq_true hk]
  obtain ⟨n, rfl⟩ : ∃ n : Nat, d = n := ⟨d.toNat, by omega⟩
  rw [Int.toNat_natCast]
  have hn3 : n < 3 := by omega
  have hk2 : 0 ≤ k ∧ k < sideOf x y z (n : Int) := ⟨hk.1, by omega⟩
  have hin : ∀ c ∈ cs, c.inBox x y z := fun c hc => hH.mem hc
  have hrA : 0 ≤ dirA n ∧ dirA n ≤ 2 := by unfold dirA; split <;> omega
  have hrB : 0 ≤ dirB n ∧ dirB n ≤ 2 := by unfold dirB; split <;> omega
  have sA := sideOf_in hS (dirA n)
  have sB := sideOf_in hS (dirB n)
  have hxA := hix _ hrA
  have hxB := hix _ hrB
  have hlr := fun (i j : Int) => lyr_row (k := k) (i := i) (j := j) hn3
  clear hno hL hdd hisd hix hk hd
  simp (disch := omega) only [↓SXd, SXu, slBounds, ↓sop, ↓aop, ↓reduceIte, LV.cells, AOp.dst, LV.I, LV.B, LV.U, LV.S, LV.nil, Nat.reduceEqDiff, Nat.reduceAdd, Nat.reduceMul, Nat.reduceSub, Nat.reduceLeDiff, Nat.reduceBEq, Nat.reduceDiv, Nat.reduceMod, Int.reduceToNat, Int.reduceLT, Int.reduceLE, Int.reduceAdd, Int.reduceSub, Int.reduceMul, Int.reduceEq, Int.reduceNeg, reduceCtorEq, resV, resAll, ARes.ev, LV.flat, ite_true, ite_false, exists_eq_left', exists_eq_left, keyOf, implies_true, fillC, capOf]
  refine callK_of (g_others hn3) ?_
  change putK _ _ _ (.tup [.I (dirA n), .I (dirB n)]) _
  simp (disch := omega) only [↓SXd, SXu, slBounds, ↓sop, ↓aop, ↓reduceIte, LV.cells, AOp.dst, LV.I, LV.B, LV.U, LV.S, LV.nil, Nat.reduceEqDiff, Nat.reduceAdd, Nat.reduceMul, Nat.reduceSub, Nat.reduceLeDiff, Nat.reduceBEq, Nat.reduceDiv, Nat.reduceMod, Int.reduceToNat, Int.reduceLT, Int.reduceLE, Int.reduceAdd, Int.reduceSub, Int.reduceMul, Int.reduceEq, Int.reduceNeg, reduceCtorEq, resV, resAll, ARes.ev, LV.flat, ite_true, ite_false, exists_eq_left', exists_eq_left, keyOf, implies_true, fillC, capOf]
  refine callK_of (g_box) ?_
  simp (disch := omega) only [hxA, ↓SXd, SXu, slBounds, ↓sop, ↓aop, ↓reduceIte, LV.cells, AOp.dst, LV.I, LV.B, LV.U, LV.S, LV.nil, Nat.reduceEqDiff, Nat.reduceAdd, Nat.reduceMul, Nat.reduceSub, Nat.reduceLeDiff, Nat.reduceBEq, Nat.reduceDiv, Nat.reduceMod, Int.reduceToNat, Int.reduceLT, Int.reduceLE, Int.reduceAdd, Int.reduceSub, Int.reduceMul, Int.reduceEq, Int.reduceNeg, reduceCtorEq, resV, resAll, ARes.ev, LV.flat, ite_true, ite_false, exists_eq_left', exists_eq_left, keyOf, implies_true, fillC, capOf]
  refine ev_loop (fun m fr M' => ∃ (i : Nat) (u : Nat), i + m = (sideOf x y z (dirA n)).toNat ∧ Pre M M' ∧ M.length + 1 ≤ M'.length ∧ Live M' M.length (.row [.I x, .I y, .I z, .ref t 0 cs.length] true 0) ∧ TabO M' u (lyrT x y z n k cs i) M'.length ∧ M.length < u ∧
    fr 1 = .I n ∧ fr 2 = .I k ∧ fr 3 = .ptr M.length 0 ∧ fr 8 = .I (dirA n) ∧ fr 9 = .I (dirB n) ∧ fr 10 = .ref u 0 (lyrT x y z n k cs i).length ∧ fr 43 = .I (sideOf x y z (dirA n)) ∧ fr 44 = .I i) (sideOf x y z (dirA n)).toNat
    ⟨0, M.length + 1, by omega, Pre.app _ _, by simp, Live.new, TabO.nil (Live.newj (j := 1) rfl), by omega, rfl, rfl, rfl, rfl, rfl, rfl, rfl, rfl⟩ ?_
  rintro m fr M' ⟨i, u, hi, hpre, hM', b3, hT, hu, f1, f2, f3, f8, f9, f10, f43, f44⟩
  simp (disch := omega) only [f1, f2, f3, f8, f9, f10, f43, f44, ↓SXd, SXu, slBounds, ↓sop, ↓aop, ↓reduceIte, LV.cells, AOp.dst, LV.I, LV.B, LV.U, LV.S, LV.nil, Nat.reduceEqDiff, Nat.reduceAdd, Nat.reduceMul, Nat.reduceSub, Nat.reduceLeDiff, Nat.reduceBEq, Nat.reduceDiv, Nat.reduceMod, Int.reduceToNat, Int.reduceLT, Int.reduceLE, Int.reduceAdd, Int.reduceSub, Int.reduceMul, Int.reduceEq, Int.reduceNeg, reduceCtorEq, resV, resAll, ARes.ev, LV.flat, ite_true, ite_false, exists_eq_left', exists_eq_left, keyOf, implies_true, fillC, capOf]
  refine condC_dec (fun hlt => ?_) (fun hlt => ?_)
  · have hi4 : i < 4 := by omega
    have hb3l := b3.lt
    have b3' := b3.app (L := [some (.row [] true 1)])
    simp (disch := omega) only [f1, f2, f3, f8, f9, f10, f43, f44, b3'.cells, ↓SXd, SXu, slBounds, ↓sop, ↓aop, ↓reduceIte, LV.cells, AOp.dst, LV.I, LV.B, LV.U, LV.S, LV.nil, Nat.reduceEqDiff, Nat.reduceAdd, Nat.reduceMul, Nat.reduceSub, Nat.reduceLeDiff, Nat.reduceBEq, Nat.reduceDiv, Nat.reduceMod, Int.reduceToNat, Int.reduceLT, Int.reduceLE, Int.reduceAdd, Int.reduceSub, Int.reduceMul, Int.reduceEq, Int.reduceNeg, reduceCtorEq, resV, resAll, ARes.ev, LV.flat, ite_true, ite_false, exists_eq_left', exists_eq_left, keyOf, implies_true, fillC, capOf]
    refine callK_of (g_box) ?_
    simp (disch := omega) only [f1, f2, f3, f8, f9, f10, f43, f44, hxB, ↓SXd, SXu, slBounds, ↓sop, ↓aop, ↓reduceIte, LV.cells, AOp.dst, LV.I, LV.B, LV.U, LV.S, LV.nil, Nat.reduceEqDiff, Nat.reduceAdd, Nat.reduceMul, Nat.reduceSub, Nat.reduceLeDiff, Nat.reduceBEq, Nat.reduceDiv, Nat.reduceMod, Int.reduceToNat, Int.reduceLT, Int.reduceLE, Int.reduceAdd, Int.reduceSub, Int.reduceMul, Int.reduceEq, Int.reduceNeg, reduceCtorEq, resV, resAll, ARes.ev, LV.flat, ite_true, ite_false, exists_eq_left', exists_eq_left, keyOf, implies_true, fillC, capOf]
    refine ev_loop (fun m2 fr N => ∃ (j r : Nat), j + m2 = (sideOf x y z (dirB n)).toNat ∧ Pre M' N ∧ M'.length ≤ r ∧ Live N r (.row (intL (lyrR x y z n k cs i j)) true 1) ∧
      fr 1 = .I n ∧ fr 2 = .I k ∧ fr 3 = .ptr M.length 0 ∧ fr 8 = .I (dirA n) ∧ fr 9 = .I (dirB n) ∧ fr 10 = .ref u 0 (lyrT x y z n k cs i).length ∧ fr 43 = .I (sideOf x y z (dirA n)) ∧ fr 44 = .I i ∧ fr 11 = .I i ∧ fr 12 = .ref r 0 (lyrR x y z n k cs i j).length ∧ fr 51 = .I (sideOf x y z (dirB n)) ∧ fr 52 = .I j) (sideOf x y z (dirB n)).toNat
      ⟨0, M'.length, by omega, Pre.app _ _, Nat.le_refl _, Live.new, f1, f2, f3, f8, f9, f10, f43, f44, rfl, rfl, rfl, rfl⟩ ?_
    clear f1 f2 f3 f8 f9 f10 f43 f44 b3'
    rintro m2 fr N ⟨j, r, hj, hp, hr, br, f1, f2, f3, f8, f9, f10, f43, f44, f11, f12, f51, f52⟩
    have c3 := b3.pre hp
    simp (disch := omega) only [f2, f3, f8, f9, f10, f11, f12, f43, f44, f51, f52, ↓SXd, SXu, slBounds, ↓sop, ↓aop, ↓reduceIte, LV.cells, AOp.dst, LV.I, LV.B, LV.U, LV.S, LV.nil, Nat.reduceEqDiff, Nat.reduceAdd, Nat.reduceMul, Nat.reduceSub, Nat.reduceLeDiff, Nat.reduceBEq, Nat.reduceDiv, Nat.reduceMod, Int.reduceToNat, Int.reduceLT, Int.reduceLE, Int.reduceAdd, Int.reduceSub, Int.reduceMul, Int.reduceEq, Int.reduceNeg, reduceCtorEq, resV, resAll, ARes.ev, LV.flat, ite_true, ite_false, exists_eq_left', exists_eq_left, keyOf, implies_true, fillC, capOf]
    refine condC_dec (fun hlt2 => ?_) (fun hlt2 => ?_)
    · have hj4 : j < 4 := by omega
      have hc3l := c3.lt
      have hbrl := br.lt
      simp (disch := omega) only [f2, f3, f8, f9, f10, f11, f12, f43, f44, f51, f52, splice, ↓SXd, SXu, slBounds, ↓sop, ↓aop, ↓reduceIte, LV.cells, AOp.dst, LV.I, LV.B, LV.U, LV.S, LV.nil, Nat.reduceEqDiff, Nat.reduceAdd, Nat.reduceMul, Nat.reduceSub, Nat.reduceLeDiff, Nat.reduceBEq, Nat.reduceDiv, Nat.reduceMod, Int.reduceToNat, Int.reduceLT, Int.reduceLE, Int.reduceAdd, Int.reduceSub, Int.reduceMul, Int.reduceEq, Int.reduceNeg, reduceCtorEq, resV, resAll, ARes.ev, LV.flat, ite_true, ite_false, exists_eq_left', exists_eq_left, keyOf, implies_true, fillC, capOf]
      have e13 : Live (N ++ [some (.row [.I 0, .I 0, .I 0] true 0)]) N.length (.row [.I 0, .I 0, .I 0] true 0) := Live.new
      have hpN : Pre N (N ++ [some (.row [.I 0, .I 0, .I 0] true 0)]) := Pre.app _ _
      have d3 := c3.pre hpN
      have dr := br.pre hpN
      have hpq := hp.trans hpN
      generalize hN1 : N ++ [some (Blk.row [.I 0, .I 0, .I 0] true 0)] = N1 at e13 hpN d3 dr hpq ⊢
      clear hN1
      have hNl := hp.1
      simp (disch := omega) only [f2, f3, f8, f9, f10, f11, f12, f43, f44, f51, f52, f1, ↓SXd, SXu, slBounds, ↓sop, ↓aop, ↓reduceIte, LV.cells, AOp.dst, LV.I, LV.B, LV.U, LV.S, LV.nil, Nat.reduceEqDiff, Nat.reduceAdd, Nat.reduceMul, Nat.reduceSub, Nat.reduceLeDiff, Nat.reduceBEq, Nat.reduceDiv, Nat.reduceMod, Int.reduceToNat, Int.reduceLT, Int.reduceLE, Int.reduceAdd, Int.reduceSub, Int.reduceMul, Int.reduceEq, Int.reduceNeg, reduceCtorEq, resV, resAll, ARes.ev, LV.flat, ite_true, ite_false, exists_eq_left', exists_eq_left, keyOf, implies_true, fillC, capOf]
      refine memK_at e13 (show n < 3 by omega) fun N2 k1 k2 k3 => ?_
      have hP2 := pre_step hpq (by omega) (j := 0) k1 k3
      have d3 := live_step d3 (by omega) k3
      have dr := live_step dr (by omega) k3
      clear e13 hpN hpq k3
      simp (disch := omega) only [f2, f3, f8, f9, f10, f11, f12, f43, f44, f51, f52, ↓SXd, SXu, slBounds, ↓sop, ↓aop, ↓reduceIte, LV.cells, AOp.dst, LV.I, LV.B, LV.U, LV.S, LV.nil, Nat.reduceEqDiff, Nat.reduceAdd, Nat.reduceMul, Nat.reduceSub, Nat.reduceLeDiff, Nat.reduceBEq, Nat.reduceDiv, Nat.reduceMod, Int.reduceToNat, Int.reduceLT, Int.reduceLE, Int.reduceAdd, Int.reduceSub, Int.reduceMul, Int.reduceEq, Int.reduceNeg, reduceCtorEq, resV, resAll, ARes.ev, LV.flat, ite_true, ite_false, exists_eq_left', exists_eq_left, keyOf, implies_true, fillC, capOf]
      refine memK_at k2 (show (dirA n).toNat < ([LV.I 0, .I 0, .I 0].set n (.I k)).length by simp; omega) fun N3 q1 q2 q3 => ?_
      have hP3 := pre_step hP2 (by omega) (j := 0) q1 q3
      have d3 := live_step d3 (by omega) q3
      have dr := live_step dr (by omega) q3
      clear k2 q3 hP2
      simp (disch := omega) only [f2, f3, f8, f9, f10, f11, f12, f43, f44, f51, f52, ↓SXd, SXu, slBounds, ↓sop, ↓aop, ↓reduceIte, LV.cells, AOp.dst, LV.I, LV.B, LV.U, LV.S, LV.nil, Nat.reduceEqDiff, Nat.reduceAdd, Nat.reduceMul, Nat.reduceSub, Nat.reduceLeDiff, Nat.reduceBEq, Nat.reduceDiv, Nat.reduceMod, Int.reduceToNat, Int.reduceLT, Int.reduceLE, Int.reduceAdd, Int.reduceSub, Int.reduceMul, Int.reduceEq, Int.reduceNeg, reduceCtorEq, resV, resAll, ARes.ev, LV.flat, ite_true, ite_false, exists_eq_left', exists_eq_left, keyOf, implies_true, fillC, capOf]
      refine memK_at q2 (show (dirB n).toNat < (([LV.I 0, .I 0, .I 0].set n (.I k)).set (dirA n).toNat (.I i)).length by simp; omega) fun N4 w1 w2 w3 => ?_
      have hP4 := pre_step hP3 (by omega) (j := 0) w1 w3
      have d3 := live_step d3 (by omega) w3
      have dr := live_step dr (by omega) w3
      rw [hlr] at w2
      clear q2 w3 hP3
      have hcb : (lyrC n k i j).inBox x y z := ((lyr_in hS hn3 hk2).2 ⟨i, j, ⟨by omega, by omega⟩, rfl⟩).1
      have hlv : lyrV n k cs i j = if lyrC n k i j ∈ cs then 1 else 0 := rfl
      have hrs := lyrR_succ (x := x) (y := y) (z := z) (d := n) (k := k) (cs := cs) (i := i) (n := j)
      have hrl := lyrR_len (x := x) (y := y) (z := z) (d := n) (k := k) (cs := cs) (i := i) (n := j)
      simp (disch := omega) only [f2, f3, f8, f9, f10, f11, f12, f43, f44, f51, f52, d3.cells, w2.cells, ↓SXd, SXu, slBounds, ↓sop, ↓aop, ↓reduceIte, LV.cells, AOp.dst, LV.I, LV.B, LV.U, LV.S, LV.nil, Nat.reduceEqDiff, Nat.reduceAdd, Nat.reduceMul, Nat.reduceSub, Nat.reduceLeDiff, Nat.reduceBEq, Nat.reduceDiv, Nat.reduceMod, Int.reduceToNat, Int.reduceLT, Int.reduceLE, Int.reduceAdd, Int.reduceSub, Int.reduceMul, Int.reduceEq, Int.reduceNeg, reduceCtorEq, resV, resAll, ARes.ev, LV.flat, ite_true, ite_false, exists_eq_left', exists_eq_left, keyOf, implies_true, fillC, capOf]
      refine callK_of (g_hasCube ((h.pre hpre).pre hP4) hn hS hin hcb) ?_
      by_cases hm : lyrC n k i j ∈ cs
      · rw [if_pos hm] at hlv
        rw [decide_eq_true hm]
        simp (disch := omega) only [f2, f3, f8, f9, f10, f11, f12, f43, f44, f51, f52, ↓SXd, SXu, slBounds, ↓sop, ↓aop, ↓reduceIte, LV.cells, AOp.dst, LV.I, LV.B, LV.U, LV.S, LV.nil, Nat.reduceEqDiff, Nat.reduceAdd, Nat.reduceMul, Nat.reduceSub, Nat.reduceLeDiff, Nat.reduceBEq, Nat.reduceDiv, Nat.reduceMod, Int.reduceToNat, Int.reduceLT, Int.reduceLE, Int.reduceAdd, Int.reduceSub, Int.reduceMul, Int.reduceEq, Int.reduceNeg, reduceCtorEq, resV, resAll, ARes.ev, LV.flat, ite_true, ite_false, exists_eq_left', exists_eq_left, keyOf, implies_true, fillC, capOf]
        refine appendK_int dr (by omega) fun N5 l1 l2 l3 => ?_
        rw [hlv] at hrs
        rw [← hrs] at l2 ⊢
        simp (disch := omega) only [f2, f3, f8, f9, f10, f11, f12, f43, f44, f51, f52, ↓SXd, SXu, slBounds, ↓sop, ↓aop, ↓reduceIte, LV.cells, AOp.dst, LV.I, LV.B, LV.U, LV.S, LV.nil, Nat.reduceEqDiff, Nat.reduceAdd, Nat.reduceMul, Nat.reduceSub, Nat.reduceLeDiff, Nat.reduceBEq, Nat.reduceDiv, Nat.reduceMod, Int.reduceToNat, Int.reduceLT, Int.reduceLE, Int.reduceAdd, Int.reduceSub, Int.reduceMul, Int.reduceEq, Int.reduceNeg, reduceCtorEq, resV, resAll, ARes.ev, LV.flat, ite_true, ite_false, exists_eq_left', exists_eq_left, keyOf, implies_true, fillC, capOf]
        exact ⟨m2 - 1, by omega, j + 1, N4.length + 1, by omega, pre_step hP4 (by omega) (j := 2) l1 l3, by have := hP4.1; omega, l2, f1, f2, f3, f8, f9, f10, f43, f44, f11, rfl, f51, eqI (natI _)⟩
      · rw [if_neg hm] at hlv
        rw [decide_eq_false hm]
        simp (disch := omega) only [f2, f3, f8, f9, f10, f11, f12, f43, f44, f51, f52, ↓SXd, SXu, slBounds, ↓sop, ↓aop, ↓reduceIte, LV.cells, AOp.dst, LV.I, LV.B, LV.U, LV.S, LV.nil, Nat.reduceEqDiff, Nat.reduceAdd, Nat.reduceMul, Nat.reduceSub, Nat.reduceLeDiff, Nat.reduceBEq, Nat.reduceDiv, Nat.reduceMod, Int.reduceToNat, Int.reduceLT, Int.reduceLE, Int.reduceAdd, Int.reduceSub, Int.reduceMul, Int.reduceEq, Int.reduceNeg, reduceCtorEq, resV, resAll, ARes.ev, LV.flat, ite_true, ite_false, exists_eq_left', exists_eq_left, keyOf, implies_true, fillC, capOf]
        refine appendK_int dr (by omega) fun N5 l1 l2 l3 => ?_
        rw [hlv] at hrs
        rw [← hrs] at l2 ⊢
        simp (disch := omega) only [f2, f3, f8, f9, f10, f11, f12, f43, f44, f51, f52, ↓SXd, SXu, slBounds, ↓sop, ↓aop, ↓reduceIte, LV.cells, AOp.dst, LV.I, LV.B, LV.U, LV.S, LV.nil, Nat.reduceEqDiff, Nat.reduceAdd, Nat.reduceMul, Nat.reduceSub, Nat.reduceLeDiff, Nat.reduceBEq, Nat.reduceDiv, Nat.reduceMod, Int.reduceToNat, Int.reduceLT, Int.reduceLE, Int.reduceAdd, Int.reduceSub, Int.reduceMul, Int.reduceEq, Int.reduceNeg, reduceCtorEq, resV, resAll, ARes.ev, LV.flat, ite_true, ite_false, exists_eq_left', exists_eq_left, keyOf, implies_true, fillC, capOf]
        exact ⟨m2 - 1, by omega, j + 1, N4.length + 1, by omega, pre_step hP4 (by omega) (j := 2) l1 l3, by have := hP4.1; omega, l2, f1, f2, f3, f8, f9, f10, f43, f44, f11, rfl, f51, eqI (natI _)⟩
    · have hjl : j = (sideOf x y z (dirB n)).toNat := by omega
      subst hjl
      have hts := lyrT_succ (x := x) (y := y) (z := z) (d := n) (k := k) (cs := cs) (m := i)
      have htl := lyrT_len (x := x) (y := y) (z := z) (d := n) (k := k) (cs := cs) (m := i)
      simp (disch := omega) only [f2, f3, f8, f9, f10, f11, f12, f43, f44, f51, f52, ↓SXd, SXu, slBounds, ↓sop, ↓aop, ↓reduceIte, LV.cells, AOp.dst, LV.I, LV.B, LV.U, LV.S, LV.nil, Nat.reduceEqDiff, Nat.reduceAdd, Nat.reduceMul, Nat.reduceSub, Nat.reduceLeDiff, Nat.reduceBEq, Nat.reduceDiv, Nat.reduceMod, Int.reduceToNat, Int.reduceLT, Int.reduceLE, Int.reduceAdd, Int.reduceSub, Int.reduceMul, Int.reduceEq, Int.reduceNeg, reduceCtorEq, resV, resAll, ARes.ev, LV.flat, ite_true, ite_false, exists_eq_left', exists_eq_left, keyOf, implies_true, fillC, capOf]
      refine appendK_tab hT hp br hr (by omega) (hpre.trans hp) (by omega) fun u' Q hTab hM hu' hold hQl => ?_
      rw [← hts] at hTab ⊢
      simp (disch := omega) only [f2, f3, f8, f9, f10, f11, f12, f43, f44, f51, f52, ↓SXd, SXu, slBounds, ↓sop, ↓aop, ↓reduceIte, LV.cells, AOp.dst, LV.I, LV.B, LV.U, LV.S, LV.nil, Nat.reduceEqDiff, Nat.reduceAdd, Nat.reduceMul, Nat.reduceSub, Nat.reduceLeDiff, Nat.reduceBEq, Nat.reduceDiv, Nat.reduceMod, Int.reduceToNat, Int.reduceLT, Int.reduceLE, Int.reduceAdd, Int.reduceSub, Int.reduceMul, Int.reduceEq, Int.reduceNeg, reduceCtorEq, resV, resAll, ARes.ev, LV.flat, ite_true, ite_false, exists_eq_left', exists_eq_left, keyOf, implies_true, fillC, capOf]
      have hc3l := c3.lt
      refine ⟨m - 1, by omega, i + 1, u', by omega, hM, by omega, ?_, hTab, by rcases hu' with e | e <;> omega, f1, f2, f3, f8, f9, rfl, f43, eqI (natI _)⟩
      unfold Live at c3 ⊢
      rw [hold _ (by omega) hc3l]; exact c3
  · have hil : i = (sideOf x y z (dirA n)).toNat := by omega
    subst hil
    simp (disch := omega) only [f1, f2, f3, f8, f9, f10, f43, f44, ↓SXd, SXu, slBounds, ↓sop, ↓aop, ↓reduceIte, LV.cells, AOp.dst, LV.I, LV.B, LV.U, LV.S, LV.nil, Nat.reduceEqDiff, Nat.reduceAdd, Nat.reduceMul, Nat.reduceSub, Nat.reduceLeDiff, Nat.reduceBEq, Nat.reduceDiv, Nat.reduceMod, Int.reduceToNat, Int.reduceLT, Int.reduceLE, Int.reduceAdd, Int.reduceSub, Int.reduceMul, Int.reduceEq, Int.reduceNeg, reduceCtorEq, resV, resAll, ARes.ev, LV.flat, ite_true, ite_false, exists_eq_left', exists_eq_left, keyOf, implies_true, fillC, capOf]
    exact ⟨_, rfl, hT.v, hpre⟩
end
end Go.Ab

/- The abstract code of some functions (written by a program of mine from the translation, by way of prepF). -/
namespace Go.Ab.C
open Go.Ab
end Go.Ab.C

/- That the program has this code. -/
namespace Go.Ab.K
open Go Go.Ab
end Go.Ab.K

/- The abstract code of some functions (written by a program of mine from the translation, by way of prepF). -/
namespace Go.Ab.C
open Go.Ab
end Go.Ab.C

/- That the program has this code. -/
namespace Go.Ab.K
open Go Go.Ab
end Go.Ab.K

/- The abstract code of some functions (written by a program of mine from the translation, by way of prepF). -/
namespace Go.Ab.C
open Go.Ab
end Go.Ab.C

/- That the program has this code. -/
namespace Go.Ab.K
open Go Go.Ab
end Go.Ab.K

/- Contracts: the reference's cubes that stand or hang. -/
namespace Go.Ab
open Go
set_option linter.unusedSimpArgs false
set_option linter.unusedVariables false

end Go.Ab

/- Contracts: what stands, both sides. -/
namespace Go.Ab
open Go
set_option linter.unusedSimpArgs false
set_option linter.unusedVariables false

/-- All of a set stands. -/
def Firm (x y z : Int) (p : Cell → Bool) : Prop := ∀ c, c.inBox x y z → p c = true → stand x y z p c = true
noncomputable instance (x y z : Int) (p : Cell → Bool) : Decidable (Firm x y z p) := Classical.propDecidable _
section
variable {x y z : Int} (hS : Sides x y z)
include hS
/-- A cube can be taken. -/
noncomputable def canTake (x y z : Int) (p : Cell → Bool) (c : Cell) : Bool := p c && decide (Firm x y z fun d => p d && !decide (d = c))

end

end Go.Ab

/- Plain words: the first cell of a set; laying and taking orders. -/
namespace Go.Ab

def first (x y z : Int) (p : Cell → Bool) : Cell := (pick x y z p).headD default
section
variable {x y z : Int} (hS : Sides x y z)
include hS
/-- A cube that may be laid. -/
def layC (q : Cell → Bool) (laid : List Cell) : Cell → Bool := fun c => q c && (!decide (c ∈ laid) && (decide (c.c = 0) || laid.any fun d => decide (apart d c = 1)))
def layL (x y z : Int) (q : Cell → Bool) : Nat → List Cell
  | 0 => []
  | k + 1 => layL x y z q k ++ [first x y z (layC q (layL x y z q k))]

/-- The taking order. -/
noncomputable def takeL (x y z : Int) (q : Cell → Bool) : Nat → List Cell
  | 0 => []
  | k + 1 => takeL x y z q k ++ [first x y z (canTake x y z fun d => q d && !decide (d ∈ takeL x y z q k))]
end
end Go.Ab

/- Plain words: sinking. -/
namespace Go.Ab

def up (c : Cell) : Cell := ⟨c.a, c.b, c.c + 1⟩
def down (c : Cell) : Cell := ⟨c.a, c.b, c.c - 1⟩
noncomputable def hang (x y z : Int) (p : Cell → Bool) : Cell → Bool := fun c => p c && !stand x y z p c
noncomputable def sinkNext (x y z : Int) (p : Cell → Bool) : Cell → Bool := fun d => stand x y z p d || (decide ((up d).inBox x y z) && hang x y z p (up d))
/-- The first k cubes that hang have sunk. -/
noncomputable def sinkK (x y z : Int) (p : Cell → Bool) (k : Nat) : Cell → Bool := fun d => stand x y z p d || ((pick x y z (hang x y z p)).take k).any fun e => decide (d = down e)
noncomputable def sink (x y z : Int) : Nat → (Cell → Bool) → (Cell → Bool) × Nat
  | 0, p => (p, 0)
  | f + 1, p => if Firm x y z p then (p, 0) else ((sink x y z f (sinkNext x y z p)).1, (sink x y z f (sinkNext x y z p)).2 + 1)

def sumC (l : List Cell) : Nat := (l.map fun c => c.c.toNat).sum
section
variable {x y z : Int} (hS : Sides x y z)
include hS
end
end Go.Ab

/- Contracts: sinking, both sides. -/
namespace Go.Ab
open Go
set_option linter.unusedSimpArgs false
set_option linter.unusedVariables false

/-- What SinkHeap answers. -/
noncomputable def sinkOf (x y z : Int) (cs : List Cell) : Option Hp := by
  classical
  exact if HeapOK x y z cs then some ⟨x, y, z, pick x y z (sink x y z 1000 fun c => decide (c ∈ cs)).1⟩ else none
noncomputable def sinkTimes (x y z : Int) (cs : List Cell) : Int := by
  classical
  exact if HeapOK x y z cs then ((sink x y z 1000 fun c => decide (c ∈ cs)).2 : Nat) else 0
end Go.Ab

/- Plain: drops, views from above, what sinks; settled heaps. -/
namespace Go.Ab
open Go
set_option linter.unusedSimpArgs false
set_option linter.unusedVariables false
set_option maxRecDepth 20000

/-- How many cells of a set lie in a column. -/
def colN (x y z : Int) (j : Nat) (p : Cell → Bool) : Nat := (pick x y z fun c => p c && onLine y z 2 j c).length
theorem col_count {x y z : Int} {j : Nat} {p : Cell → Bool} : (pick x y z p).countP (onLine y z 2 j) = colN x y z j p := by
  unfold colN
  rw [← filter_pick p (onLine y z 2 j), List.countP_eq_length_filter]
theorem view_get {x y z : Int} {j : Nat} {p : Cell → Bool} (h : j < (x * y).toNat) : (viewL x y z 2 (pick x y z p)).getD j 0 = (colN x y z j p : Nat) := by
  rw [viewL_get (d := 2) (by exact h), col_count]
/-- Some cells of a set, each moved down by one. -/
def movD (x y z : Int) (H p : Cell → Bool) : Cell → Bool := fun d => (p d && !H d) || (decide ((up d).inBox x y z) && H (up d))
section
variable {x y z : Int} (hS : Sides x y z)
include hS
end
/-- The cells of a column, from the floor. -/
def colL (a b : Int) (n : Nat) : List Cell := (List.range n).map fun k : Nat => ⟨a, b, (k : Int)⟩
theorem colL_len {a b : Int} {n : Nat} : (colL a b n).length = n := by simp [colL]
theorem mem_colL {a b : Int} {n : Nat} {c : Cell} : c ∈ colL a b n ↔ c.a = a ∧ c.b = b ∧ 0 ≤ c.c ∧ c.c < n := by
  unfold colL
  rw [List.mem_map]
  constructor
  · rintro ⟨k, hk, rfl⟩
    rw [List.mem_range] at hk
    exact ⟨rfl, rfl, by simp only; omega, by simp only; omega⟩
  · rintro ⟨h1, h2, h3, h4⟩
    exact ⟨c.c.toNat, List.mem_range.2 (by omega), by rw [cell_eq]; exact ⟨h1.symm, h2.symm, by simp only; omega⟩⟩
theorem colL_nodup {a b : Int} {n : Nat} : (colL a b n).Nodup := by
  unfold colL
  refine List.Pairwise.map _ (fun i j hne h => hne ?_) List.nodup_range
  have : ((i : Nat) : Int) = j := congrArg Cell.c h
  omega
section
variable {x y z : Int} (hS : Sides x y z)
include hS
theorem line_cell {c d : Cell} (hc : c.inBox x y z) (hd : d.inBox x y z) : onLine y z 2 (d.a * y + d.b).toNat c = true ↔ c.a = d.a ∧ c.b = d.b := by
  obtain ⟨hx, hy, hz⟩ := hS
  obtain ⟨⟨_, _⟩, ⟨_, _⟩, ⟨_, _⟩⟩ := hc
  obtain ⟨⟨_, _⟩, ⟨_, _⟩, ⟨_, _⟩⟩ := hd
  unfold onLine lineOf
  rw [decide_eq_true_iff, if_neg (by omega), if_neg (by omega)]
  have e2 : y = 1 ∨ y = 2 ∨ y = 3 ∨ y = 4 := by omega
  rcases e2 with rfl | rfl | rfl | rfl <;> omega
theorem col_at {j : Nat} (hj : j < (x * y).toNat) : ∃ d : Cell, d.inBox x y z ∧ (d.a * y + d.b).toNat = j := by
  obtain ⟨hx, hy, hz⟩ := hS
  refine ⟨⟨(j : Int) / y, (j : Int) % y, 0⟩, ?_, ?_⟩
  · have e2 : y = 1 ∨ y = 2 ∨ y = 3 ∨ y = 4 := by omega
    have e1 : x = 1 ∨ x = 2 ∨ x = 3 ∨ x = 4 := by omega
    refine ⟨⟨?_, ?_⟩, ⟨?_, ?_⟩, ⟨?_, ?_⟩⟩ <;> simp only <;> rcases e1 with rfl | rfl | rfl | rfl <;> rcases e2 with rfl | rfl | rfl | rfl <;> omega
  · have e2 : y = 1 ∨ y = 2 ∨ y = 3 ∨ y = 4 := by omega
    rcases e2 with rfl | rfl | rfl | rfl <;> simp only <;> omega
theorem col_lt {d : Cell} (hd : d.inBox x y z) : (d.a * y + d.b).toNat < (x * y).toNat := by
  obtain ⟨hx, hy, hz⟩ := hS
  obtain ⟨⟨_, _⟩, ⟨_, _⟩, ⟨_, _⟩⟩ := hd
  have e2 : y = 1 ∨ y = 2 ∨ y = 3 ∨ y = 4 := by omega
  rcases e2 with rfl | rfl | rfl | rfl <;> omega
/-- All cells below a cell of the set are in it. -/
def Filled1 (x y z : Int) (p : Cell → Bool) : Prop := ∀ c, c.inBox x y z → p c = true → 0 < c.c → p (down c) = true
/-- A cell with nothing below. -/
def looseP (p : Cell → Bool) (c : Cell) : Bool := decide (0 < c.c) && !p (down c)
end
end Go.Ab

/- The abstract code of some functions (written by a program of mine from the translation, by way of prepF). -/
namespace Go.Ab.C
open Go.Ab
def spec_StackHeap : AFn :=
 ⟨4, 44, [.cellN 8 4, .tmp 9],
 .seq (.ops [(none, .alloc 8 [(.I 0), (.I 0), (.I 0), .nil]),
 (none, .mv 9 (.c (.B false)))])
 (.seq (.seq (.ops [(none, .mv 11 (.t 0)),
 (none, .mv 12 (.t 1)),
 (none, .mv 13 (.t 2)),
 (none, .call (some 14) F.spec_l2Sides [(.t 11), (.t 12), (.t 13)]),
 (none, .un 15 .not (.t 14)),
 (none, .mv 16 (.t 15)),
 (some (16, false), .mv 17 (.t 3)),
 (some (16, false), .len 18 (.t 17)),
 (some (16, false), .mv 19 (.t 0)),
 (some (16, false), .mv 20 (.t 1)),
 (some (16, false), .bin 21 .mul (.t 19) (.t 20)),
 (some (16, false), .bin 22 .neq (.t 18) (.t 21)),
 (none, .pick 23 (.t 16) (.c (.B true)) (.t 22))])
 (.cond (.t 23) (.seq (.ops [(none, .build 24 [(.I 0), (.I 0), (.I 0), .nil] []),
 (none, .store 4 (.t 8) (.t 24)),
 (none, .mv 9 (.c (.B false)))])
 (.ret))
 (.skip)))
 (.seq (.seq (.ops [(none, .mv 10 (.c (.I 0)))])
 (.block 0 (.loop (.seq (.seq (.ops [(none, .mv 25 (.t 10)),
 (none, .mv 26 (.t 3)),
 (none, .len 27 (.t 26)),
 (none, .bin 28 .lss (.t 25) (.t 27))])
 (.cond (.t 28) (.skip)
 (.exit 0)))
 (.seq (.block 1 (.seq (.ops [(none, .mv 31 (.t 3)),
 (none, .mv 32 (.t 10)),
 (none, .idxS 33 1 (.t 31) (.t 32)),
 (none, .load1 34 (.t 33)),
 (none, .mv 35 (.t 2)),
 (none, .call (some 36) F.spec_l1In [(.t 34), (.c (.I 0)), (.t 35)]),
 (none, .un 37 .not (.t 36))])
 (.cond (.t 37) (.seq (.ops [(none, .build 38 [(.I 0), (.I 0), (.I 0), .nil] []),
 (none, .store 4 (.t 8) (.t 38)),
 (none, .mv 9 (.c (.B false)))])
 (.ret))
 (.skip))))
 (.ops [(none, .mv 29 (.t 10)),
 (none, .bin 30 .add (.t 29) (.c (.I 1))),
 (none, .mv 10 (.t 30))]))))))
 (.seq (.ops [(none, .mv 39 (.t 0)),
 (none, .mv 40 (.t 1)),
 (none, .mv 41 (.t 2)),
 (none, .mv 42 (.t 3)),
 (none, .call (some 43) F.spec_l2Stack [(.t 39), (.t 40), (.t 41), (.t 42)]),
 (none, .store 4 (.t 8) (.t 43)),
 (none, .mv 9 (.c (.B true)))])
 (.ret))))⟩
def impl_StackHeap : AFn :=
 ⟨4, 38, [.cellN 8 4, .tmp 9],
 .seq (.ops [(none, .alloc 8 [(.I 0), (.I 0), (.I 0), .nil]),
 (none, .mv 9 (.c (.B false)))])
 (.seq (.ops [(none, .mv 11 (.t 0)),
 (none, .mv 12 (.t 1)),
 (none, .mv 13 (.t 2)),
 (none, .build 14 [(.I 0), (.I 0), (.I 0)] [(0, 1, (.t 11)), (1, 1, (.t 12)), (2, 1, (.t 13))]),
 (none, .alloc 10 [(.I 0), (.I 0), (.I 0)]),
 (none, .store 3 (.t 10) (.t 14))])
 (.seq (.seq (.ops [(none, .loadN 15 3 (.t 10)),
 (none, .call (some 16) F.impl_box_valid [(.t 15)]),
 (none, .un 17 .not (.t 16)),
 (none, .mv 18 (.t 17)),
 (some (18, false), .mv 19 (.t 3)),
 (some (18, false), .len 20 (.t 19)),
 (some (18, false), .mv 21 (.t 0)),
 (some (18, false), .mv 22 (.t 1)),
 (some (18, false), .bin 23 .mul (.t 21) (.t 22)),
 (some (18, false), .bin 24 .neq (.t 20) (.t 23)),
 (none, .pick 25 (.t 18) (.c (.B true)) (.t 24)),
 (none, .mv 26 (.t 25)),
 (some (26, false), .mv 27 (.t 3)),
 (some (26, false), .mv 28 (.t 2)),
 (some (26, false), .call (some 29) F.impl_allWithin [(.t 27), (.c (.I 0)), (.t 28)]),
 (some (26, false), .un 30 .not (.t 29)),
 (none, .pick 31 (.t 26) (.c (.B true)) (.t 30))])
 (.cond (.t 31) (.seq (.ops [(none, .build 32 [(.I 0), (.I 0), (.I 0), .nil] []),
 (none, .store 4 (.t 8) (.t 32)),
 (none, .mv 9 (.c (.B false)))])
 (.ret))
 (.skip)))
 (.seq (.draw [⟨(none, .loadN 33 3 (.t 10)), [], []⟩,
 ⟨(none, .loadN 34 3 (.t 10)), [], []⟩,
 ⟨(none, .mv 35 (.t 3)), [], []⟩,
 ⟨(none, .call (some 36) F.impl_box_stack [(.t 34), (.t 35)]), [], [0]⟩,
 ⟨(none, .call (some 37) F.impl_box_heap [(.t 33), (.t 36)]), [], []⟩,
 ⟨(none, .store 4 (.t 8) (.t 37)), [], []⟩,
 ⟨(none, .mv 9 (.c (.B true))), [], []⟩])
 (.ret))))⟩
def spec_DrawLayerOf : AFn :=
 ⟨1, 16, [.cellN 2 4, .tmp 3, .tmp 4],
 .seq (.ops [(none, .alloc 2 [(.I 0), (.I 0), (.I 0), .nil]),
 (none, .mv 3 (.c (.I 0))),
 (none, .mv 4 (.c (.I 0)))])
 (.seq (.ops [(none, .mv 6 (.t 0)),
 (none, .build 7 [.nil, (.I 0), (.U 0)] [(0, 1, (.t 6))]),
 (none, .box 8 (.t 7)),
 (none, .mv 5 (.t 8))])
 (.seq (.ops [(none, .mv 9 (.t 5)),
 (none, .call (some 10) F.spec_l1Cur_heap [(.t 9)]),
 (none, .mv 11 (.t 5)),
 (none, .call (some 12) F.spec_l1Cur_direction [(.t 11)]),
 (none, .mv 13 (.t 5)),
 (none, .buildSl 14 8 1 [(.I 0), (.I 0), (.I 0), (.I 0), (.I 0), (.I 0), (.I 0), (.I 0)] [(0, 1, (.c (.I 0))), (1, 1, (.c (.I 1))), (2, 1, (.c (.I 0))), (3, 1, (.c (.I 1))), (4, 1, (.c (.I 2))), (5, 1, (.c (.I 3))), (6, 1, (.c (.I 4))), (7, 1, (.c (.I (-1))))]),
 (none, .call (some 15) F.spec_l1Cur_among [(.t 13), (.t 14)]),
 (none, .store 4 (.t 2) (.t 10)),
 (none, .mv 3 (.t 12)),
 (none, .mv 4 (.t 15))])
 (.ret)))⟩
def spec_DrawStackHeap : AFn :=
 ⟨1, 63, [.tmp 2, .tmp 3, .tmp 4, .tmp 5],
 .seq (.ops [(none, .mv 2 (.c (.I 0))),
 (none, .mv 3 (.c (.I 0))),
 (none, .mv 4 (.c (.I 0))),
 (none, .mv 5 (.c .nil))])
 (.seq (.ops [(none, .mv 12 (.t 0)),
 (none, .build 13 [.nil, (.I 0), (.U 0)] [(0, 1, (.t 12))]),
 (none, .box 14 (.t 13)),
 (none, .mv 6 (.t 14))])
 (.seq (.ops [(none, .mv 16 (.t 6)),
 (none, .call (some 17) F.spec_l1Cur_sides [(.t 16)]),
 (none, .mv 15 (.t 17)),
 (none, .extract 18 (.t 15) 0),
 (none, .extract 19 (.t 15) 1),
 (none, .extract 20 (.t 15) 2),
 (none, .mv 7 (.t 18)),
 (none, .mv 8 (.t 19)),
 (none, .mv 9 (.t 20))])
 (.seq (.ops [(none, .buildSl 21 0 1 [] []),
 (none, .mv 10 (.t 21))])
 (.seq (.seq (.ops [(none, .mv 11 (.c (.I 0)))])
 (.block 0 (.loop (.seq (.seq (.ops [(none, .mv 22 (.t 11)),
 (none, .mv 23 (.t 7)),
 (none, .call (some 24) F.spec_l2Fit [(.t 23)]),
 (none, .mv 25 (.t 8)),
 (none, .call (some 26) F.spec_l2Fit [(.t 25)]),
 (none, .bin 27 .mul (.t 24) (.t 26)),
 (none, .bin 28 .lss (.t 22) (.t 27))])
 (.cond (.t 28) (.skip)
 (.exit 0)))
 (.seq (.block 1 (.ops [(none, .mv 31 (.t 10)),
 (none, .mv 32 (.t 6)),
 (none, .mv 33 (.t 9)),
 (none, .call (some 34) F.spec_l2Fit [(.t 33)]),
 (none, .bin 35 .add (.t 34) (.c (.I 1))),
 (none, .call (some 36) F.spec_l1Cur_pick [(.t 32), (.t 35)]),
 (none, .buildSl 37 1 1 [(.I 0)] [(0, 1, (.t 36))]),
 (none, .append 38 1 8 (.t 31) (.t 37)),
 (none, .mv 10 (.t 38))]))
 (.ops [(none, .mv 29 (.t 11)),
 (none, .bin 30 .add (.t 29) (.c (.I 1))),
 (none, .mv 11 (.t 30))]))))))
 (.seq (.seq (.ops [(none, .mv 39 (.t 10)),
 (none, .len 40 (.t 39)),
 (none, .bin 41 .gtr (.t 40) (.c (.I 0))),
 (none, .mv 42 (.t 41)),
 (some (42, true), .mv 43 (.t 6)),
 (some (42, true), .call (some 44) F.spec_l1Cur_one [(.t 43), (.c (.I 20))]),
 (none, .pick 45 (.t 42) (.t 44) (.c (.B false)))])
 (.cond (.t 45) (.ops [(none, .mv 46 (.t 10)),
 (none, .mv 47 (.t 6)),
 (none, .mv 48 (.t 9)),
 (none, .mv 49 (.t 9)),
 (none, .bin 50 .add (.t 49) (.c (.I 1))),
 (none, .buildSl 51 4 1 [(.I 0), (.I 0), (.I 0), (.I 0)] [(0, 1, (.c (.I (-1)))), (1, 1, (.t 48)), (2, 1, (.t 50)), (3, 1, (.c (.I 4611686018427387904)))]),
 (none, .call (some 52) F.spec_l1Cur_among [(.t 47), (.t 51)]),
 (none, .idxS 53 1 (.t 46) (.c (.I 0))),
 (none, .store 1 (.t 53) (.t 52))])
 (.skip)))
 (.seq (.seq (.ops [(none, .mv 54 (.t 6)),
 (none, .call (some 55) F.spec_l1Cur_one [(.t 54), (.c (.I 30))])])
 (.cond (.t 55) (.ops [(none, .mv 56 (.t 10)),
 (none, .buildSl 57 1 1 [(.I 0)] [(0, 1, (.c (.I 0)))]),
 (none, .append 58 1 8 (.t 56) (.t 57)),
 (none, .mv 10 (.t 58))])
 (.skip)))
 (.seq (.ops [(none, .mv 59 (.t 7)),
 (none, .mv 60 (.t 8)),
 (none, .mv 61 (.t 9)),
 (none, .mv 62 (.t 10)),
 (none, .mv 2 (.t 59)),
 (none, .mv 3 (.t 60)),
 (none, .mv 4 (.t 61)),
 (none, .mv 5 (.t 62))])
 (.ret))))))))⟩
end Go.Ab.C

/- That the program has this code. -/
namespace Go.Ab.K
open Go Go.Ab
theorem spec_StackHeap : prepF Go.Proofs.Try.prog F.spec_StackHeap = some C.spec_StackHeap := by kernel_rfl
theorem impl_StackHeap : prepF Go.Proofs.Try.prog F.impl_StackHeap = some C.impl_StackHeap := by kernel_rfl
theorem spec_DrawLayerOf : prepF Go.Proofs.Try.prog F.spec_DrawLayerOf = some C.spec_DrawLayerOf := by kernel_rfl
theorem spec_DrawStackHeap : prepF Go.Proofs.Try.prog F.spec_DrawStackHeap = some C.spec_DrawStackHeap := by kernel_rfl
end Go.Ab.K

/- The abstract code of some functions (written by a program of mine from the translation, by way of prepF). -/
namespace Go.Ab.C
open Go.Ab
def impl_box_stack : AFn :=
 ⟨2, 8, [.tmp 4],
 .seq (.ops [(none, .box 2 (.t 0)),
 (none, .box 3 (.t 1)),
 (none, .mv 4 (.c (.U 0)))])
 (.seq (.ops [(none, .loadN 5 3 (.t 2)),
 (none, .mkf 6 F.impl_box_stack_1 [(.t 3), (.t 2)]),
 (none, .call (some 7) F.impl_box_those [(.t 5), (.t 6)]),
 (none, .mv 4 (.t 7))])
 (.ret))⟩
def impl_box_stack_1 : AFn :=
 ⟨3, 14, [.tmp 4],
 .seq (.ops [(none, .box 3 (.t 0)),
 (none, .mv 4 (.c (.B false)))])
 (.seq (.draw [⟨(none, .idxA 5 3 1 (.t 3) (.c (.I 2))), [], []⟩,
 ⟨(none, .load1 6 (.t 5)), [], []⟩,
 ⟨(none, .load1 7 (.t 1)), [], []⟩,
 ⟨(none, .loadN 8 3 (.t 2)), [], []⟩,
 ⟨(none, .loadN 9 3 (.t 3)), [], []⟩,
 ⟨(none, .call (some 10) F.impl_box_line [(.t 8), (.t 9), (.c (.I 2))]), [], [0, 1, 2]⟩,
 ⟨(none, .idxS 11 1 (.t 7) (.t 10)), [], []⟩,
 ⟨(none, .load1 12 (.t 11)), [], []⟩,
 ⟨(none, .bin 13 .lss (.t 6) (.t 12)), [], []⟩,
 ⟨(none, .mv 4 (.t 13)), [], []⟩])
 (.ret))⟩
end Go.Ab.C

/- That the program has this code. -/
namespace Go.Ab.K
open Go Go.Ab
theorem impl_box_stack : prepF Go.Proofs.Try.prog F.impl_box_stack = some C.impl_box_stack := by kernel_rfl
theorem impl_box_stack_1 : prepF Go.Proofs.Try.prog F.impl_box_stack_1 = some C.impl_box_stack_1 := by kernel_rfl
end Go.Ab.K

/- The abstract code of some functions (written by a program of mine from the translation, by way of prepF). -/
namespace Go.Ab.C
open Go.Ab
end Go.Ab.C

/- That the program has this code. -/
namespace Go.Ab.K
open Go Go.Ab
end Go.Ab.K

/- Contracts: the reference's drops, sums, standing and hanging cubes. -/
namespace Go.Ab
open Go
set_option linter.unusedSimpArgs false
set_option linter.unusedVariables false
set_option maxRecDepth 20000

/-- The cells behind the drop. -/
def drpX (x y z : Int) (cs : List Cell) : List Cell := pick x y z (stackP y (viewL x y z 2 cs))
def inP (cs : List Cell) : Cell → Bool := fun c => decide (c ∈ cs)
noncomputable def stdL (x y z : Int) (cs : List Cell) : List Cell := pick x y z (stand x y z (inP cs))
noncomputable def hngL (x y z : Int) (cs : List Cell) : List Cell := pick x y z (hang x y z (inP cs))
def lsN (cs : List Cell) : Nat := (cs.filter (looseP (inP cs))).length
section
variable (x y z : Int) (cs : List Cell)
noncomputable def drpOf : Option Hp := by
  classical
  exact if HeapOK x y z cs then some ⟨x, y, z, drpX x y z cs⟩ else none
noncomputable def fsOf : Option Int := by
  classical
  exact if HeapOK x y z cs then some ((sumC cs : Int) - sumC (drpX x y z cs)) else none
noncomputable def stdOf : Option (List Cell) := by
  classical
  exact if HeapOK x y z cs then some (stdL x y z cs) else none
noncomputable def hngOf : Option (List Cell) := by
  classical
  exact if HeapOK x y z cs then some (hngL x y z cs) else none
noncomputable def lbOf : Option Int := by
  classical
  exact if HeapOK x y z cs then some (lsN cs : Nat) else none
noncomputable def setOf : Option Bool := by
  classical
  exact if HeapOK x y z cs then some (decide (drpX x y z cs = cs)) else none
end
/-- A list of cells, or none and false; it lies in a block of its own. -/
def CellsX (M : Mem) (r : Option (List Cell)) (v : LV) (N : Mem) : Prop := ∃ u : Nat, v = .tup [.ref u 0 (r.getD []).length, .B r.isSome] ∧ Live N u (.row (triL (r.getD [])) true 3) ∧ Pre M N
section
variable {x y z : Int} {t : Nat} {w : Bool} {cs : List Cell} {M : Mem} (h : Live M t (.row (triL cs) w 3))
include h
end
section
variable {x y z : Int} {t : Nat} {w : Bool} {cs : List Cell} {M : Mem} (h : Live M t (.row (triL cs) w 3))
include h
end
end Go.Ab

/- The abstract code of some functions (written by a program of mine from the translation, by way of prepF). -/
namespace Go.Ab.C
open Go.Ab
end Go.Ab.C

/- That the program has this code. -/
namespace Go.Ab.K
open Go Go.Ab
end Go.Ab.K

/- Contracts: parts of sets, lists of sets; the program's CavitiesOf. -/
namespace Go.Ab
open Go
set_option linter.unusedSimpArgs false
set_option linter.unusedVariables false

/-- Sets, as the elements of a slice. -/
def setL (x y z : Int) (L : List (List Cell)) : List LV := L.map fun l => .W (bs x y z fun d => decide (d ∈ l))
section
variable {x y z : Int} (hS : Sides x y z)
include hS
end

noncomputable def cavOf (x y z : Int) (cs : List Cell) : Option (List (List Cell)) := by
  classical
  exact if HeapOK x y z cs then some (parts x y z 65 (closed x y z fun c => decide (c ∈ cs))) else none
end Go.Ab

/- Contracts: the program's drops, sums, standing and hanging cubes, views and parts. -/
namespace Go.Ab
open Go
set_option linter.unusedSimpArgs false
set_option linter.unusedVariables false
set_option maxRecDepth 20000

theorem g_stack_1 {x y z : Int} {c : Cell} {u q t2 t3 : Nat} {hs : List Int} {M : Mem} (hS : Sides x y z) (hc : c.inBox x y z) (hX : Ints M u q hs) (hl : (hs.length : Int) = x * y) (h3 : Live M t3 (.row [.ref u q hs.length] true 0)) (h2 : Live M t2 (.row [.I x, .I y, .I z] true 0)) :
    CallsTo PG F.impl_box_stack_1 ([.agg [.I c.a, .I c.b, .I c.c]] ++ [(t3, 0), (t2, 0)].map fun p => .ptr p.1 p.2) M (.B (stackP y hs c)) M := by
  have l2 := h2.lt
  have l3 := h3.lt
  obtain ⟨g1, g2⟩ := lineOf_in (d := 2) hS hc (by omega)
  have e1 : lineOf y z c 2 = c.a * y + c.b := rfl
  have e2 : linesOf x y z 2 = x * y := rfl
  rw [e1] at g1 g2
  rw [e2] at g2
  have hg := Ints.get hX (k := (c.a * y + c.b).toNat) (by omega)
  refine calls_run K.impl_box_stack_1 rfl ?_
  simp (disch := omega) only [C.impl_box_stack_1, List.map_cons, List.map_nil, h3.app.cell, h2.app.cells, ↓SXd, SXu, slBounds, ↓sop, ↓aop, ↓reduceIte, LV.cells, AOp.dst, LV.I, LV.B, LV.U, LV.S, LV.nil, Nat.reduceEqDiff, Nat.reduceAdd, Nat.reduceMul, Nat.reduceSub, Nat.reduceLeDiff, Nat.reduceBEq, Nat.reduceDiv, Nat.reduceMod, Int.reduceToNat, Int.reduceLT, Int.reduceLE, Int.reduceAdd, Int.reduceSub, Int.reduceMul, Int.reduceEq, Int.reduceNeg, reduceCtorEq, resV, resAll, ARes.ev, LV.flat, ite_true, ite_false, exists_eq_left', exists_eq_left, keyOf, implies_true, fillC, capOf]
  refine callK_of (g_line (d := 2) hS hc (by omega)) ?_
  simp (disch := omega) only [e1, (getCell_app hX.lt), hg, Nat.mul_one, ↓SXd, SXu, slBounds, ↓sop, ↓aop, ↓reduceIte, LV.cells, AOp.dst, LV.I, LV.B, LV.U, LV.S, LV.nil, Nat.reduceEqDiff, Nat.reduceAdd, Nat.reduceMul, Nat.reduceSub, Nat.reduceLeDiff, Nat.reduceBEq, Nat.reduceDiv, Nat.reduceMod, Int.reduceToNat, Int.reduceLT, Int.reduceLE, Int.reduceAdd, Int.reduceSub, Int.reduceMul, Int.reduceEq, Int.reduceNeg, reduceCtorEq, resV, resAll, ARes.ev, LV.flat, ite_true, ite_false, exists_eq_left', exists_eq_left, keyOf, implies_true, fillC, capOf]
  exact cmp_drop rfl
theorem g_stack {x y z : Int} {u q : Nat} {hs : List Int} {M : Mem} (hS : Sides x y z) (hX : Ints M u q hs) (hl : (hs.length : Int) = x * y) :
    CallsTo PG F.impl_box_stack [.agg [.I x, .I y, .I z], .ref u q hs.length] M (.W (bs x y z (stackP y hs))) M := by
  refine calls_run K.impl_box_stack rfl ?_
  simp (disch := omega) only [C.impl_box_stack, ↓SXd, SXu, slBounds, ↓sop, ↓aop, ↓reduceIte, LV.cells, AOp.dst, LV.I, LV.B, LV.U, LV.S, LV.nil, Nat.reduceEqDiff, Nat.reduceAdd, Nat.reduceMul, Nat.reduceSub, Nat.reduceLeDiff, Nat.reduceBEq, Nat.reduceDiv, Nat.reduceMod, Int.reduceToNat, Int.reduceLT, Int.reduceLE, Int.reduceAdd, Int.reduceSub, Int.reduceMul, Int.reduceEq, Int.reduceNeg, reduceCtorEq, resV, resAll, ARes.ev, LV.flat, ite_true, ite_false, exists_eq_left', exists_eq_left, keyOf, implies_true, fillC, capOf]
  refine callK_of (g_those hS (p := stackP y hs) fun M' hp i hi => ?_) ?_
  · have hv := vol_cast hS
    exact g_stack_1 hS (cellAt_in hS (by omega) (by omega)).1 ((Has.app hX).pre hp) hl ((Live.newj (j := 1) rfl).pre hp) ((Live.newj (j := 0) rfl).pre hp)
  simp (disch := omega) only [↓SXd, SXu, slBounds, ↓sop, ↓aop, ↓reduceIte, LV.cells, AOp.dst, LV.I, LV.B, LV.U, LV.S, LV.nil, Nat.reduceEqDiff, Nat.reduceAdd, Nat.reduceMul, Nat.reduceSub, Nat.reduceLeDiff, Nat.reduceBEq, Nat.reduceDiv, Nat.reduceMod, Int.reduceToNat, Int.reduceLT, Int.reduceLE, Int.reduceAdd, Int.reduceSub, Int.reduceMul, Int.reduceEq, Int.reduceNeg, reduceCtorEq, resV, resAll, ARes.ev, LV.flat, ite_true, ite_false, exists_eq_left', exists_eq_left, keyOf, implies_true, fillC, capOf]
  exact cmp_drop rfl
section
variable {x y z : Int} {t : Nat} {w : Bool} {cs : List Cell} {M : Mem} (h : Live M t (.row (triL cs) w 3))
include h
end
end Go.Ab

/- The abstract code of some functions (written by a program of mine from the translation, by way of prepF). -/
namespace Go.Ab.C
open Go.Ab
def spec_l1Cur_direction : AFn :=
 ⟨1, 10, [.tmp 2],
 .seq (.ops [(none, .mv 2 (.c (.I 0)))])
 (.seq (.seq (.ops [(none, .mv 3 (.t 0)),
 (none, .call (some 4) F.spec_l1Cur_one [(.t 3), (.c (.I 30))])])
 (.cond (.t 4) (.seq (.ops [(none, .mv 5 (.t 0)),
 (none, .buildSl 6 3 1 [(.I 0), (.I 0), (.I 0)] [(0, 1, (.c (.I (-1)))), (1, 1, (.c (.I 3))), (2, 1, (.c (.I 4611686018427387904)))]),
 (none, .call (some 7) F.spec_l1Cur_among [(.t 5), (.t 6)]),
 (none, .mv 2 (.t 7))])
 (.ret))
 (.skip)))
 (.seq (.ops [(none, .mv 8 (.t 0)),
 (none, .call (some 9) F.spec_l1Cur_pick [(.t 8), (.c (.I 3))]),
 (none, .mv 2 (.t 9))])
 (.ret)))⟩
def spec_DrawViewOf : AFn :=
 ⟨1, 12, [.cellN 2 4, .tmp 3],
 .seq (.ops [(none, .alloc 2 [(.I 0), (.I 0), (.I 0), .nil]),
 (none, .mv 3 (.c (.I 0)))])
 (.seq (.ops [(none, .mv 5 (.t 0)),
 (none, .build 6 [.nil, (.I 0), (.U 0)] [(0, 1, (.t 5))]),
 (none, .box 7 (.t 6)),
 (none, .mv 4 (.t 7))])
 (.seq (.ops [(none, .mv 8 (.t 4)),
 (none, .call (some 9) F.spec_l1Cur_heap [(.t 8)]),
 (none, .mv 10 (.t 4)),
 (none, .call (some 11) F.spec_l1Cur_direction [(.t 10)]),
 (none, .store 4 (.t 2) (.t 9)),
 (none, .mv 3 (.t 11))])
 (.ret)))⟩
end Go.Ab.C

/- That the program has this code. -/
namespace Go.Ab.K
open Go Go.Ab
theorem spec_l1Cur_direction : prepF Go.Proofs.Try.prog F.spec_l1Cur_direction = some C.spec_l1Cur_direction := by kernel_rfl
theorem spec_DrawViewOf : prepF Go.Proofs.Try.prog F.spec_DrawViewOf = some C.spec_DrawViewOf := by kernel_rfl
end Go.Ab.K

/- Contracts: what the law of heaps' forms draws. -/
namespace Go.Ab
open Go
set_option linter.unusedSimpArgs false
set_option linter.unusedVariables false
set_option maxRecDepth 20000

theorem d_direction {p t o a : Nat} {bs : List Nat} {M : Mem} (h : CurAt M p t o bs a) (ha : a ≤ 999900) : CallsR PG F.spec_l1Cur_direction [.ptr p 0] M fun v N => (∃ b : Int, v = .I b) ∧ DrawN M p t o bs (a + 4) N := by
  refine callsR_run K.spec_l1Cur_direction rfl ?_
  simp (disch := omega) only [C.spec_l1Cur_direction, ↓SXd, SXu, slBounds, ↓sop, ↓aop, ↓reduceIte, LV.cells, AOp.dst, LV.I, LV.B, LV.U, LV.S, LV.nil, Nat.reduceEqDiff, Nat.reduceAdd, Nat.reduceMul, Nat.reduceSub, Nat.reduceLeDiff, Nat.reduceBEq, Nat.reduceDiv, Nat.reduceMod, Int.reduceToNat, Int.reduceLT, Int.reduceLE, Int.reduceAdd, Int.reduceSub, Int.reduceMul, Int.reduceEq, Int.reduceNeg, reduceCtorEq, resV, resAll, ARes.ev, LV.flat, ite_true, ite_false, exists_eq_left', exists_eq_left, keyOf, implies_true, fillC, capOf]
  refine callR_of (d_one h (by omega)) ?_
  rintro _ N1 ⟨⟨b, rfl⟩, hd1⟩
  cases b
  · simp (disch := omega) only [↓SXd, SXu, slBounds, ↓sop, ↓aop, ↓reduceIte, LV.cells, AOp.dst, LV.I, LV.B, LV.U, LV.S, LV.nil, Nat.reduceEqDiff, Nat.reduceAdd, Nat.reduceMul, Nat.reduceSub, Nat.reduceLeDiff, Nat.reduceBEq, Nat.reduceDiv, Nat.reduceMod, Int.reduceToNat, Int.reduceLT, Int.reduceLE, Int.reduceAdd, Int.reduceSub, Int.reduceMul, Int.reduceEq, Int.reduceNeg, reduceCtorEq, resV, resAll, ARes.ev, LV.flat, ite_true, ite_false, exists_eq_left', exists_eq_left, keyOf, implies_true, fillC, capOf]
    refine callR_of (d_pick hd1.1 (by omega)) ?_
    rintro _ N2 ⟨⟨b, rfl, _⟩, hd2⟩
    simp (disch := omega) only [↓SXd, SXu, slBounds, ↓sop, ↓aop, ↓reduceIte, LV.cells, AOp.dst, LV.I, LV.B, LV.U, LV.S, LV.nil, Nat.reduceEqDiff, Nat.reduceAdd, Nat.reduceMul, Nat.reduceSub, Nat.reduceLeDiff, Nat.reduceBEq, Nat.reduceDiv, Nat.reduceMod, Int.reduceToNat, Int.reduceLT, Int.reduceLE, Int.reduceAdd, Int.reduceSub, Int.reduceMul, Int.reduceEq, Int.reduceNeg, reduceCtorEq, resV, resAll, ARes.ev, LV.flat, ite_true, ite_false, exists_eq_left', exists_eq_left, keyOf, implies_true, fillC, capOf]
    exact ⟨⟨_, rfl⟩, hd1.trans hd2⟩
  · simp (disch := omega) only [splice, ↓SXd, SXu, slBounds, ↓sop, ↓aop, ↓reduceIte, LV.cells, AOp.dst, LV.I, LV.B, LV.U, LV.S, LV.nil, Nat.reduceEqDiff, Nat.reduceAdd, Nat.reduceMul, Nat.reduceSub, Nat.reduceLeDiff, Nat.reduceBEq, Nat.reduceDiv, Nat.reduceMod, Int.reduceToNat, Int.reduceLT, Int.reduceLE, Int.reduceAdd, Int.reduceSub, Int.reduceMul, Int.reduceEq, Int.reduceNeg, reduceCtorEq, resV, resAll, ARes.ev, LV.flat, ite_true, ite_false, exists_eq_left', exists_eq_left, keyOf, implies_true, fillC, capOf]
    refine callR_of (d_amongNew (xs := [-1, 3, 4611686018427387904]) hd1.1 (by omega) (by simp) (by simp)) ?_
    rintro _ N2 ⟨⟨b, rfl, _⟩, hd2⟩
    simp (disch := omega) only [↓SXd, SXu, slBounds, ↓sop, ↓aop, ↓reduceIte, LV.cells, AOp.dst, LV.I, LV.B, LV.U, LV.S, LV.nil, Nat.reduceEqDiff, Nat.reduceAdd, Nat.reduceMul, Nat.reduceSub, Nat.reduceLeDiff, Nat.reduceBEq, Nat.reduceDiv, Nat.reduceMod, Int.reduceToNat, Int.reduceLT, Int.reduceLE, Int.reduceAdd, Int.reduceSub, Int.reduceMul, Int.reduceEq, Int.reduceNeg, reduceCtorEq, resV, resAll, ARes.ev, LV.flat, ite_true, ite_false, exists_eq_left', exists_eq_left, keyOf, implies_true, fillC, capOf]
    exact ⟨⟨_, rfl⟩, hd1.trans hd2⟩
section
variable {t o : Nat} {bs : List Nat} {M : Mem} (hB : Bytes M t o bs) (h255 : ∀ b ∈ bs, b ≤ 255) (hl : bs.length ≤ 1000000000)
include hB h255 hl
theorem d_DrawViewOf : CallsR PG F.spec_DrawViewOf [.ref t o bs.length] M fun v N => (∃ (hv : LV) (k : Int), v = .tup [hv, .I k] ∧ HeapE M hv N) ∧ Pre M N := by
  have htM := hB.lt
  refine callsR_run K.spec_DrawViewOf rfl ?_
  simp (disch := omega) only [C.spec_DrawViewOf, splice, ↓SXd, SXu, slBounds, ↓sop, ↓aop, ↓reduceIte, LV.cells, AOp.dst, LV.I, LV.B, LV.U, LV.S, LV.nil, Nat.reduceEqDiff, Nat.reduceAdd, Nat.reduceMul, Nat.reduceSub, Nat.reduceLeDiff, Nat.reduceBEq, Nat.reduceDiv, Nat.reduceMod, Int.reduceToNat, Int.reduceLT, Int.reduceLE, Int.reduceAdd, Int.reduceSub, Int.reduceMul, Int.reduceEq, Int.reduceNeg, reduceCtorEq, resV, resAll, ARes.ev, LV.flat, ite_true, ite_false, exists_eq_left', exists_eq_left, keyOf, implies_true, fillC, capOf]
  have hc := CurAt.new2 (b := some (.row [.I 0, .I 0, .I 0, .nil] true 0)) hB h255 hl
  refine callR_of (d_heapE hc (by omega)) ?_
  rintro _ N1 ⟨⟨x, y, z, cs, u, rfl, hu, hul, hcl⟩, hd1⟩
  rw [List.length_append] at hul
  simp only [List.length_cons, List.length_nil] at hul
  have b2 : Live N1 M.length (.row [.I 0, .I 0, .I 0, .nil] true 0) := hd1.live Live.new (by omega)
  have hP1 : Pre M N1 := hd1.pre (Pre.app _ _) (by omega)
  simp (disch := omega) only [splice, ↓SXd, SXu, slBounds, ↓sop, ↓aop, ↓reduceIte, LV.cells, AOp.dst, LV.I, LV.B, LV.U, LV.S, LV.nil, Nat.reduceEqDiff, Nat.reduceAdd, Nat.reduceMul, Nat.reduceSub, Nat.reduceLeDiff, Nat.reduceBEq, Nat.reduceDiv, Nat.reduceMod, Int.reduceToNat, Int.reduceLT, Int.reduceLE, Int.reduceAdd, Int.reduceSub, Int.reduceMul, Int.reduceEq, Int.reduceNeg, reduceCtorEq, resV, resAll, ARes.ev, LV.flat, ite_true, ite_false, exists_eq_left', exists_eq_left, keyOf, implies_true, fillC, capOf]
  refine callR_of (d_direction hd1.1 (by omega)) ?_
  rintro _ N4 ⟨⟨k, rfl⟩, hD⟩
  have e2 : Live N4 M.length (.row [.I 0, .I 0, .I 0, .nil] true 0) := hD.live b2 (by omega)
  have eu : Live N4 u (.row (triL cs) true 3) := hD.live hu (by omega)
  have hP4 : Pre M N4 := hD.pre hP1 (by omega)
  have e2l := e2.lt
  simp (disch := omega) only [↓SXd, SXu, slBounds, ↓sop, ↓aop, ↓reduceIte, LV.cells, AOp.dst, LV.I, LV.B, LV.U, LV.S, LV.nil, Nat.reduceEqDiff, Nat.reduceAdd, Nat.reduceMul, Nat.reduceSub, Nat.reduceLeDiff, Nat.reduceBEq, Nat.reduceDiv, Nat.reduceMod, Int.reduceToNat, Int.reduceLT, Int.reduceLE, Int.reduceAdd, Int.reduceSub, Int.reduceMul, Int.reduceEq, Int.reduceNeg, reduceCtorEq, resV, resAll, ARes.ev, LV.flat, ite_true, ite_false, exists_eq_left', exists_eq_left, keyOf, implies_true, fillC, capOf]
  refine memK_box e2 (by simp) fun N5 i1 i2 i3 => ?_
  simp (disch := omega) only [i2.cells, ↓SXd, SXu, slBounds, ↓sop, ↓aop, ↓reduceIte, LV.cells, AOp.dst, LV.I, LV.B, LV.U, LV.S, LV.nil, Nat.reduceEqDiff, Nat.reduceAdd, Nat.reduceMul, Nat.reduceSub, Nat.reduceLeDiff, Nat.reduceBEq, Nat.reduceDiv, Nat.reduceMod, Int.reduceToNat, Int.reduceLT, Int.reduceLE, Int.reduceAdd, Int.reduceSub, Int.reduceMul, Int.reduceEq, Int.reduceNeg, reduceCtorEq, resV, resAll, ARes.ev, LV.flat, ite_true, ite_false, exists_eq_left', exists_eq_left, keyOf, implies_true, fillC, capOf]
  exact ⟨⟨_, k, rfl, x, y, z, cs, u, rfl, live_step eu (by omega) i3, by omega, hcl⟩, pre_step hP4 (by omega) (j := 0) i1 i3⟩
end
end Go.Ab
