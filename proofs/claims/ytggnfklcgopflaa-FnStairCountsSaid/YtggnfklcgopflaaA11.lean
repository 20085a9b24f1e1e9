/- Parts of the proof of FnStairCountsSaid: Kh C_Bb K_Bb Bb Ki C_Kj K_Kj Kj C_Jr K_Jr Jr C_Jd K_Jd. -/
import Derived.Test.YtggnfklcgopflaaA10
import Derived.Test.YtggnfklcgopflaaA4
import Derived.Test.YtggnfklcgopflaaA8
import Derived.Test.YtggnfklcgopflaaA3
import Derived.Test.YtggnfklcgopflaaProg
import Derived.KernelRfl
import Derived.Test.YtggnfklcgopflaaA5
import Derived.Test.YtggnfklcgopflaaA7
import Derived.Test.YtggnfklcgopflaaA9
import Derived.Test.YtggnfklcgopflaaA6
set_option linter.all false
/- Contracts: least and greatest staircases, hollows, IsStair. -/
namespace Go.Ab
open Go
set_option linter.unusedSimpArgs false
set_option linter.unusedVariables false
set_option maxRecDepth 20000

noncomputable def leastO (x y z : Int) (cs : List Cell) : Option Hp := if HeapOK x y z cs then some (leastOf x y z cs) else none
noncomputable def greatOf (x y z : Int) (cs : List Cell) : Hp := ⟨x, y, z, pick x y z (upB x y z fun d => decide (d ∈ cs))⟩
noncomputable def greatO (x y z : Int) (cs : List Cell) : Option Hp := if HeapOK x y z cs then some (greatOf x y z cs) else none
section
variable {x y z : Int} {t : Nat} {w : Bool} {cs : List Cell} {M : Mem} (h : Live M t (.row (triL cs) w 3)) (hn : cs.length ≤ 1000000000)
include h hn
theorem h_sLeastO : CallsR PG F.spec_LeastStair [.agg [.I x, .I y, .I z, .ref t 0 cs.length]] M (HeapX M (leastO x y z cs)) := by
  refine heapX_of ((h_sLeastStair h hn).mono ?_)
  rintro v N ⟨⟨hH, hT⟩ | ⟨hH, rfl⟩, hp⟩
  · exact heapX_yes (if_pos hH) hT hp
  · exact heapX_no (if_neg hH) rfl hp
theorem g_IsStair : CallsTo PG F.impl_IsStair [.agg [.I x, .I y, .I z, .ref t 0 cs.length]] M (.tup [.B (strB x y z cs), .B (decide (HeapOK x y z cs))]) M := by
  refine calls_run K.impl_IsStair rfl ?_
  simp (disch := omega) only [C.impl_IsStair, ↓SXd, SXu, slBounds, ↓sop, ↓aop, ↓reduceIte, LV.cells, AOp.dst, LV.I, LV.B, LV.U, LV.S, LV.nil, Nat.reduceEqDiff, Nat.reduceAdd, Nat.reduceMul, Nat.reduceSub, Nat.reduceLeDiff, Nat.reduceBEq, Nat.reduceDiv, Nat.reduceMod, Int.reduceToNat, Int.reduceLT, Int.reduceLE, Int.reduceAdd, Int.reduceSub, Int.reduceMul, Int.reduceEq, Int.reduceNeg, reduceCtorEq, resV, resAll, ARes.ev, LV.flat, ite_true, ite_false, exists_eq_left', exists_eq_left, keyOf, implies_true, fillC, capOf]
  refine callK_of (g_IsHeap h.app.has hn) ?_
  simp (disch := omega) only [↓SXd, SXu, slBounds, ↓sop, ↓aop, ↓reduceIte, LV.cells, AOp.dst, LV.I, LV.B, LV.U, LV.S, LV.nil, Nat.reduceEqDiff, Nat.reduceAdd, Nat.reduceMul, Nat.reduceSub, Nat.reduceLeDiff, Nat.reduceBEq, Nat.reduceDiv, Nat.reduceMod, Int.reduceToNat, Int.reduceLT, Int.reduceLE, Int.reduceAdd, Int.reduceSub, Int.reduceMul, Int.reduceEq, Int.reduceNeg, reduceCtorEq, resV, resAll, ARes.ev, LV.flat, ite_true, ite_false, exists_eq_left', exists_eq_left, keyOf, implies_true, fillC, capOf]
  by_cases hH : HeapOK x y z cs
  · rw [decide_eq_true hH]
    simp (disch := omega) only [↓SXd, SXu, slBounds, ↓sop, ↓aop, ↓reduceIte, LV.cells, AOp.dst, LV.I, LV.B, LV.U, LV.S, LV.nil, Nat.reduceEqDiff, Nat.reduceAdd, Nat.reduceMul, Nat.reduceSub, Nat.reduceLeDiff, Nat.reduceBEq, Nat.reduceDiv, Nat.reduceMod, Int.reduceToNat, Int.reduceLT, Int.reduceLE, Int.reduceAdd, Int.reduceSub, Int.reduceMul, Int.reduceEq, Int.reduceNeg, reduceCtorEq, resV, resAll, ARes.ev, LV.flat, ite_true, ite_false, exists_eq_left', exists_eq_left, keyOf, implies_true, fillC, capOf]
    refine callK_of (g_isStair h.app.has hn) ?_
    simp (disch := omega) only [↓SXd, SXu, slBounds, ↓sop, ↓aop, ↓reduceIte, LV.cells, AOp.dst, LV.I, LV.B, LV.U, LV.S, LV.nil, Nat.reduceEqDiff, Nat.reduceAdd, Nat.reduceMul, Nat.reduceSub, Nat.reduceLeDiff, Nat.reduceBEq, Nat.reduceDiv, Nat.reduceMod, Int.reduceToNat, Int.reduceLT, Int.reduceLE, Int.reduceAdd, Int.reduceSub, Int.reduceMul, Int.reduceEq, Int.reduceNeg, reduceCtorEq, resV, resAll, ARes.ev, LV.flat, ite_true, ite_false, exists_eq_left', exists_eq_left, keyOf, implies_true, fillC, capOf]
    exact cmp_drop rfl
  · rw [decide_eq_false hH, str_no fun e => hH e.1]
    simp (disch := omega) only [↓SXd, SXu, slBounds, ↓sop, ↓aop, ↓reduceIte, LV.cells, AOp.dst, LV.I, LV.B, LV.U, LV.S, LV.nil, Nat.reduceEqDiff, Nat.reduceAdd, Nat.reduceMul, Nat.reduceSub, Nat.reduceLeDiff, Nat.reduceBEq, Nat.reduceDiv, Nat.reduceMod, Int.reduceToNat, Int.reduceLT, Int.reduceLE, Int.reduceAdd, Int.reduceSub, Int.reduceMul, Int.reduceEq, Int.reduceNeg, reduceCtorEq, resV, resAll, ARes.ev, LV.flat, ite_true, ite_false, exists_eq_left', exists_eq_left, keyOf, implies_true, fillC, capOf]
    exact cmp_drop rfl
theorem g_LeastStair : CallsR PG F.impl_LeastStair [.agg [.I x, .I y, .I z, .ref t 0 cs.length]] M (HeapX M (leastO x y z cs)) := by
  refine heapX_of ?_
  refine callsR_run K.impl_LeastStair rfl ?_
  simp (disch := omega) only [C.impl_LeastStair, ↓SXd, SXu, slBounds, ↓sop, ↓aop, ↓reduceIte, LV.cells, AOp.dst, LV.I, LV.B, LV.U, LV.S, LV.nil, Nat.reduceEqDiff, Nat.reduceAdd, Nat.reduceMul, Nat.reduceSub, Nat.reduceLeDiff, Nat.reduceBEq, Nat.reduceDiv, Nat.reduceMod, Int.reduceToNat, Int.reduceLT, Int.reduceLE, Int.reduceAdd, Int.reduceSub, Int.reduceMul, Int.reduceEq, Int.reduceNeg, reduceCtorEq, resV, resAll, ARes.ev, LV.flat, ite_true, ite_false, exists_eq_left', exists_eq_left, keyOf, implies_true, fillC, capOf]
  refine callK_of (g_IsHeap h.app.has hn) ?_
  simp (disch := omega) only [↓SXd, SXu, slBounds, ↓sop, ↓aop, ↓reduceIte, LV.cells, AOp.dst, LV.I, LV.B, LV.U, LV.S, LV.nil, Nat.reduceEqDiff, Nat.reduceAdd, Nat.reduceMul, Nat.reduceSub, Nat.reduceLeDiff, Nat.reduceBEq, Nat.reduceDiv, Nat.reduceMod, Int.reduceToNat, Int.reduceLT, Int.reduceLE, Int.reduceAdd, Int.reduceSub, Int.reduceMul, Int.reduceEq, Int.reduceNeg, reduceCtorEq, resV, resAll, ARes.ev, LV.flat, ite_true, ite_false, exists_eq_left', exists_eq_left, keyOf, implies_true, fillC, capOf]
  by_cases hH : HeapOK x y z cs
  rotate_left
  · rw [decide_eq_false hH]
    simp (disch := omega) only [fillC, splice, ↓SXd, SXu, slBounds, ↓sop, ↓aop, ↓reduceIte, LV.cells, AOp.dst, LV.I, LV.B, LV.U, LV.S, LV.nil, Nat.reduceEqDiff, Nat.reduceAdd, Nat.reduceMul, Nat.reduceSub, Nat.reduceLeDiff, Nat.reduceBEq, Nat.reduceDiv, Nat.reduceMod, Int.reduceToNat, Int.reduceLT, Int.reduceLE, Int.reduceAdd, Int.reduceSub, Int.reduceMul, Int.reduceEq, Int.reduceNeg, reduceCtorEq, resV, resAll, ARes.ev, LV.flat, ite_true, ite_false, exists_eq_left', exists_eq_left, keyOf, implies_true, fillC, capOf]
    exact heapX_no (if_neg hH) rfl (Pre.app _ _)
  rw [decide_eq_true hH]
  have hS := hH.1
  have hlen := hH.len
  have h0 : (0#64) = bs x y z fun d => (cs.take 0).any fun c => decide (undC d c) := ((bs_zero hS).2 fun c _ => by simp).symm
  simp (disch := omega) only [↓SXd, SXu, slBounds, ↓sop, ↓aop, ↓reduceIte, LV.cells, AOp.dst, LV.I, LV.B, LV.U, LV.S, LV.nil, Nat.reduceEqDiff, Nat.reduceAdd, Nat.reduceMul, Nat.reduceSub, Nat.reduceLeDiff, Nat.reduceBEq, Nat.reduceDiv, Nat.reduceMod, Int.reduceToNat, Int.reduceLT, Int.reduceLE, Int.reduceAdd, Int.reduceSub, Int.reduceMul, Int.reduceEq, Int.reduceNeg, reduceCtorEq, resV, resAll, ARes.ev, LV.flat, ite_true, ite_false, exists_eq_left', exists_eq_left, keyOf, implies_true, fillC, capOf]
  refine ev_loop (fun m fr M' => ∃ i : Nat, i + m = cs.length ∧ Pre M M' ∧ Live M' M.length (.row [.I x, .I y, .I z, .ref t 0 cs.length] true 0) ∧ Live M' (M.length + 1) (.row [.I 0, .I 0, .I 0, .nil] true 0) ∧ fr 1 = .ptr M.length 0 ∧ fr 2 = .ptr (M.length + 1) 0 ∧ fr 4 = .W (bs x y z fun d => (cs.take i).any fun c => decide (undC d c)) ∧ fr 12 = .ref t 0 cs.length ∧ fr 13 = .I cs.length ∧ fr 14 = .I i) cs.length
    ⟨0, by omega, Pre.app _ _, Live.new, Live.newj rfl, rfl, rfl, by rw [← h0]; rfl, rfl, rfl, rfl⟩ ?_
  rintro m fr M' ⟨i, hi, hpre, b1, b2, f1, f2, f4, f12, f13, f14⟩
  simp (disch := omega) only [f1, f2, f4, f12, f13, f14, ↓SXd, SXu, slBounds, ↓sop, ↓aop, ↓reduceIte, LV.cells, AOp.dst, LV.I, LV.B, LV.U, LV.S, LV.nil, Nat.reduceEqDiff, Nat.reduceAdd, Nat.reduceMul, Nat.reduceSub, Nat.reduceLeDiff, Nat.reduceBEq, Nat.reduceDiv, Nat.reduceMod, Int.reduceToNat, Int.reduceLT, Int.reduceLE, Int.reduceAdd, Int.reduceSub, Int.reduceMul, Int.reduceEq, Int.reduceNeg, reduceCtorEq, resV, resAll, ARes.ev, LV.flat, ite_true, ite_false, exists_eq_left', exists_eq_left, keyOf, implies_true, fillC, capOf]
  refine condC_dec (fun hlt => ?_) (fun hlt => ?_)
  · have hil : i < cs.length := by omega
    have hcg := (h.pre hpre).tri0 hil
    have hts : cs.take (i + 1) = cs.take i ++ [cs.getD i default] := take_snoc' hil
    generalize cs.getD i default = c at hcg hts
    have hor : (bs x y z fun d => (cs.take i).any fun c => decide (undC d c)) ||| (bs x y z fun d => decide (undC d c)) = bs x y z fun d => (cs.take (i + 1)).any fun c => decide (undC d c) := by
      rw [bs_or hS]
      refine (bs_eq hS).2 fun d _ => ?_
      rw [hts, List.any_append]; simp
    simp (disch := omega) only [f1, f2, f4, f12, f13, f14, hcg, Cell.row, splice, b1.app.cells, ↓SXd, SXu, slBounds, ↓sop, ↓aop, ↓reduceIte, LV.cells, AOp.dst, LV.I, LV.B, LV.U, LV.S, LV.nil, Nat.reduceEqDiff, Nat.reduceAdd, Nat.reduceMul, Nat.reduceSub, Nat.reduceLeDiff, Nat.reduceBEq, Nat.reduceDiv, Nat.reduceMod, Int.reduceToNat, Int.reduceLT, Int.reduceLE, Int.reduceAdd, Int.reduceSub, Int.reduceMul, Int.reduceEq, Int.reduceNeg, reduceCtorEq, resV, resAll, ARes.ev, LV.flat, ite_true, ite_false, exists_eq_left', exists_eq_left, keyOf, implies_true, fillC, capOf]
    refine callK_of (g_box) ?_
    simp (disch := omega) only [f1, f2, f4, f12, f13, f14, ↓SXd, SXu, slBounds, ↓sop, ↓aop, ↓reduceIte, LV.cells, AOp.dst, LV.I, LV.B, LV.U, LV.S, LV.nil, Nat.reduceEqDiff, Nat.reduceAdd, Nat.reduceMul, Nat.reduceSub, Nat.reduceLeDiff, Nat.reduceBEq, Nat.reduceDiv, Nat.reduceMod, Int.reduceToNat, Int.reduceLT, Int.reduceLE, Int.reduceAdd, Int.reduceSub, Int.reduceMul, Int.reduceEq, Int.reduceNeg, reduceCtorEq, resV, resAll, ARes.ev, LV.flat, ite_true, ite_false, exists_eq_left', exists_eq_left, keyOf, implies_true, fillC, capOf]
    refine callK_of (g_below hS (c := c)) ?_
    simp (disch := omega) only [f1, f2, f4, f12, f13, f14, ↓SXd, SXu, slBounds, ↓sop, ↓aop, ↓reduceIte, LV.cells, AOp.dst, LV.I, LV.B, LV.U, LV.S, LV.nil, Nat.reduceEqDiff, Nat.reduceAdd, Nat.reduceMul, Nat.reduceSub, Nat.reduceLeDiff, Nat.reduceBEq, Nat.reduceDiv, Nat.reduceMod, Int.reduceToNat, Int.reduceLT, Int.reduceLE, Int.reduceAdd, Int.reduceSub, Int.reduceMul, Int.reduceEq, Int.reduceNeg, reduceCtorEq, resV, resAll, ARes.ev, LV.flat, ite_true, ite_false, exists_eq_left', exists_eq_left, keyOf, implies_true, fillC, capOf]
    rw [hor]
    exact ⟨m - 1, by omega, i + 1, by omega, hpre.app', b1.app, b2.app, f1, f2, rfl, f12, f13, eqI (natI _)⟩
  · have : i = cs.length := by omega
    subst this
    rw [List.take_length] at f4
    have hbe : (bs x y z fun d => cs.any fun c => decide (undC d c)) = bs x y z (dnB x y z fun d => decide (d ∈ cs)) := (bs_eq hS).2 fun d _ => by
      unfold dnB
      rw [← hH.pick]
    rw [hbe] at f4
    simp (disch := omega) only [f1, f2, f4, f12, f13, f14, b1.cells, ↓SXd, SXu, slBounds, ↓sop, ↓aop, ↓reduceIte, LV.cells, AOp.dst, LV.I, LV.B, LV.U, LV.S, LV.nil, Nat.reduceEqDiff, Nat.reduceAdd, Nat.reduceMul, Nat.reduceSub, Nat.reduceLeDiff, Nat.reduceBEq, Nat.reduceDiv, Nat.reduceMod, Int.reduceToNat, Int.reduceLT, Int.reduceLE, Int.reduceAdd, Int.reduceSub, Int.reduceMul, Int.reduceEq, Int.reduceNeg, reduceCtorEq, resV, resAll, ARes.ev, LV.flat, ite_true, ite_false, exists_eq_left', exists_eq_left, keyOf, implies_true, fillC, capOf]
    refine callK_of (g_box) ?_
    simp (disch := omega) only [f1, f2, f4, f12, f13, f14, ↓SXd, SXu, slBounds, ↓sop, ↓aop, ↓reduceIte, LV.cells, AOp.dst, LV.I, LV.B, LV.U, LV.S, LV.nil, Nat.reduceEqDiff, Nat.reduceAdd, Nat.reduceMul, Nat.reduceSub, Nat.reduceLeDiff, Nat.reduceBEq, Nat.reduceDiv, Nat.reduceMod, Int.reduceToNat, Int.reduceLT, Int.reduceLE, Int.reduceAdd, Int.reduceSub, Int.reduceMul, Int.reduceEq, Int.reduceNeg, reduceCtorEq, resV, resAll, ARes.ev, LV.flat, ite_true, ite_false, exists_eq_left', exists_eq_left, keyOf, implies_true, fillC, capOf]
    refine callH_of (g_heap hS) ?_
    intro tn N2 htn hp2 hnr
    simp (disch := omega) only [↓SXd, SXu, slBounds, ↓sop, ↓aop, ↓reduceIte, LV.cells, AOp.dst, LV.I, LV.B, LV.U, LV.S, LV.nil, Nat.reduceEqDiff, Nat.reduceAdd, Nat.reduceMul, Nat.reduceSub, Nat.reduceLeDiff, Nat.reduceBEq, Nat.reduceDiv, Nat.reduceMod, Int.reduceToNat, Int.reduceLT, Int.reduceLE, Int.reduceAdd, Int.reduceSub, Int.reduceMul, Int.reduceEq, Int.reduceNeg, reduceCtorEq, resV, resAll, ARes.ev, LV.flat, ite_true, ite_false, exists_eq_left', exists_eq_left, keyOf, implies_true, fillC, capOf]
    have hl2 := hp2.1
    have hb2 := b2.lt
    have hpM := hpre.1
    simp (disch := omega) only [f1, f2, f4, f12, f13, f14, ↓SXd, SXu, slBounds, ↓sop, ↓aop, ↓reduceIte, LV.cells, AOp.dst, LV.I, LV.B, LV.U, LV.S, LV.nil, Nat.reduceEqDiff, Nat.reduceAdd, Nat.reduceMul, Nat.reduceSub, Nat.reduceLeDiff, Nat.reduceBEq, Nat.reduceDiv, Nat.reduceMod, Int.reduceToNat, Int.reduceLT, Int.reduceLE, Int.reduceAdd, Int.reduceSub, Int.reduceMul, Int.reduceEq, Int.reduceNeg, reduceCtorEq, resV, resAll, ARes.ev, LV.flat, ite_true, ite_false, exists_eq_left', exists_eq_left, keyOf, implies_true, fillC, capOf]
    refine memK_box (b2.pre hp2) (by simp) fun N3 k1 k2 k3 => ?_
    simp (disch := omega) only [f1, f2, f4, f12, f13, f14, k2.cells, ↓SXd, SXu, slBounds, ↓sop, ↓aop, ↓reduceIte, LV.cells, AOp.dst, LV.I, LV.B, LV.U, LV.S, LV.nil, Nat.reduceEqDiff, Nat.reduceAdd, Nat.reduceMul, Nat.reduceSub, Nat.reduceLeDiff, Nat.reduceBEq, Nat.reduceDiv, Nat.reduceMod, Int.reduceToNat, Int.reduceLT, Int.reduceLE, Int.reduceAdd, Int.reduceSub, Int.reduceMul, Int.reduceEq, Int.reduceNeg, reduceCtorEq, resV, resAll, ARes.ev, LV.flat, ite_true, ite_false, exists_eq_left', exists_eq_left, keyOf, implies_true, fillC, capOf]
    exact heapX_yes (if_pos hH) ⟨tn, rfl, live_step hnr (by omega) k3, by omega⟩ (pre_step (hpre.trans hp2) (by omega) (j := 0) k1 k3)
end
theorem g_GreatestStair_1 {x y z : Int} {t : Nat} {w : Bool} {cs : List Cell} {c : Cell} {b1 b2 : Nat} {M : Mem} (h : Live M t (.row (triL cs) w 3)) (hH : HeapOK x y z cs) (h1 : Live M b1 (.row [.I x, .I y, .I z] true 0)) (h2 : Live M b2 (.row [.I x, .I y, .I z, .ref t 0 cs.length] true 0)) :
    CallsTo PG F.impl_GreatestStair_1 [.agg [.I c.a, .I c.b, .I c.c], .ptr b1 0, .ptr b2 0] M (.B (upB x y z (fun d => decide (d ∈ cs)) c)) M := by
  have hS := hH.1
  have hlen := hH.len
  refine calls_run K.impl_GreatestStair_1 rfl ?_
  simp (disch := omega) only [C.impl_GreatestStair_1, h1.app.cells, h2.app.cells, ↓SXd, SXu, slBounds, ↓sop, ↓aop, ↓reduceIte, LV.cells, AOp.dst, LV.I, LV.B, LV.U, LV.S, LV.nil, Nat.reduceEqDiff, Nat.reduceAdd, Nat.reduceMul, Nat.reduceSub, Nat.reduceLeDiff, Nat.reduceBEq, Nat.reduceDiv, Nat.reduceMod, Int.reduceToNat, Int.reduceLT, Int.reduceLE, Int.reduceAdd, Int.reduceSub, Int.reduceMul, Int.reduceEq, Int.reduceNeg, reduceCtorEq, resV, resAll, ARes.ev, LV.flat, ite_true, ite_false, exists_eq_left', exists_eq_left, keyOf, implies_true, fillC, capOf]
  refine callK_of (g_below hS (c := c)) ?_
  simp (disch := omega) only [↓SXd, SXu, slBounds, ↓sop, ↓aop, ↓reduceIte, LV.cells, AOp.dst, LV.I, LV.B, LV.U, LV.S, LV.nil, Nat.reduceEqDiff, Nat.reduceAdd, Nat.reduceMul, Nat.reduceSub, Nat.reduceLeDiff, Nat.reduceBEq, Nat.reduceDiv, Nat.reduceMod, Int.reduceToNat, Int.reduceLT, Int.reduceLE, Int.reduceAdd, Int.reduceSub, Int.reduceMul, Int.reduceEq, Int.reduceNeg, reduceCtorEq, resV, resAll, ARes.ev, LV.flat, ite_true, ite_false, exists_eq_left', exists_eq_left, keyOf, implies_true, fillC, capOf]
  refine callK_of (g_cubes h.app.has (by omega) hS (fun c hc => hH.mem hc)) ?_
  simp (disch := omega) only [↓SXd, SXu, slBounds, ↓sop, ↓aop, ↓reduceIte, LV.cells, AOp.dst, LV.I, LV.B, LV.U, LV.S, LV.nil, Nat.reduceEqDiff, Nat.reduceAdd, Nat.reduceMul, Nat.reduceSub, Nat.reduceLeDiff, Nat.reduceBEq, Nat.reduceDiv, Nat.reduceMod, Int.reduceToNat, Int.reduceLT, Int.reduceLE, Int.reduceAdd, Int.reduceSub, Int.reduceMul, Int.reduceEq, Int.reduceNeg, reduceCtorEq, resV, resAll, ARes.ev, LV.flat, ite_true, ite_false, exists_eq_left', exists_eq_left, keyOf, implies_true, fillC, capOf]
  rw [bs_diff hS]
  have hz : decide (bs x y z (fun d => decide (undC d c) && !decide (d ∈ cs)) = 0#64) = upB x y z (fun d => decide (d ∈ cs)) c := by
    rw [Bool.eq_iff_iff, decide_eq_true_iff, bs_zero hS, up_iff hS]
    constructor
    · intro k d hd hl
      have := k d hd
      rw [decide_eq_true hl, Bool.true_and, Bool.not_eq_false'] at this
      exact this
    · intro k d hd
      by_cases hl : undC d c
      · rw [k d hd hl]; simp
      · simp [hl]
  rw [← hz]
  exact cmp_drop rfl
section
variable {x y z : Int} {t : Nat} {w : Bool} {cs : List Cell} {M : Mem} (h : Live M t (.row (triL cs) w 3)) (hn : cs.length ≤ 1000000000)
include h hn
theorem g_GreatestStair : CallsR PG F.impl_GreatestStair [.agg [.I x, .I y, .I z, .ref t 0 cs.length]] M (HeapX M (greatO x y z cs)) := by
  refine heapX_of ?_
  refine callsR_run K.impl_GreatestStair rfl ?_
  simp (disch := omega) only [C.impl_GreatestStair, ↓SXd, SXu, slBounds, ↓sop, ↓aop, ↓reduceIte, LV.cells, AOp.dst, LV.I, LV.B, LV.U, LV.S, LV.nil, Nat.reduceEqDiff, Nat.reduceAdd, Nat.reduceMul, Nat.reduceSub, Nat.reduceLeDiff, Nat.reduceBEq, Nat.reduceDiv, Nat.reduceMod, Int.reduceToNat, Int.reduceLT, Int.reduceLE, Int.reduceAdd, Int.reduceSub, Int.reduceMul, Int.reduceEq, Int.reduceNeg, reduceCtorEq, resV, resAll, ARes.ev, LV.flat, ite_true, ite_false, exists_eq_left', exists_eq_left, keyOf, implies_true, fillC, capOf]
  refine callK_of (g_IsHeap h.app.has hn) ?_
  simp (disch := omega) only [↓SXd, SXu, slBounds, ↓sop, ↓aop, ↓reduceIte, LV.cells, AOp.dst, LV.I, LV.B, LV.U, LV.S, LV.nil, Nat.reduceEqDiff, Nat.reduceAdd, Nat.reduceMul, Nat.reduceSub, Nat.reduceLeDiff, Nat.reduceBEq, Nat.reduceDiv, Nat.reduceMod, Int.reduceToNat, Int.reduceLT, Int.reduceLE, Int.reduceAdd, Int.reduceSub, Int.reduceMul, Int.reduceEq, Int.reduceNeg, reduceCtorEq, resV, resAll, ARes.ev, LV.flat, ite_true, ite_false, exists_eq_left', exists_eq_left, keyOf, implies_true, fillC, capOf]
  by_cases hH : HeapOK x y z cs
  rotate_left
  · rw [decide_eq_false hH]
    simp (disch := omega) only [fillC, splice, ↓SXd, SXu, slBounds, ↓sop, ↓aop, ↓reduceIte, LV.cells, AOp.dst, LV.I, LV.B, LV.U, LV.S, LV.nil, Nat.reduceEqDiff, Nat.reduceAdd, Nat.reduceMul, Nat.reduceSub, Nat.reduceLeDiff, Nat.reduceBEq, Nat.reduceDiv, Nat.reduceMod, Int.reduceToNat, Int.reduceLT, Int.reduceLE, Int.reduceAdd, Int.reduceSub, Int.reduceMul, Int.reduceEq, Int.reduceNeg, reduceCtorEq, resV, resAll, ARes.ev, LV.flat, ite_true, ite_false, exists_eq_left', exists_eq_left, keyOf, implies_true, fillC, capOf]
    exact heapX_no (if_neg hH) rfl (Pre.app _ _)
  rw [decide_eq_true hH]
  have hS := hH.1
  have hlen := hH.len
  have hv := vol_cast hS
  simp (disch := omega) only [↓SXd, SXu, slBounds, ↓sop, ↓aop, ↓reduceIte, LV.cells, AOp.dst, LV.I, LV.B, LV.U, LV.S, LV.nil, Nat.reduceEqDiff, Nat.reduceAdd, Nat.reduceMul, Nat.reduceSub, Nat.reduceLeDiff, Nat.reduceBEq, Nat.reduceDiv, Nat.reduceMod, Int.reduceToNat, Int.reduceLT, Int.reduceLE, Int.reduceAdd, Int.reduceSub, Int.reduceMul, Int.reduceEq, Int.reduceNeg, reduceCtorEq, resV, resAll, ARes.ev, LV.flat, ite_true, ite_false, exists_eq_left', exists_eq_left, keyOf, implies_true, fillC, capOf]
  refine callK_of (g_box) ?_
  simp (disch := omega) only [splice, ↓SXd, SXu, slBounds, ↓sop, ↓aop, ↓reduceIte, LV.cells, AOp.dst, LV.I, LV.B, LV.U, LV.S, LV.nil, Nat.reduceEqDiff, Nat.reduceAdd, Nat.reduceMul, Nat.reduceSub, Nat.reduceLeDiff, Nat.reduceBEq, Nat.reduceDiv, Nat.reduceMod, Int.reduceToNat, Int.reduceLT, Int.reduceLE, Int.reduceAdd, Int.reduceSub, Int.reduceMul, Int.reduceEq, Int.reduceNeg, reduceCtorEq, resV, resAll, ARes.ev, LV.flat, ite_true, ite_false, exists_eq_left', exists_eq_left, keyOf, implies_true, fillC, capOf]
  refine callK_of (g_those hS (p := upB x y z fun d => decide (d ∈ cs)) (f := F.impl_GreatestStair_1) (caps := [(M.length + 2, 0), (M.length, 0)]) fun M' hp i hi => ?_) ?_
  · exact g_GreatestStair_1 (h.app.pre hp) hH ((Live.newj (j := 2) rfl).pre hp) (Live.new.pre hp)
  simp (disch := omega) only [↓SXd, SXu, slBounds, ↓sop, ↓aop, ↓reduceIte, LV.cells, AOp.dst, LV.I, LV.B, LV.U, LV.S, LV.nil, Nat.reduceEqDiff, Nat.reduceAdd, Nat.reduceMul, Nat.reduceSub, Nat.reduceLeDiff, Nat.reduceBEq, Nat.reduceDiv, Nat.reduceMod, Int.reduceToNat, Int.reduceLT, Int.reduceLE, Int.reduceAdd, Int.reduceSub, Int.reduceMul, Int.reduceEq, Int.reduceNeg, reduceCtorEq, resV, resAll, ARes.ev, LV.flat, ite_true, ite_false, exists_eq_left', exists_eq_left, keyOf, implies_true, fillC, capOf]
  refine callK_of (g_heap hS) ?_
  simp (disch := omega) only [splice, ↓SXd, SXu, slBounds, ↓sop, ↓aop, ↓reduceIte, LV.cells, AOp.dst, LV.I, LV.B, LV.U, LV.S, LV.nil, Nat.reduceEqDiff, Nat.reduceAdd, Nat.reduceMul, Nat.reduceSub, Nat.reduceLeDiff, Nat.reduceBEq, Nat.reduceDiv, Nat.reduceMod, Int.reduceToNat, Int.reduceLT, Int.reduceLE, Int.reduceAdd, Int.reduceSub, Int.reduceMul, Int.reduceEq, Int.reduceNeg, reduceCtorEq, resV, resAll, ARes.ev, LV.flat, ite_true, ite_false, exists_eq_left', exists_eq_left, keyOf, implies_true, fillC, capOf]
  exact heapX_yes (if_pos hH) ⟨M.length + 3, rfl, Live.newj (j := 3) rfl, by omega⟩ (Pre.app _ _)
theorem h_sGreatestStair : CallsR PG F.spec_GreatestStair [.agg [.I x, .I y, .I z, .ref t 0 cs.length]] M (HeapX M (greatO x y z cs)) := by
  refine heapX_of ?_
  refine callsR_run K.spec_GreatestStair rfl ?_
  simp (disch := omega) only [C.spec_GreatestStair, ↓SXd, SXu, slBounds, ↓sop, ↓aop, ↓reduceIte, LV.cells, AOp.dst, LV.I, LV.B, LV.U, LV.S, LV.nil, Nat.reduceEqDiff, Nat.reduceAdd, Nat.reduceMul, Nat.reduceSub, Nat.reduceLeDiff, Nat.reduceBEq, Nat.reduceDiv, Nat.reduceMod, Int.reduceToNat, Int.reduceLT, Int.reduceLE, Int.reduceAdd, Int.reduceSub, Int.reduceMul, Int.reduceEq, Int.reduceNeg, reduceCtorEq, resV, resAll, ARes.ev, LV.flat, ite_true, ite_false, exists_eq_left', exists_eq_left, keyOf, implies_true, fillC, capOf]
  refine callK_of (h_l2Heap h.app.has hn) ?_
  simp (disch := omega) only [↓SXd, SXu, slBounds, ↓sop, ↓aop, ↓reduceIte, LV.cells, AOp.dst, LV.I, LV.B, LV.U, LV.S, LV.nil, Nat.reduceEqDiff, Nat.reduceAdd, Nat.reduceMul, Nat.reduceSub, Nat.reduceLeDiff, Nat.reduceBEq, Nat.reduceDiv, Nat.reduceMod, Int.reduceToNat, Int.reduceLT, Int.reduceLE, Int.reduceAdd, Int.reduceSub, Int.reduceMul, Int.reduceEq, Int.reduceNeg, reduceCtorEq, resV, resAll, ARes.ev, LV.flat, ite_true, ite_false, exists_eq_left', exists_eq_left, keyOf, implies_true, fillC, capOf]
  by_cases hH : HeapOK x y z cs
  rotate_left
  · simp (disch := omega) only [hH, fillC, splice, ↓SXd, SXu, slBounds, ↓sop, ↓aop, ↓reduceIte, LV.cells, AOp.dst, LV.I, LV.B, LV.U, LV.S, LV.nil, Nat.reduceEqDiff, Nat.reduceAdd, Nat.reduceMul, Nat.reduceSub, Nat.reduceLeDiff, Nat.reduceBEq, Nat.reduceDiv, Nat.reduceMod, Int.reduceToNat, Int.reduceLT, Int.reduceLE, Int.reduceAdd, Int.reduceSub, Int.reduceMul, Int.reduceEq, Int.reduceNeg, reduceCtorEq, resV, resAll, ARes.ev, LV.flat, ite_true, ite_false, exists_eq_left', exists_eq_left, keyOf, implies_true, fillC, capOf]
    exact heapX_no (if_neg hH) rfl (Pre.app _ _)
  have hS := hH.1
  have hlen := hH.len
  simp (disch := omega) only [hH, ↓SXd, SXu, slBounds, ↓sop, ↓aop, ↓reduceIte, LV.cells, AOp.dst, LV.I, LV.B, LV.U, LV.S, LV.nil, Nat.reduceEqDiff, Nat.reduceAdd, Nat.reduceMul, Nat.reduceSub, Nat.reduceLeDiff, Nat.reduceBEq, Nat.reduceDiv, Nat.reduceMod, Int.reduceToNat, Int.reduceLT, Int.reduceLE, Int.reduceAdd, Int.reduceSub, Int.reduceMul, Int.reduceEq, Int.reduceNeg, reduceCtorEq, resV, resAll, ARes.ev, LV.flat, ite_true, ite_false, exists_eq_left', exists_eq_left, keyOf, implies_true, fillC, capOf]
  refine callK_of (h_l2Empty) ?_
  simp (disch := omega) only [splice, ↓SXd, SXu, slBounds, ↓sop, ↓aop, ↓reduceIte, LV.cells, AOp.dst, LV.I, LV.B, LV.U, LV.S, LV.nil, Nat.reduceEqDiff, Nat.reduceAdd, Nat.reduceMul, Nat.reduceSub, Nat.reduceLeDiff, Nat.reduceBEq, Nat.reduceDiv, Nat.reduceMod, Int.reduceToNat, Int.reduceLT, Int.reduceLE, Int.reduceAdd, Int.reduceSub, Int.reduceMul, Int.reduceEq, Int.reduceNeg, reduceCtorEq, resV, resAll, ARes.ev, LV.flat, ite_true, ite_false, exists_eq_left', exists_eq_left, keyOf, implies_true, fillC, capOf]
  refine callK_of (h_l2All hS) ?_
  simp (disch := omega) only [↓SXd, SXu, slBounds, ↓sop, ↓aop, ↓reduceIte, LV.cells, AOp.dst, LV.I, LV.B, LV.U, LV.S, LV.nil, Nat.reduceEqDiff, Nat.reduceAdd, Nat.reduceMul, Nat.reduceSub, Nat.reduceLeDiff, Nat.reduceBEq, Nat.reduceDiv, Nat.reduceMod, Int.reduceToNat, Int.reduceLT, Int.reduceLE, Int.reduceAdd, Int.reduceSub, Int.reduceMul, Int.reduceEq, Int.reduceNeg, reduceCtorEq, resV, resAll, ARes.ev, LV.flat, ite_true, ite_false, exists_eq_left', exists_eq_left, keyOf, implies_true, fillC, capOf]
  have hal : (cellsOf x y z).length ≤ 64 := by
    have := pick_len hS fun _ => true
    unfold pick at this
    rw [List.filter_eq_self.2 fun _ _ => rfl] at this
    exact this
  have hso := cellsOf_sorted hS
  have hbox : ∀ c, c ∈ cellsOf x y z ↔ c.inBox x y z := fun c => mem_cellsOf hS
  have hpk : ∀ p : Cell → Bool, pick x y z p = (cellsOf x y z).filter p := fun _ => rfl
  generalize hA : cellsOf x y z = A at hal hso hbox hpk ⊢
  have e0 : (pick x y z fun d => decide (d ∈ A.take 0) && upB x y z (fun d => decide (d ∈ cs)) d) = [] := by unfold pick; rw [List.filter_eq_nil_iff]; simp
  refine ev_loop (fun m fr M' => ∃ (i u : Nat), i + m = A.length ∧ Pre M M' ∧ Live M' M.length (.row [.I x, .I y, .I z, .ref t 0 cs.length] true 0) ∧ Live M' (M.length + 1) (.row [.I 0, .I 0, .I 0, .nil] true 0) ∧ Live M' (M.length + 3) (.row [.I x, .I y, .I z, .ref u 0 (pick x y z fun d => decide (d ∈ A.take i) && upB x y z (fun d => decide (d ∈ cs)) d).length] true 0) ∧ Live M' (M.length + 4) (.row (triL A) true 3) ∧
    Live M' u (.row (triL (pick x y z fun d => decide (d ∈ A.take i) && upB x y z (fun d => decide (d ∈ cs)) d)) true 3) ∧ M.length ≤ u ∧
    fr 1 = .ptr M.length 0 ∧ fr 2 = .ptr (M.length + 1) 0 ∧ fr 4 = .ptr (M.length + 3) 0 ∧ fr 5 = .ref (M.length + 4) 0 A.length ∧ fr 6 = .I i) A.length
    ⟨0, M.length + 2, by omega, Pre.app _ _, Live.new, Live.newj rfl, by rw [e0]; exact Live.newj (j := 3) rfl, Live.newj (j := 4) rfl, by rw [e0]; exact Live.newj (j := 2) rfl, by omega, rfl, rfl, rfl, rfl, rfl⟩ ?_
  rintro m fr M' ⟨i, u, hi, hpre, b1, b2, b4, b5, bu, hu, f1, f2, f4, f5, f6⟩
  simp (disch := omega) only [f1, f2, f4, f5, f6, ↓SXd, SXu, slBounds, ↓sop, ↓aop, ↓reduceIte, LV.cells, AOp.dst, LV.I, LV.B, LV.U, LV.S, LV.nil, Nat.reduceEqDiff, Nat.reduceAdd, Nat.reduceMul, Nat.reduceSub, Nat.reduceLeDiff, Nat.reduceBEq, Nat.reduceDiv, Nat.reduceMod, Int.reduceToNat, Int.reduceLT, Int.reduceLE, Int.reduceAdd, Int.reduceSub, Int.reduceMul, Int.reduceEq, Int.reduceNeg, reduceCtorEq, resV, resAll, ARes.ev, LV.flat, ite_true, ite_false, exists_eq_left', exists_eq_left, keyOf, implies_true, fillC, capOf]
  refine condC_dec (fun hlt => ?_) (fun hlt => ?_)
  · have hil : i < A.length := by omega
    have hts : A.take (i + 1) = A.take i ++ [A.getD i default] := take_snoc' hil
    have hcb := (hbox _).1 (getD_mem' (d := default) hil)
    have hcg := fun {N : Mem} (hp : Pre M' N) => (b5.pre hp).tri0 hil
    have hlo : ∀ d, d.inBox x y z → d.lt (A.getD i default) → d ∈ A.take i := fun d hd hl => by
      have hdA := (hbox d).2 hd
      rw [← List.take_append_drop i A] at hdA
      rcases List.mem_append.1 hdA with h | h
      · exact h
      · exfalso
        have hdr : A.drop i = A.getD i default :: A.drop (i + 1) := by
          rw [List.drop_eq_getElem_cons hil]; simp [List.getD_eq_getElem?_getD, List.getElem?_eq_getElem hil]
        rw [hdr] at h
        rw [← List.take_append_drop i A, hdr] at hso
        have h2 := (List.pairwise_append.1 hso).2.1
        rcases List.mem_cons.1 h with rfl | h
        · exact Cell.lt_irrefl _ hl
        · exact Cell.lt_irrefl _ (Cell.lt_trans hl ((List.pairwise_cons.1 h2).1 d h))
    have hup : ∀ d ∈ A.take i, d.lt (A.getD i default) := fun d hd => by
      have hdr : A.drop i = A.getD i default :: A.drop (i + 1) := by
        rw [List.drop_eq_getElem_cons hil]; simp [List.getD_eq_getElem?_getD, List.getElem?_eq_getElem hil]
      rw [← List.take_append_drop i A, hdr] at hso
      exact (List.pairwise_append.1 hso).2.2 d hd _ (by simp)
    generalize A.getD i default = c at hts hcb hcg hlo hup
    have hund : ∀ d, undC d c → d = c ∨ d.lt c := fun d hl => by
      obtain ⟨l1, l2, l3⟩ := hl
      by_cases h1 : d.a < c.a
      · exact .inr (.inl h1)
      · have h1' : d.a = c.a := by omega
        by_cases h2 : d.b < c.b
        · exact .inr (.inr ⟨h1', .inl h2⟩)
        · have h2' : d.b = c.b := by omega
          by_cases h3 : d.c < c.c
          · exact .inr (.inr ⟨h1', .inr ⟨h2', h3⟩⟩)
          · exact .inl (by rw [cell_eq]; exact ⟨h1', h2', by omega⟩)
    -- the set with one more cell
    have hst : decide (c ∈ cs) = true → ((StairP x y z fun d => (decide (d ∈ A.take i) && upB x y z (fun d => decide (d ∈ cs)) d) || decide (d = c)) ↔ upB x y z (fun d => decide (d ∈ cs)) c = true) := fun hc => by
      constructor
      · intro hs
        refine (up_iff hS).2 fun d hd hl => ?_
        have := hs c hcb (by simp) d hd hl
        rw [Bool.or_eq_true, Bool.and_eq_true, decide_eq_true_iff, decide_eq_true_iff] at this
        rcases this with ⟨_, h⟩ | rfl
        · exact up_sub hS hd h
        · exact hc
      · intro hupc e he hpe d hd hl
        have he2 : upB x y z (fun d => decide (d ∈ cs)) e = true ∧ (e ∈ A.take i ∨ e = c) := by
          rw [Bool.or_eq_true, Bool.and_eq_true, decide_eq_true_iff, decide_eq_true_iff] at hpe
          rcases hpe with ⟨h1, h2⟩ | rfl
          · exact ⟨h2, .inl h1⟩
          · exact ⟨hupc, .inr rfl⟩
        have hud := up_stair hS e he he2.1 d hd hl
        rw [Bool.or_eq_true, Bool.and_eq_true, decide_eq_true_iff, decide_eq_true_iff]
        by_cases hdc : d = c
        · exact .inr hdc
        · refine .inl ⟨hlo d hd ?_, hud⟩
          rcases he2.2 with h1 | rfl
          · have h2 := hup e h1
            obtain ⟨l1, l2, l3⟩ := hl
            by_cases hde : d = e
            · rw [hde]; exact h2
            · refine Cell.lt_trans ?_ h2
              by_cases h3 : d.a < e.a
              · exact .inl h3
              · have h3' : d.a = e.a := by omega
                by_cases h4 : d.b < e.b
                · exact .inr ⟨h3', .inl h4⟩
                · have h4' : d.b = e.b := by omega
                  exact .inr ⟨h3', .inr ⟨h4', by
                    rcases Int.lt_or_eq_of_le l3 with h | h
                    · exact h
                    · exact absurd (cell_eq.2 ⟨h3', h4', h⟩) hde⟩⟩
          · exact (hund d hl).resolve_left hdc
    have hb4 := b4.lt
    have hpM := hpre.1
    have hbul := bu.lt
    simp (disch := omega) only [f1, f2, f4, f5, f6, b4.app.cells, b4.cells, (hcg (Pre.app _ _)), (hcg (Pre.refl _)), Cell.row, ↓SXd, SXu, slBounds, ↓sop, ↓aop, ↓reduceIte, LV.cells, AOp.dst, LV.I, LV.B, LV.U, LV.S, LV.nil, Nat.reduceEqDiff, Nat.reduceAdd, Nat.reduceMul, Nat.reduceSub, Nat.reduceLeDiff, Nat.reduceBEq, Nat.reduceDiv, Nat.reduceMod, Int.reduceToNat, Int.reduceLT, Int.reduceLE, Int.reduceAdd, Int.reduceSub, Int.reduceMul, Int.reduceEq, Int.reduceNeg, reduceCtorEq, resV, resAll, ARes.ev, LV.flat, ite_true, ite_false, exists_eq_left', exists_eq_left, keyOf, implies_true, fillC, capOf]
    have hwp : (pick x y z fun d => decide (d ∈ pick x y z fun d => decide (d ∈ A.take i) && upB x y z (fun d => decide (d ∈ cs)) d) || decide (d = c)) = pick x y z fun d => (decide (d ∈ A.take i) && upB x y z (fun d => decide (d ∈ cs)) d) || decide (d = c) := pick_congr hS fun d hd => by
      congr 1
      rw [Bool.eq_iff_iff, decide_eq_true_iff, mem_pick hS]; exact ⟨fun h => h.2, fun h => ⟨hd, h⟩⟩
    have hwith := h_l2With (c := c) (M := M' ++ [none]) bu.app (pick_ok hS _) hcb
    rw [hwp] at hwith
    refine callK_of hwith ?_
    have hokw := pick_ok hS fun d => (decide (d ∈ A.take i) && upB x y z (fun d => decide (d ∈ cs)) d) || decide (d = c)
    have hmemw : (StairP x y z fun d => decide (d ∈ pick x y z fun d => (decide (d ∈ A.take i) && upB x y z (fun d => decide (d ∈ cs)) d) || decide (d = c))) ↔ StairP x y z fun d => (decide (d ∈ A.take i) && upB x y z (fun d => decide (d ∈ cs)) d) || decide (d = c) := stairP_congr fun d hd => by
      rw [Bool.eq_iff_iff, decide_eq_true_iff, mem_pick hS]; exact ⟨fun h => h.2, fun h => ⟨hd, h⟩⟩
    have hnext : upB x y z (fun d => decide (d ∈ cs)) c = true → (pick x y z fun d => decide (d ∈ A.take (i + 1)) && upB x y z (fun d => decide (d ∈ cs)) d) = pick x y z fun d => (decide (d ∈ A.take i) && upB x y z (fun d => decide (d ∈ cs)) d) || decide (d = c) := fun hc => pick_congr hS fun d _ => by
      rw [hts, Bool.eq_iff_iff]
      simp only [List.mem_append, List.mem_singleton, Bool.and_eq_true, Bool.or_eq_true, decide_eq_true_eq]
      constructor
      · rintro ⟨h1 | h1, h2⟩
        · exact .inl ⟨h1, h2⟩
        · exact .inr h1
      · rintro (⟨h1, h2⟩ | rfl)
        · exact ⟨.inl h1, h2⟩
        · exact ⟨.inr rfl, hc⟩
    have hsame : upB x y z (fun d => decide (d ∈ cs)) c ≠ true → (pick x y z fun d => decide (d ∈ A.take (i + 1)) && upB x y z (fun d => decide (d ∈ cs)) d) = pick x y z fun d => decide (d ∈ A.take i) && upB x y z (fun d => decide (d ∈ cs)) d := fun hc => pick_congr hS fun d _ => by
      rw [hts, Bool.eq_iff_iff]
      simp only [List.mem_append, List.mem_singleton, Bool.and_eq_true, decide_eq_true_eq]
      constructor
      · rintro ⟨h1 | rfl, h2⟩
        · exact ⟨h1, h2⟩
        · exact absurd h2 hc
      · rintro ⟨h1, h2⟩; exact ⟨.inl h1, h2⟩
    generalize (pick x y z fun d => (decide (d ∈ A.take i) && upB x y z (fun d => decide (d ∈ cs)) d) || decide (d = c)) = W at hokw hmemw hnext ⊢
    simp (disch := omega) only [f1, f2, f4, f5, f6, splice, ↓SXd, SXu, slBounds, ↓sop, ↓aop, ↓reduceIte, LV.cells, AOp.dst, LV.I, LV.B, LV.U, LV.S, LV.nil, Nat.reduceEqDiff, Nat.reduceAdd, Nat.reduceMul, Nat.reduceSub, Nat.reduceLeDiff, Nat.reduceBEq, Nat.reduceDiv, Nat.reduceMod, Int.reduceToNat, Int.reduceLT, Int.reduceLE, Int.reduceAdd, Int.reduceSub, Int.reduceMul, Int.reduceEq, Int.reduceNeg, reduceCtorEq, resV, resAll, ARes.ev, LV.flat, ite_true, ite_false, exists_eq_left', exists_eq_left, keyOf, implies_true, fillC, capOf]
    have d1 := b1.app (L := [some (.row [.I x, .I y, .I z, .ref (M'.length + 1) 0 W.length] true 0), some (.row (triL W) true 3)])
    have d5 := hcg (Pre.app M' [some (.row [.I x, .I y, .I z, .ref (M'.length + 1) 0 W.length] true 0), some (.row (triL W) true 3)])
    have d4 := b4.app (L := [some (.row [.I x, .I y, .I z, .ref (M'.length + 1) 0 W.length] true 0), some (.row (triL W) true 3)])
    have dW : Live (M' ++ [some (.row [.I x, .I y, .I z, .ref (M'.length + 1) 0 W.length] true 0), some (.row (triL W) true 3)]) (M'.length + 1) (.row (triL W) true 3) := Live.newj (j := 1) rfl
    have dh := (h.pre hpre).app (L := [some (.row [.I x, .I y, .I z, .ref (M'.length + 1) 0 W.length] true 0), some (.row (triL W) true 3)])
    simp (disch := omega) only [f1, f2, f4, f5, f6, d1.cells, d5, Cell.row, ↓SXd, SXu, slBounds, ↓sop, ↓aop, ↓reduceIte, LV.cells, AOp.dst, LV.I, LV.B, LV.U, LV.S, LV.nil, Nat.reduceEqDiff, Nat.reduceAdd, Nat.reduceMul, Nat.reduceSub, Nat.reduceLeDiff, Nat.reduceBEq, Nat.reduceDiv, Nat.reduceMod, Int.reduceToNat, Int.reduceLT, Int.reduceLE, Int.reduceAdd, Int.reduceSub, Int.reduceMul, Int.reduceEq, Int.reduceNeg, reduceCtorEq, resV, resAll, ARes.ev, LV.flat, ite_true, ite_false, exists_eq_left', exists_eq_left, keyOf, implies_true, fillC, capOf]
    refine callK_of (h_l2Has dh.has hn) ?_
    rw [cell_eta]
    by_cases hc : c ∈ cs
    · simp (disch := omega) only [f1, f2, f4, f5, f6, hc, ↓SXd, SXu, slBounds, ↓sop, ↓aop, ↓reduceIte, LV.cells, AOp.dst, LV.I, LV.B, LV.U, LV.S, LV.nil, Nat.reduceEqDiff, Nat.reduceAdd, Nat.reduceMul, Nat.reduceSub, Nat.reduceLeDiff, Nat.reduceBEq, Nat.reduceDiv, Nat.reduceMod, Int.reduceToNat, Int.reduceLT, Int.reduceLE, Int.reduceAdd, Int.reduceSub, Int.reduceMul, Int.reduceEq, Int.reduceNeg, reduceCtorEq, resV, resAll, ARes.ev, LV.flat, ite_true, ite_false, exists_eq_left', exists_eq_left, keyOf, implies_true, fillC, capOf]
      refine callK_of (h_l5Stair dW hokw) ?_
      have hcc := (hst (decide_eq_true hc))
      by_cases hs : StairP x y z fun d => decide (d ∈ W)
      · have hupc := hcc.1 (hmemw.1 hs)
        simp (disch := omega) only [f1, f2, f4, f5, f6, hs, ↓SXd, SXu, slBounds, ↓sop, ↓aop, ↓reduceIte, LV.cells, AOp.dst, LV.I, LV.B, LV.U, LV.S, LV.nil, Nat.reduceEqDiff, Nat.reduceAdd, Nat.reduceMul, Nat.reduceSub, Nat.reduceLeDiff, Nat.reduceBEq, Nat.reduceDiv, Nat.reduceMod, Int.reduceToNat, Int.reduceLT, Int.reduceLE, Int.reduceAdd, Int.reduceSub, Int.reduceMul, Int.reduceEq, Int.reduceNeg, reduceCtorEq, resV, resAll, ARes.ev, LV.flat, ite_true, ite_false, exists_eq_left', exists_eq_left, keyOf, implies_true, fillC, capOf]
        refine memK_box d4 (by simp) fun N k1 k2 k3 => ?_
        simp (disch := omega) only [f1, f2, f4, f5, f6, ↓SXd, SXu, slBounds, ↓sop, ↓aop, ↓reduceIte, LV.cells, AOp.dst, LV.I, LV.B, LV.U, LV.S, LV.nil, Nat.reduceEqDiff, Nat.reduceAdd, Nat.reduceMul, Nat.reduceSub, Nat.reduceLeDiff, Nat.reduceBEq, Nat.reduceDiv, Nat.reduceMod, Int.reduceToNat, Int.reduceLT, Int.reduceLE, Int.reduceAdd, Int.reduceSub, Int.reduceMul, Int.reduceEq, Int.reduceNeg, reduceCtorEq, resV, resAll, ARes.ev, LV.flat, ite_true, ite_false, exists_eq_left', exists_eq_left, keyOf, implies_true, fillC, capOf]
        refine ⟨m - 1, by omega, i + 1, M'.length + 1, by omega, pre_step (hpre.trans (Pre.app _ _)) (by omega) (j := 0) k1 k3, live_step d1 (by omega) k3, live_step b2.app (by omega) k3, by rw [hnext hupc]; exact k2, live_step b5.app (by omega) k3, by rw [hnext hupc]; exact live_step dW (by omega) k3, by omega, f1, f2, f4, f5, eqI (natI _)⟩
      · have hupc : upB x y z (fun d => decide (d ∈ cs)) c ≠ true := fun e => hs (hmemw.2 (hcc.2 e))
        simp (disch := omega) only [f1, f2, f4, f5, f6, hs, ↓SXd, SXu, slBounds, ↓sop, ↓aop, ↓reduceIte, LV.cells, AOp.dst, LV.I, LV.B, LV.U, LV.S, LV.nil, Nat.reduceEqDiff, Nat.reduceAdd, Nat.reduceMul, Nat.reduceSub, Nat.reduceLeDiff, Nat.reduceBEq, Nat.reduceDiv, Nat.reduceMod, Int.reduceToNat, Int.reduceLT, Int.reduceLE, Int.reduceAdd, Int.reduceSub, Int.reduceMul, Int.reduceEq, Int.reduceNeg, reduceCtorEq, resV, resAll, ARes.ev, LV.flat, ite_true, ite_false, exists_eq_left', exists_eq_left, keyOf, implies_true, fillC, capOf]
        exact ⟨m - 1, by omega, i + 1, u, by omega, hpre.trans (Pre.app _ _), d1, b2.app, by rw [hsame hupc]; exact d4, b5.app, by rw [hsame hupc]; exact bu.app, hu, f1, f2, f4, f5, eqI (natI _)⟩
    · have hupc : upB x y z (fun d => decide (d ∈ cs)) c ≠ true := fun e => hc (of_decide_eq_true (up_sub hS hcb e))
      simp (disch := omega) only [f1, f2, f4, f5, f6, hc, ↓SXd, SXu, slBounds, ↓sop, ↓aop, ↓reduceIte, LV.cells, AOp.dst, LV.I, LV.B, LV.U, LV.S, LV.nil, Nat.reduceEqDiff, Nat.reduceAdd, Nat.reduceMul, Nat.reduceSub, Nat.reduceLeDiff, Nat.reduceBEq, Nat.reduceDiv, Nat.reduceMod, Int.reduceToNat, Int.reduceLT, Int.reduceLE, Int.reduceAdd, Int.reduceSub, Int.reduceMul, Int.reduceEq, Int.reduceNeg, reduceCtorEq, resV, resAll, ARes.ev, LV.flat, ite_true, ite_false, exists_eq_left', exists_eq_left, keyOf, implies_true, fillC, capOf]
      exact ⟨m - 1, by omega, i + 1, u, by omega, hpre.trans (Pre.app _ _), d1, b2.app, by rw [hsame hupc]; exact d4, b5.app, by rw [hsame hupc]; exact bu.app, hu, f1, f2, f4, f5, eqI (natI _)⟩
  · have : i = A.length := by omega
    subst this
    have hfin : (pick x y z fun d => decide (d ∈ A.take A.length) && upB x y z (fun d => decide (d ∈ cs)) d) = (greatOf x y z cs).cs := pick_congr hS fun d hd => by
      rw [List.take_length, decide_eq_true ((hbox d).2 hd), Bool.true_and]
    rw [hfin] at b4 bu
    have hb4 := b4.lt
    simp (disch := omega) only [f1, f2, f4, f5, f6, b4.cells, ↓SXd, SXu, slBounds, ↓sop, ↓aop, ↓reduceIte, LV.cells, AOp.dst, LV.I, LV.B, LV.U, LV.S, LV.nil, Nat.reduceEqDiff, Nat.reduceAdd, Nat.reduceMul, Nat.reduceSub, Nat.reduceLeDiff, Nat.reduceBEq, Nat.reduceDiv, Nat.reduceMod, Int.reduceToNat, Int.reduceLT, Int.reduceLE, Int.reduceAdd, Int.reduceSub, Int.reduceMul, Int.reduceEq, Int.reduceNeg, reduceCtorEq, resV, resAll, ARes.ev, LV.flat, ite_true, ite_false, exists_eq_left', exists_eq_left, keyOf, implies_true, fillC, capOf]
    refine memK_box b2 (by simp) fun N k1 k2 k3 => ?_
    simp (disch := omega) only [f1, f2, f4, f5, f6, k2.cells, ↓SXd, SXu, slBounds, ↓sop, ↓aop, ↓reduceIte, LV.cells, AOp.dst, LV.I, LV.B, LV.U, LV.S, LV.nil, Nat.reduceEqDiff, Nat.reduceAdd, Nat.reduceMul, Nat.reduceSub, Nat.reduceLeDiff, Nat.reduceBEq, Nat.reduceDiv, Nat.reduceMod, Int.reduceToNat, Int.reduceLT, Int.reduceLE, Int.reduceAdd, Int.reduceSub, Int.reduceMul, Int.reduceEq, Int.reduceNeg, reduceCtorEq, resV, resAll, ARes.ev, LV.flat, ite_true, ite_false, exists_eq_left', exists_eq_left, keyOf, implies_true, fillC, capOf]
    exact heapX_yes (if_pos hH) ⟨u, rfl, live_step bu (bu.ne_esz b2 (by decide)) k3, hu⟩ (pre_step hpre (by omega) (j := 0) k1 k3)
end
theorem g_StairHollows_1 {x y z : Int} (hS : Sides x y z) {p : Cell → Bool} {c : Cell} {b1 b2 : Nat} {M : Mem} (hc : c.inBox x y z) (h1 : Live M b1 (.row [.I x, .I y, .I z] true 0)) (h2 : Live M b2 (.row [.W (bs x y z p)] true 0)) :
    CallsTo PG F.impl_StairHollows_1 [.agg [.I c.a, .I c.b, .I c.c], .ptr b1 0, .ptr b2 0] M (.B (hollC x y z p c)) M := by
  have hix := (idx_in hS hc).1
  refine calls_run K.impl_StairHollows_1 rfl ?_
  simp (disch := omega) only [C.impl_StairHollows_1, h1.app.cells, h2.app.cell, ↓SXd, SXu, slBounds, ↓sop, ↓aop, ↓reduceIte, LV.cells, AOp.dst, LV.I, LV.B, LV.U, LV.S, LV.nil, Nat.reduceEqDiff, Nat.reduceAdd, Nat.reduceMul, Nat.reduceSub, Nat.reduceLeDiff, Nat.reduceBEq, Nat.reduceDiv, Nat.reduceMod, Int.reduceToNat, Int.reduceLT, Int.reduceLE, Int.reduceAdd, Int.reduceSub, Int.reduceMul, Int.reduceEq, Int.reduceNeg, reduceCtorEq, resV, resAll, ARes.ev, LV.flat, ite_true, ite_false, exists_eq_left', exists_eq_left, keyOf, implies_true, fillC, capOf]
  refine callK_of (g_index hS hc) ?_
  simp (disch := omega) only [h1.app.cells, h2.app.cell, ↓SXd, SXu, slBounds, ↓sop, ↓aop, ↓reduceIte, LV.cells, AOp.dst, LV.I, LV.B, LV.U, LV.S, LV.nil, Nat.reduceEqDiff, Nat.reduceAdd, Nat.reduceMul, Nat.reduceSub, Nat.reduceLeDiff, Nat.reduceBEq, Nat.reduceDiv, Nat.reduceMod, Int.reduceToNat, Int.reduceLT, Int.reduceLE, Int.reduceAdd, Int.reduceSub, Int.reduceMul, Int.reduceEq, Int.reduceNeg, reduceCtorEq, resV, resAll, ARes.ev, LV.flat, ite_true, ite_false, exists_eq_left', exists_eq_left, keyOf, implies_true, fillC, capOf]
  rw [bs_one hS hc, bs_and hS]
  unfold hollC
  have hz : (bs x y z (fun d => p d && decide (d = c)) = 0#64) ↔ p c = false := by
    rw [bs_zero hS]
    constructor
    · intro h; have := h c hc; simpa using this
    · intro h d _
      by_cases e : d = c
      · subst e; simp [h]
      · simp [e]
  cases hp : p c with
  | true =>
    have hz' : ¬ (bs x y z (fun d => p d && decide (d = c)) = 0#64) := fun e => by rw [hz.1 e] at hp; cases hp
    simp (disch := omega) only [hz', ↓SXd, SXu, slBounds, ↓sop, ↓aop, ↓reduceIte, LV.cells, AOp.dst, LV.I, LV.B, LV.U, LV.S, LV.nil, Nat.reduceEqDiff, Nat.reduceAdd, Nat.reduceMul, Nat.reduceSub, Nat.reduceLeDiff, Nat.reduceBEq, Nat.reduceDiv, Nat.reduceMod, Int.reduceToNat, Int.reduceLT, Int.reduceLE, Int.reduceAdd, Int.reduceSub, Int.reduceMul, Int.reduceEq, Int.reduceNeg, reduceCtorEq, resV, resAll, ARes.ev, LV.flat, ite_true, ite_false, exists_eq_left', exists_eq_left, keyOf, implies_true, fillC, capOf]
    exact cmp_drop rfl
  | false =>
    simp (disch := omega) only [hz.2, hp, h1.app.cells, h2.app.cell, ↓SXd, SXu, slBounds, ↓sop, ↓aop, ↓reduceIte, LV.cells, AOp.dst, LV.I, LV.B, LV.U, LV.S, LV.nil, Nat.reduceEqDiff, Nat.reduceAdd, Nat.reduceMul, Nat.reduceSub, Nat.reduceLeDiff, Nat.reduceBEq, Nat.reduceDiv, Nat.reduceMod, Int.reduceToNat, Int.reduceLT, Int.reduceLE, Int.reduceAdd, Int.reduceSub, Int.reduceMul, Int.reduceEq, Int.reduceNeg, reduceCtorEq, resV, resAll, ARes.ev, LV.flat, ite_true, ite_false, exists_eq_left', exists_eq_left, keyOf, implies_true, fillC, capOf]
    rw [bs_or hS]
    refine callK_of (g_box_isStair hS) ?_
    simp (disch := omega) only [↓SXd, SXu, slBounds, ↓sop, ↓aop, ↓reduceIte, LV.cells, AOp.dst, LV.I, LV.B, LV.U, LV.S, LV.nil, Nat.reduceEqDiff, Nat.reduceAdd, Nat.reduceMul, Nat.reduceSub, Nat.reduceLeDiff, Nat.reduceBEq, Nat.reduceDiv, Nat.reduceMod, Int.reduceToNat, Int.reduceLT, Int.reduceLE, Int.reduceAdd, Int.reduceSub, Int.reduceMul, Int.reduceEq, Int.reduceNeg, reduceCtorEq, resV, resAll, ARes.ev, LV.flat, ite_true, ite_false, exists_eq_left', exists_eq_left, keyOf, implies_true, fillC, capOf]
    exact cmp_drop rfl
theorem g_StairHollows {x y z : Int} {t : Nat} {w : Bool} {cs : List Cell} {M : Mem} (h : Live M t (.row (triL cs) w 3)) (hV : HeapOK x y z cs ∧ StairP x y z fun c => decide (c ∈ cs)) :
    CallsR PG F.impl_StairHollows [.agg [.I x, .I y, .I z, .ref t 0 cs.length]] M fun v N => ∃ u, v = .tup [.ref u 0 (hollL x y z cs).length, .B true] ∧ Live N u (.row (triL (hollL x y z cs)) true 3) ∧ Pre M N := by
  have hlen := hV.1.len
  have hS := hV.1.1
  have hv := vol_cast hS
  refine callsR_run K.impl_StairHollows rfl ?_
  simp (disch := omega) only [C.impl_StairHollows, ↓SXd, SXu, slBounds, ↓sop, ↓aop, ↓reduceIte, LV.cells, AOp.dst, LV.I, LV.B, LV.U, LV.S, LV.nil, Nat.reduceEqDiff, Nat.reduceAdd, Nat.reduceMul, Nat.reduceSub, Nat.reduceLeDiff, Nat.reduceBEq, Nat.reduceDiv, Nat.reduceMod, Int.reduceToNat, Int.reduceLT, Int.reduceLE, Int.reduceAdd, Int.reduceSub, Int.reduceMul, Int.reduceEq, Int.reduceNeg, reduceCtorEq, resV, resAll, ARes.ev, LV.flat, ite_true, ite_false, exists_eq_left', exists_eq_left, keyOf, implies_true, fillC, capOf]
  refine callK_of (g_isStair h.app.has (by omega)) ?_
  simp (disch := omega) only [↓SXd, SXu, slBounds, ↓sop, ↓aop, ↓reduceIte, LV.cells, AOp.dst, LV.I, LV.B, LV.U, LV.S, LV.nil, Nat.reduceEqDiff, Nat.reduceAdd, Nat.reduceMul, Nat.reduceSub, Nat.reduceLeDiff, Nat.reduceBEq, Nat.reduceDiv, Nat.reduceMod, Int.reduceToNat, Int.reduceLT, Int.reduceLE, Int.reduceAdd, Int.reduceSub, Int.reduceMul, Int.reduceEq, Int.reduceNeg, reduceCtorEq, resV, resAll, ARes.ev, LV.flat, ite_true, ite_false, exists_eq_left', exists_eq_left, keyOf, implies_true, fillC, capOf]
  rw [str_yes hV]
  simp (disch := omega) only [↓SXd, SXu, slBounds, ↓sop, ↓aop, ↓reduceIte, LV.cells, AOp.dst, LV.I, LV.B, LV.U, LV.S, LV.nil, Nat.reduceEqDiff, Nat.reduceAdd, Nat.reduceMul, Nat.reduceSub, Nat.reduceLeDiff, Nat.reduceBEq, Nat.reduceDiv, Nat.reduceMod, Int.reduceToNat, Int.reduceLT, Int.reduceLE, Int.reduceAdd, Int.reduceSub, Int.reduceMul, Int.reduceEq, Int.reduceNeg, reduceCtorEq, resV, resAll, ARes.ev, LV.flat, ite_true, ite_false, exists_eq_left', exists_eq_left, keyOf, implies_true, fillC, capOf]
  refine callK_of (g_box) ?_
  simp (disch := omega) only [↓SXd, SXu, slBounds, ↓sop, ↓aop, ↓reduceIte, LV.cells, AOp.dst, LV.I, LV.B, LV.U, LV.S, LV.nil, Nat.reduceEqDiff, Nat.reduceAdd, Nat.reduceMul, Nat.reduceSub, Nat.reduceLeDiff, Nat.reduceBEq, Nat.reduceDiv, Nat.reduceMod, Int.reduceToNat, Int.reduceLT, Int.reduceLE, Int.reduceAdd, Int.reduceSub, Int.reduceMul, Int.reduceEq, Int.reduceNeg, reduceCtorEq, resV, resAll, ARes.ev, LV.flat, ite_true, ite_false, exists_eq_left', exists_eq_left, keyOf, implies_true, fillC, capOf]
  refine callK_of (g_cubes (Has.app h.has) (by omega) hS (fun c hc => hV.1.mem hc)) ?_
  simp (disch := omega) only [splice, ↓SXd, SXu, slBounds, ↓sop, ↓aop, ↓reduceIte, LV.cells, AOp.dst, LV.I, LV.B, LV.U, LV.S, LV.nil, Nat.reduceEqDiff, Nat.reduceAdd, Nat.reduceMul, Nat.reduceSub, Nat.reduceLeDiff, Nat.reduceBEq, Nat.reduceDiv, Nat.reduceMod, Int.reduceToNat, Int.reduceLT, Int.reduceLE, Int.reduceAdd, Int.reduceSub, Int.reduceMul, Int.reduceEq, Int.reduceNeg, reduceCtorEq, resV, resAll, ARes.ev, LV.flat, ite_true, ite_false, exists_eq_left', exists_eq_left, keyOf, implies_true, fillC, capOf]
  refine callK_of (g_those hS (p := hollC x y z fun d => decide (d ∈ cs)) (f := F.impl_StairHollows_1) (caps := [(M.length + 1, 0), (M.length + 2, 0)]) fun M' hp i hi => ?_) ?_
  · exact g_StairHollows_1 hS (cellAt_in hS (by omega) (by omega)).1 ((Live.newj (j := 1) rfl).pre hp) ((Live.newj (j := 2) rfl).pre hp)
  simp (disch := omega) only [↓SXd, SXu, slBounds, ↓sop, ↓aop, ↓reduceIte, LV.cells, AOp.dst, LV.I, LV.B, LV.U, LV.S, LV.nil, Nat.reduceEqDiff, Nat.reduceAdd, Nat.reduceMul, Nat.reduceSub, Nat.reduceLeDiff, Nat.reduceBEq, Nat.reduceDiv, Nat.reduceMod, Int.reduceToNat, Int.reduceLT, Int.reduceLE, Int.reduceAdd, Int.reduceSub, Int.reduceMul, Int.reduceEq, Int.reduceNeg, reduceCtorEq, resV, resAll, ARes.ev, LV.flat, ite_true, ite_false, exists_eq_left', exists_eq_left, keyOf, implies_true, fillC, capOf]
  refine callK_of (g_list hS) ?_
  simp (disch := omega) only [↓SXd, SXu, slBounds, ↓sop, ↓aop, ↓reduceIte, LV.cells, AOp.dst, LV.I, LV.B, LV.U, LV.S, LV.nil, Nat.reduceEqDiff, Nat.reduceAdd, Nat.reduceMul, Nat.reduceSub, Nat.reduceLeDiff, Nat.reduceBEq, Nat.reduceDiv, Nat.reduceMod, Int.reduceToNat, Int.reduceLT, Int.reduceLE, Int.reduceAdd, Int.reduceSub, Int.reduceMul, Int.reduceEq, Int.reduceNeg, reduceCtorEq, resV, resAll, ARes.ev, LV.flat, ite_true, ite_false, exists_eq_left', exists_eq_left, keyOf, implies_true, fillC, capOf]
  exact ⟨_, rfl, Live.newj (j := 3) rfl, Pre.app _ _⟩
end Go.Ab

/- The abstract code of some functions (written by a program of mine from the translation, by way of prepF). -/
namespace Go.Ab.C
open Go.Ab
end Go.Ab.C

/- That the program has this code. -/
namespace Go.Ab.K
open Go Go.Ab
end Go.Ab.K

/- Tables: lists of lists of numbers in memory; how they grow; the law's comparison. -/
namespace Go.Ab
open Go
set_option linter.unusedSimpArgs false
set_option linter.unusedVariables false
set_option maxRecDepth 20000

/-- A table that is one's own: its blocks lie before b and not before lo. -/
def TabO (N : Mem) (t : Nat) (L : List (List Int)) (b lo : Nat) : Prop := ∃ refs : List LV, Live N t (.row refs true 1) ∧ refs.length = L.length ∧ t < b ∧ lo ≤ t ∧ ∀ i, i < L.length → ∃ u, lo ≤ u ∧ u < b ∧ u ≠ t ∧ refs[i]? = some (.ref u 0 (L.getD i []).length) ∧ Live N u (.row (intL (L.getD i [])) true 1)
theorem TabO.pre {N N' : Mem} {t : Nat} {L : List (List Int)} {b lo : Nat} (h : TabO N t L b lo) (hp : Pre N N') : TabO N' t L b lo := by
  obtain ⟨refs, h1, h2, h3, h0, h4⟩ := h
  exact ⟨refs, h1.pre hp, h2, h3, h0, fun i hi => by obtain ⟨u, q0, q1, q2, q3, q4⟩ := h4 i hi; exact ⟨u, q0, q1, q2, q3, q4.pre hp⟩⟩
theorem TabO.nil {N : Mem} {t lo : Nat} (h : Live N t (.row [] true 1)) (hl : lo ≤ t) : TabO N t [] N.length lo := ⟨[], h, rfl, h.lt, hl, fun i hi => by simp at hi⟩
/-- All that lies from lo on stays. -/
theorem TabO.hold {N N' : Mem} {t : Nat} {L : List (List Int)} {b lo : Nat} (h : TabO N t L b lo) (hk : ∀ q, lo ≤ q → q < N.length → N'[q]? = N[q]?) : TabO N' t L b lo := by
  obtain ⟨refs, h1, h2, h3, h0, h4⟩ := h
  have key : ∀ {q : Nat} {bl : Blk}, lo ≤ q → Live N q bl → Live N' q bl := fun {q bl} hq hl => by
    have := hl.lt
    unfold Live at hl ⊢
    rw [hk q hq this]; exact hl
  exact ⟨refs, key h0 h1, h2, h3, h0, fun i hi => by obtain ⟨u, q0, q1, q2, q3, q4⟩ := h4 i hi; exact ⟨u, q0, q1, q2, q3, key q0 q4⟩⟩
/-- A table that may be read. -/
def TabV (N : Mem) (v : LV) (L : List (List Int)) : Prop := (v = .nil ∧ L = []) ∨ ∃ (t : Nat) (refs : List LV), v = .ref t 0 L.length ∧ Live N t (.row refs true 1) ∧ refs.length = L.length ∧ ∀ i, i < L.length → ∃ u : Nat, refs[i]? = some (.ref u 0 (L.getD i []).length) ∧ Ints N u 0 (L.getD i [])
theorem TabO.v {N : Mem} {t : Nat} {L : List (List Int)} {b lo : Nat} (h : TabO N t L b lo) : TabV N (.ref t 0 L.length) L := by
  obtain ⟨refs, h1, h2, h3, h0, h4⟩ := h
  exact .inr ⟨t, refs, rfl, h1, h2, fun i hi => by obtain ⟨u, q0, q1, q2, q3, q4⟩ := h4 i hi; exact ⟨u, q3, q4.has⟩⟩
theorem TabV.pre {N N' : Mem} {v : LV} {L : List (List Int)} (h : TabV N v L) (hp : Pre N N') : TabV N' v L := by
  rcases h with h | ⟨t, refs, h1, h2, h3, h4⟩
  · exact .inl h
  · exact .inr ⟨t, refs, h1, h2.pre hp, h3, fun i hi => by obtain ⟨u, q3, q4⟩ := h4 i hi; exact ⟨u, q3, q4.pre hp⟩⟩
theorem TabV.lenV {N : Mem} {v : LV} {L : List (List Int)} (h : TabV N v L) : lenV v = some (L.length : Int) := by
  rcases h with ⟨rfl, rfl⟩ | ⟨t, refs, rfl, _⟩ <;> rfl
theorem TabV.at {N : Mem} {v : LV} {L : List (List Int)} {i : Nat} (h : TabV N v L) (hi : i < L.length) : ∃ t u : Nat, v = .ref t 0 L.length ∧ getCell N t i = some (.ref u 0 (L.getD i []).length) ∧ Ints N u 0 (L.getD i []) := by
  rcases h with ⟨_, rfl⟩ | ⟨t, refs, rfl, h2, h3, h4⟩
  · simp at hi
  · obtain ⟨u, q3, q4⟩ := h4 i hi
    refine ⟨t, u, rfl, ?_, q4⟩
    rw [← q3]
    exact h2.cell
end Go.Ab

/- Contracts: all staircases, their number, the one with a rank; what the law of their counts draws. -/
namespace Go.Ab
open Go
set_option linter.unusedSimpArgs false
set_option linter.unusedVariables false
set_option maxRecDepth 20000

theorem few_iff {x y z : Int} : fewB x y z = true ↔ Sides x y z ∧ cntSP x.toNat y.toNat z.toNat ≤ 1000 := by
  unfold fewB
  rw [Bool.and_eq_true, decide_eq_true_iff, decide_eq_true_iff]
theorem fews_len {x y z : Int} (h : fewB x y z = true) : (stairsOf x y z).length = cntSP x.toNat y.toNat z.toNat := by
  obtain ⟨hS, hc⟩ := few_iff.1 h
  obtain ⟨e1, e2, e3, h1, h2, h3⟩ := sidesN hS
  have hd := few_dec
  rw [List.all_eq_true] at hd
  have hd := hd (x.toNat - 1) (by rw [List.mem_range]; omega)
  rw [List.all_eq_true] at hd
  have hd := hd (y.toNat - 1) (by rw [List.mem_range]; omega)
  rw [List.all_eq_true] at hd
  have hd := hd (z.toNat - 1) (by rw [List.mem_range]; omega)
  rw [show x.toNat - 1 + 1 = x.toNat by omega, show y.toNat - 1 + 1 = y.toNat by omega, show z.toNat - 1 + 1 = z.toNat by omega, Bool.or_eq_true, decide_eq_true_iff, beq_iff_eq, e3] at hd
  unfold stairsOf
  rw [cntL_len]
  exact hd.resolve_left (by omega)
theorem cnt_sym {x y z : Int} (hS : Sides x y z) : cntSP z.toNat x.toNat y.toNat = cntSP x.toNat y.toNat z.toNat := by
  obtain ⟨e1, e2, e3, h1, h2, h3⟩ := sidesN hS
  have hd := sym_dec
  rw [List.all_eq_true] at hd
  have hd := hd x.toNat (by rw [List.mem_range]; omega)
  rw [List.all_eq_true] at hd
  have hd := hd y.toNat (by rw [List.mem_range]; omega)
  rw [List.all_eq_true] at hd
  have hd := hd z.toNat (by rw [List.mem_range]; omega)
  simpa using hd
/-- What AllStairs answers. -/
noncomputable def allOf (x y z : Int) : List (List Int) := if fewB x y z = true then stairsOf x y z else []
def TabA (M : Mem) (L : List (List Int)) (b : Bool) (v : LV) (N : Mem) : Prop := ∃ w, v = .tup [w, .B b] ∧ TabV N w L ∧ Pre M N
theorem TabR.tabV {N : Mem} {t : Nat} {L : List (List Int)} {av : List Nat} (h : TabR N t L av) : TabV N (.ref t 0 L.length) L := by
  obtain ⟨refs, h1, h2, h3⟩ := h.v
  exact .inr ⟨t, refs, rfl, h1, h2, h3⟩
theorem g_AllStairs {x y z : Int} {M : Mem} : CallsR PG F.impl_AllStairs [.I x, .I y, .I z] M (TabA M (allOf x y z) (fewB x y z)) := by
  refine callsR_run K.impl_AllStairs rfl ?_
  simp (disch := omega) only [C.impl_AllStairs, splice, ↓SXd, SXu, slBounds, ↓sop, ↓aop, ↓reduceIte, LV.cells, AOp.dst, LV.I, LV.B, LV.U, LV.S, LV.nil, Nat.reduceEqDiff, Nat.reduceAdd, Nat.reduceMul, Nat.reduceSub, Nat.reduceLeDiff, Nat.reduceBEq, Nat.reduceDiv, Nat.reduceMod, Int.reduceToNat, Int.reduceLT, Int.reduceLE, Int.reduceAdd, Int.reduceSub, Int.reduceMul, Int.reduceEq, Int.reduceNeg, reduceCtorEq, resV, resAll, ARes.ev, LV.flat, ite_true, ite_false, exists_eq_left', exists_eq_left, keyOf, implies_true, fillC, capOf]
  refine callR_of g_stairs ?_
  rintro _ N ⟨hr, hp⟩
  unfold allOf
  rcases hr with ⟨hf, u, rfl, hu, hT⟩ | ⟨hf, rfl⟩
  · rw [hf, if_pos rfl]
    simp (disch := omega) only [↓SXd, SXu, slBounds, ↓sop, ↓aop, ↓reduceIte, LV.cells, AOp.dst, LV.I, LV.B, LV.U, LV.S, LV.nil, Nat.reduceEqDiff, Nat.reduceAdd, Nat.reduceMul, Nat.reduceSub, Nat.reduceLeDiff, Nat.reduceBEq, Nat.reduceDiv, Nat.reduceMod, Int.reduceToNat, Int.reduceLT, Int.reduceLE, Int.reduceAdd, Int.reduceSub, Int.reduceMul, Int.reduceEq, Int.reduceNeg, reduceCtorEq, resV, resAll, ARes.ev, LV.flat, ite_true, ite_false, exists_eq_left', exists_eq_left, keyOf, implies_true, fillC, capOf]
    exact ⟨_, rfl, hT.tabV, hp⟩
  · rw [hf, if_neg (by simp)]
    simp (disch := omega) only [↓SXd, SXu, slBounds, ↓sop, ↓aop, ↓reduceIte, LV.cells, AOp.dst, LV.I, LV.B, LV.U, LV.S, LV.nil, Nat.reduceEqDiff, Nat.reduceAdd, Nat.reduceMul, Nat.reduceSub, Nat.reduceLeDiff, Nat.reduceBEq, Nat.reduceDiv, Nat.reduceMod, Int.reduceToNat, Int.reduceLT, Int.reduceLE, Int.reduceAdd, Int.reduceSub, Int.reduceMul, Int.reduceEq, Int.reduceNeg, reduceCtorEq, resV, resAll, ARes.ev, LV.flat, ite_true, ite_false, exists_eq_left', exists_eq_left, keyOf, implies_true, fillC, capOf]
    exact ⟨_, rfl, .inl ⟨rfl, rfl⟩, hp⟩
theorem h_sAllStairs {x y z : Int} {M : Mem} : CallsR PG F.spec_AllStairs [.I x, .I y, .I z] M (TabA M (allOf x y z) (fewB x y z)) := by
  refine callsR_run K.spec_AllStairs rfl ?_
  simp (disch := omega) only [C.spec_AllStairs, ↓SXd, SXu, slBounds, ↓sop, ↓aop, ↓reduceIte, LV.cells, AOp.dst, LV.I, LV.B, LV.U, LV.S, LV.nil, Nat.reduceEqDiff, Nat.reduceAdd, Nat.reduceMul, Nat.reduceSub, Nat.reduceLeDiff, Nat.reduceBEq, Nat.reduceDiv, Nat.reduceMod, Int.reduceToNat, Int.reduceLT, Int.reduceLE, Int.reduceAdd, Int.reduceSub, Int.reduceMul, Int.reduceEq, Int.reduceNeg, reduceCtorEq, resV, resAll, ARes.ev, LV.flat, ite_true, ite_false, exists_eq_left', exists_eq_left, keyOf, implies_true, fillC, capOf]
  refine callK_of (h_l5Few) ?_
  simp (disch := omega) only [↓SXd, SXu, slBounds, ↓sop, ↓aop, ↓reduceIte, LV.cells, AOp.dst, LV.I, LV.B, LV.U, LV.S, LV.nil, Nat.reduceEqDiff, Nat.reduceAdd, Nat.reduceMul, Nat.reduceSub, Nat.reduceLeDiff, Nat.reduceBEq, Nat.reduceDiv, Nat.reduceMod, Int.reduceToNat, Int.reduceLT, Int.reduceLE, Int.reduceAdd, Int.reduceSub, Int.reduceMul, Int.reduceEq, Int.reduceNeg, reduceCtorEq, resV, resAll, ARes.ev, LV.flat, ite_true, ite_false, exists_eq_left', exists_eq_left, keyOf, implies_true, fillC, capOf]
  unfold allOf
  cases hf : fewB x y z with
  | false =>
    rw [if_neg (by simp)]
    simp (disch := omega) only [↓SXd, SXu, slBounds, ↓sop, ↓aop, ↓reduceIte, LV.cells, AOp.dst, LV.I, LV.B, LV.U, LV.S, LV.nil, Nat.reduceEqDiff, Nat.reduceAdd, Nat.reduceMul, Nat.reduceSub, Nat.reduceLeDiff, Nat.reduceBEq, Nat.reduceDiv, Nat.reduceMod, Int.reduceToNat, Int.reduceLT, Int.reduceLE, Int.reduceAdd, Int.reduceSub, Int.reduceMul, Int.reduceEq, Int.reduceNeg, reduceCtorEq, resV, resAll, ARes.ev, LV.flat, ite_true, ite_false, exists_eq_left', exists_eq_left, keyOf, implies_true, fillC, capOf]
    exact ⟨_, rfl, .inr ⟨M.length, [], rfl, Live.new, rfl, fun i hi => by simp at hi⟩, Pre.app _ _⟩
  | true =>
    rw [if_pos rfl]
    have hS := (few_iff.1 hf).1
    obtain ⟨e1, e2, e3, h1, h2, h3⟩ := sidesN hS
    have hall := h_l5All h1 h2 h3 (x.toNat * y.toNat) (l := []) (t := M.length) (M := M ++ [some (.row [] true 1)]) (by simp) (fun a ha => by simp at ha) (Live.new (b := .row (intL []) true 1)).has
    rw [e1, e2, e3, show allS y.toNat z (x.toNat * y.toNat) [] = stairsOf x y z from rfl] at hall
    simp (disch := omega) only [↓SXd, SXu, slBounds, ↓sop, ↓aop, ↓reduceIte, LV.cells, AOp.dst, LV.I, LV.B, LV.U, LV.S, LV.nil, Nat.reduceEqDiff, Nat.reduceAdd, Nat.reduceMul, Nat.reduceSub, Nat.reduceLeDiff, Nat.reduceBEq, Nat.reduceDiv, Nat.reduceMod, Int.reduceToNat, Int.reduceLT, Int.reduceLE, Int.reduceAdd, Int.reduceSub, Int.reduceMul, Int.reduceEq, Int.reduceNeg, reduceCtorEq, resV, resAll, ARes.ev, LV.flat, ite_true, ite_false, exists_eq_left', exists_eq_left, keyOf, implies_true, fillC, capOf]
    refine callR_of hall ?_
    rintro _ N ⟨u, rfl, hp, hu, hT⟩
    have hTb := hT [] (by simp) (by simp)
    simp (disch := omega) only [↓SXd, SXu, slBounds, ↓sop, ↓aop, ↓reduceIte, LV.cells, AOp.dst, LV.I, LV.B, LV.U, LV.S, LV.nil, Nat.reduceEqDiff, Nat.reduceAdd, Nat.reduceMul, Nat.reduceSub, Nat.reduceLeDiff, Nat.reduceBEq, Nat.reduceDiv, Nat.reduceMod, Int.reduceToNat, Int.reduceLT, Int.reduceLE, Int.reduceAdd, Int.reduceSub, Int.reduceMul, Int.reduceEq, Int.reduceNeg, reduceCtorEq, resV, resAll, ARes.ev, LV.flat, ite_true, ite_false, exists_eq_left', exists_eq_left, keyOf, implies_true, fillC, capOf]
    exact ⟨_, rfl, hTb.tabV, (Pre.app _ _).trans hp⟩

/-- What StairAt answers. -/
def AtB (x y z k : Int) : Prop := fewB x y z = true ∧ 0 ≤ k ∧ k ≤ ((stairsOf x y z).length : Nat) - 1
noncomputable def satOf (x y z k : Int) : Option Hp := by
  classical
  exact if AtB x y z k then some ⟨x, y, z, pick x y z (stackP y ((stairsOf x y z).getD k.toNat []))⟩ else none
theorem satOf_y {x y z k : Int} (h : AtB x y z k) : satOf x y z k = some ⟨x, y, z, pick x y z (stackP y ((stairsOf x y z).getD k.toNat []))⟩ := if_pos h
theorem satOf_n {x y z k : Int} (h : ¬ AtB x y z k) : satOf x y z k = none := if_neg h
theorem g_StairAt {x y z k : Int} {M : Mem} : CallsR PG F.impl_StairAt [.I x, .I y, .I z, .I k] M (HeapX M (satOf x y z k)) := by
  refine heapX_of ?_
  refine callsR_run K.impl_StairAt rfl ?_
  simp (disch := omega) only [C.impl_StairAt, splice, ↓SXd, SXu, slBounds, ↓sop, ↓aop, ↓reduceIte, LV.cells, AOp.dst, LV.I, LV.B, LV.U, LV.S, LV.nil, Nat.reduceEqDiff, Nat.reduceAdd, Nat.reduceMul, Nat.reduceSub, Nat.reduceLeDiff, Nat.reduceBEq, Nat.reduceDiv, Nat.reduceMod, Int.reduceToNat, Int.reduceLT, Int.reduceLE, Int.reduceAdd, Int.reduceSub, Int.reduceMul, Int.reduceEq, Int.reduceNeg, reduceCtorEq, resV, resAll, ARes.ev, LV.flat, ite_true, ite_false, exists_eq_left', exists_eq_left, keyOf, implies_true, fillC, capOf]
  refine callR_of g_stairs ?_
  rintro _ N ⟨hr, hp⟩
  have b8 : Live N M.length (.row [.I 0, .I 0, .I 0, .nil] true 0) := Live.new.pre hp
  have b10 : Live N (M.length + 1) (.row [.I x, .I y, .I z] true 0) := (Live.newj (j := 1) rfl).pre hp
  have hMN : Pre M N := (Pre.app _ _).trans hp
  have hlN := hp.1
  simp only [List.length_append, List.length_cons, List.length_nil] at hlN
  rcases hr with ⟨hf, u, rfl, hu, hT⟩ | ⟨hf, rfl⟩
  rotate_left
  · have hno : ¬ AtB x y z k := fun e => by have := e.1; rw [hf] at this; cases this
    simp (disch := omega) only [fillC, ↓SXd, SXu, slBounds, ↓sop, ↓aop, ↓reduceIte, LV.cells, AOp.dst, LV.I, LV.B, LV.U, LV.S, LV.nil, Nat.reduceEqDiff, Nat.reduceAdd, Nat.reduceMul, Nat.reduceSub, Nat.reduceLeDiff, Nat.reduceBEq, Nat.reduceDiv, Nat.reduceMod, Int.reduceToNat, Int.reduceLT, Int.reduceLE, Int.reduceAdd, Int.reduceSub, Int.reduceMul, Int.reduceEq, Int.reduceNeg, reduceCtorEq, resV, resAll, ARes.ev, LV.flat, ite_true, ite_false, exists_eq_left', exists_eq_left, keyOf, implies_true, fillC, capOf]
    refine memK_box b8 (by simp) fun N2 i1 i2 i3 => ?_
    simp (disch := omega) only [i2.cells, ↓SXd, SXu, slBounds, ↓sop, ↓aop, ↓reduceIte, LV.cells, AOp.dst, LV.I, LV.B, LV.U, LV.S, LV.nil, Nat.reduceEqDiff, Nat.reduceAdd, Nat.reduceMul, Nat.reduceSub, Nat.reduceLeDiff, Nat.reduceBEq, Nat.reduceDiv, Nat.reduceMod, Int.reduceToNat, Int.reduceLT, Int.reduceLE, Int.reduceAdd, Int.reduceSub, Int.reduceMul, Int.reduceEq, Int.reduceNeg, reduceCtorEq, resV, resAll, ARes.ev, LV.flat, ite_true, ite_false, exists_eq_left', exists_eq_left, keyOf, implies_true, fillC, capOf]
    exact heapX_no (satOf_n hno) rfl (pre_step hMN (by omega) (j := 0) i1 i3)
  have hS := (few_iff.1 hf).1
  have hsl := stairs_len hS
  have hst := fun (l : List Int) (hl : l ∈ stairsOf x y z) => stairs_stair hS hl
  simp (disch := omega) only [↓SXd, SXu, slBounds, ↓sop, ↓aop, ↓reduceIte, LV.cells, AOp.dst, LV.I, LV.B, LV.U, LV.S, LV.nil, Nat.reduceEqDiff, Nat.reduceAdd, Nat.reduceMul, Nat.reduceSub, Nat.reduceLeDiff, Nat.reduceBEq, Nat.reduceDiv, Nat.reduceMod, Int.reduceToNat, Int.reduceLT, Int.reduceLE, Int.reduceAdd, Int.reduceSub, Int.reduceMul, Int.reduceEq, Int.reduceNeg, reduceCtorEq, resV, resAll, ARes.ev, LV.flat, ite_true, ite_false, exists_eq_left', exists_eq_left, keyOf, implies_true, fillC, capOf]
  refine callK_of (g_within) ?_
  simp (disch := omega) only [↓SXd, SXu, slBounds, ↓sop, ↓aop, ↓reduceIte, LV.cells, AOp.dst, LV.I, LV.B, LV.U, LV.S, LV.nil, Nat.reduceEqDiff, Nat.reduceAdd, Nat.reduceMul, Nat.reduceSub, Nat.reduceLeDiff, Nat.reduceBEq, Nat.reduceDiv, Nat.reduceMod, Int.reduceToNat, Int.reduceLT, Int.reduceLE, Int.reduceAdd, Int.reduceSub, Int.reduceMul, Int.reduceEq, Int.reduceNeg, reduceCtorEq, resV, resAll, ARes.ev, LV.flat, ite_true, ite_false, exists_eq_left', exists_eq_left, keyOf, implies_true, fillC, capOf]
  by_cases hk : 0 ≤ k ∧ k ≤ ((stairsOf x y z).length : Nat) - 1
  rotate_left
  · have hno : ¬ AtB x y z k := fun e => hk e.2
    rw [decide_eq_false hk]
    simp (disch := omega) only [fillC, ↓SXd, SXu, slBounds, ↓sop, ↓aop, ↓reduceIte, LV.cells, AOp.dst, LV.I, LV.B, LV.U, LV.S, LV.nil, Nat.reduceEqDiff, Nat.reduceAdd, Nat.reduceMul, Nat.reduceSub, Nat.reduceLeDiff, Nat.reduceBEq, Nat.reduceDiv, Nat.reduceMod, Int.reduceToNat, Int.reduceLT, Int.reduceLE, Int.reduceAdd, Int.reduceSub, Int.reduceMul, Int.reduceEq, Int.reduceNeg, reduceCtorEq, resV, resAll, ARes.ev, LV.flat, ite_true, ite_false, exists_eq_left', exists_eq_left, keyOf, implies_true, fillC, capOf]
    refine memK_box b8 (by simp) fun N2 i1 i2 i3 => ?_
    simp (disch := omega) only [i2.cells, ↓SXd, SXu, slBounds, ↓sop, ↓aop, ↓reduceIte, LV.cells, AOp.dst, LV.I, LV.B, LV.U, LV.S, LV.nil, Nat.reduceEqDiff, Nat.reduceAdd, Nat.reduceMul, Nat.reduceSub, Nat.reduceLeDiff, Nat.reduceBEq, Nat.reduceDiv, Nat.reduceMod, Int.reduceToNat, Int.reduceLT, Int.reduceLE, Int.reduceAdd, Int.reduceSub, Int.reduceMul, Int.reduceEq, Int.reduceNeg, reduceCtorEq, resV, resAll, ARes.ev, LV.flat, ite_true, ite_false, exists_eq_left', exists_eq_left, keyOf, implies_true, fillC, capOf]
    exact heapX_no (satOf_n hno) rfl (pre_step hMN (by omega) (j := 0) i1 i3)
  have hyes : AtB x y z k := ⟨hf, hk⟩
  have hat := satOf_y hyes
  rw [decide_eq_true hk]
  have hkl : k.toNat < (stairsOf x y z).length := by omega
  obtain ⟨w, hg, hI⟩ := hT.at hkl
  have hki : k < ((stairsOf x y z).length : Nat) := by omega
  obtain ⟨hok, _⟩ := hst _ (getD_mem' (d := []) hkl)
  generalize stairsOf x y z = L at *
  generalize L.getD k.toNat [] = hs at *
  simp (disch := omega) only [b10.cells, hg, hk, hki, ↓SXd, SXu, slBounds, ↓sop, ↓aop, ↓reduceIte, LV.cells, AOp.dst, LV.I, LV.B, LV.U, LV.S, LV.nil, Nat.reduceEqDiff, Nat.reduceAdd, Nat.reduceMul, Nat.reduceSub, Nat.reduceLeDiff, Nat.reduceBEq, Nat.reduceDiv, Nat.reduceMod, Int.reduceToNat, Int.reduceLT, Int.reduceLE, Int.reduceAdd, Int.reduceSub, Int.reduceMul, Int.reduceEq, Int.reduceNeg, reduceCtorEq, resV, resAll, ARes.ev, LV.flat, ite_true, ite_false, exists_eq_left', exists_eq_left, keyOf, implies_true, fillC, capOf]
  refine callK_of (g_stack hS hI hok.2.1) ?_
  simp (disch := omega) only [↓SXd, SXu, slBounds, ↓sop, ↓aop, ↓reduceIte, LV.cells, AOp.dst, LV.I, LV.B, LV.U, LV.S, LV.nil, Nat.reduceEqDiff, Nat.reduceAdd, Nat.reduceMul, Nat.reduceSub, Nat.reduceLeDiff, Nat.reduceBEq, Nat.reduceDiv, Nat.reduceMod, Int.reduceToNat, Int.reduceLT, Int.reduceLE, Int.reduceAdd, Int.reduceSub, Int.reduceMul, Int.reduceEq, Int.reduceNeg, reduceCtorEq, resV, resAll, ARes.ev, LV.flat, ite_true, ite_false, exists_eq_left', exists_eq_left, keyOf, implies_true, fillC, capOf]
  refine callH_of (g_heap hS) ?_
  intro tn N2 htn hp2 hnr
  simp (disch := omega) only [↓SXd, SXu, slBounds, ↓sop, ↓aop, ↓reduceIte, LV.cells, AOp.dst, LV.I, LV.B, LV.U, LV.S, LV.nil, Nat.reduceEqDiff, Nat.reduceAdd, Nat.reduceMul, Nat.reduceSub, Nat.reduceLeDiff, Nat.reduceBEq, Nat.reduceDiv, Nat.reduceMod, Int.reduceToNat, Int.reduceLT, Int.reduceLE, Int.reduceAdd, Int.reduceSub, Int.reduceMul, Int.reduceEq, Int.reduceNeg, reduceCtorEq, resV, resAll, ARes.ev, LV.flat, ite_true, ite_false, exists_eq_left', exists_eq_left, keyOf, implies_true, fillC, capOf]
  have hl2 := hp2.1
  refine memK_box (b8.pre hp2) (by simp) fun N3 k1 k2 k3 => ?_
  simp (disch := omega) only [k2.cells, ↓SXd, SXu, slBounds, ↓sop, ↓aop, ↓reduceIte, LV.cells, AOp.dst, LV.I, LV.B, LV.U, LV.S, LV.nil, Nat.reduceEqDiff, Nat.reduceAdd, Nat.reduceMul, Nat.reduceSub, Nat.reduceLeDiff, Nat.reduceBEq, Nat.reduceDiv, Nat.reduceMod, Int.reduceToNat, Int.reduceLT, Int.reduceLE, Int.reduceAdd, Int.reduceSub, Int.reduceMul, Int.reduceEq, Int.reduceNeg, reduceCtorEq, resV, resAll, ARes.ev, LV.flat, ite_true, ite_false, exists_eq_left', exists_eq_left, keyOf, implies_true, fillC, capOf]
  exact heapX_yes hat ⟨tn, rfl, live_step hnr (by omega) k3, by omega⟩ (pre_step (hMN.trans hp2) (by omega) (j := 0) k1 k3)
theorem h_sStairAt {x y z k : Int} {M : Mem} : CallsR PG F.spec_StairAt [.I x, .I y, .I z, .I k] M (HeapX M (satOf x y z k)) := by
  refine heapX_of ?_
  refine callsR_run K.spec_StairAt rfl ?_
  simp (disch := omega) only [C.spec_StairAt, ↓SXd, SXu, slBounds, ↓sop, ↓aop, ↓reduceIte, LV.cells, AOp.dst, LV.I, LV.B, LV.U, LV.S, LV.nil, Nat.reduceEqDiff, Nat.reduceAdd, Nat.reduceMul, Nat.reduceSub, Nat.reduceLeDiff, Nat.reduceBEq, Nat.reduceDiv, Nat.reduceMod, Int.reduceToNat, Int.reduceLT, Int.reduceLE, Int.reduceAdd, Int.reduceSub, Int.reduceMul, Int.reduceEq, Int.reduceNeg, reduceCtorEq, resV, resAll, ARes.ev, LV.flat, ite_true, ite_false, exists_eq_left', exists_eq_left, keyOf, implies_true, fillC, capOf]
  refine callK_of (h_l5Few) ?_
  simp (disch := omega) only [↓SXd, SXu, slBounds, ↓sop, ↓aop, ↓reduceIte, LV.cells, AOp.dst, LV.I, LV.B, LV.U, LV.S, LV.nil, Nat.reduceEqDiff, Nat.reduceAdd, Nat.reduceMul, Nat.reduceSub, Nat.reduceLeDiff, Nat.reduceBEq, Nat.reduceDiv, Nat.reduceMod, Int.reduceToNat, Int.reduceLT, Int.reduceLE, Int.reduceAdd, Int.reduceSub, Int.reduceMul, Int.reduceEq, Int.reduceNeg, reduceCtorEq, resV, resAll, ARes.ev, LV.flat, ite_true, ite_false, exists_eq_left', exists_eq_left, keyOf, implies_true, fillC, capOf]
  cases hf : fewB x y z with
  | false =>
    have hno : ¬ AtB x y z k := fun e => by have := e.1; rw [hf] at this; cases this
    simp (disch := omega) only [fillC, splice, ↓SXd, SXu, slBounds, ↓sop, ↓aop, ↓reduceIte, LV.cells, AOp.dst, LV.I, LV.B, LV.U, LV.S, LV.nil, Nat.reduceEqDiff, Nat.reduceAdd, Nat.reduceMul, Nat.reduceSub, Nat.reduceLeDiff, Nat.reduceBEq, Nat.reduceDiv, Nat.reduceMod, Int.reduceToNat, Int.reduceLT, Int.reduceLE, Int.reduceAdd, Int.reduceSub, Int.reduceMul, Int.reduceEq, Int.reduceNeg, reduceCtorEq, resV, resAll, ARes.ev, LV.flat, ite_true, ite_false, exists_eq_left', exists_eq_left, keyOf, implies_true, fillC, capOf]
    exact heapX_no (satOf_n hno) rfl (Pre.app _ _)
  | true =>
    have hS := (few_iff.1 hf).1
    obtain ⟨e1, e2, e3, h1, h2, h3⟩ := sidesN hS
    have hsl := stairs_len hS
    have hfl := fews_len hf
    have hst := fun (l : List Int) (hl : l ∈ stairsOf x y z) => stairs_stair hS hl
    have hcs := (few_iff.1 hf).2
    simp (disch := omega) only [↓SXd, SXu, slBounds, ↓sop, ↓aop, ↓reduceIte, LV.cells, AOp.dst, LV.I, LV.B, LV.U, LV.S, LV.nil, Nat.reduceEqDiff, Nat.reduceAdd, Nat.reduceMul, Nat.reduceSub, Nat.reduceLeDiff, Nat.reduceBEq, Nat.reduceDiv, Nat.reduceMod, Int.reduceToNat, Int.reduceLT, Int.reduceLE, Int.reduceAdd, Int.reduceSub, Int.reduceMul, Int.reduceEq, Int.reduceNeg, reduceCtorEq, resV, resAll, ARes.ev, LV.flat, ite_true, ite_false, exists_eq_left', exists_eq_left, keyOf, implies_true, fillC, capOf]
    refine callK_of (h_count hS) ?_
    simp (disch := omega) only [↓SXd, SXu, slBounds, ↓sop, ↓aop, ↓reduceIte, LV.cells, AOp.dst, LV.I, LV.B, LV.U, LV.S, LV.nil, Nat.reduceEqDiff, Nat.reduceAdd, Nat.reduceMul, Nat.reduceSub, Nat.reduceLeDiff, Nat.reduceBEq, Nat.reduceDiv, Nat.reduceMod, Int.reduceToNat, Int.reduceLT, Int.reduceLE, Int.reduceAdd, Int.reduceSub, Int.reduceMul, Int.reduceEq, Int.reduceNeg, reduceCtorEq, resV, resAll, ARes.ev, LV.flat, ite_true, ite_false, exists_eq_left', exists_eq_left, keyOf, implies_true, fillC, capOf]
    rw [← hfl] at hcs ⊢
    refine callK_of (h_l1In) ?_
    simp (disch := omega) only [↓SXd, SXu, slBounds, ↓sop, ↓aop, ↓reduceIte, LV.cells, AOp.dst, LV.I, LV.B, LV.U, LV.S, LV.nil, Nat.reduceEqDiff, Nat.reduceAdd, Nat.reduceMul, Nat.reduceSub, Nat.reduceLeDiff, Nat.reduceBEq, Nat.reduceDiv, Nat.reduceMod, Int.reduceToNat, Int.reduceLT, Int.reduceLE, Int.reduceAdd, Int.reduceSub, Int.reduceMul, Int.reduceEq, Int.reduceNeg, reduceCtorEq, resV, resAll, ARes.ev, LV.flat, ite_true, ite_false, exists_eq_left', exists_eq_left, keyOf, implies_true, fillC, capOf]
    by_cases hk : 0 ≤ k ∧ k ≤ ((stairsOf x y z).length : Nat) - 1
    rotate_left
    · have hno : ¬ AtB x y z k := fun e => hk e.2
      rw [decide_eq_false hk]
      simp (disch := omega) only [fillC, splice, ↓SXd, SXu, slBounds, ↓sop, ↓aop, ↓reduceIte, LV.cells, AOp.dst, LV.I, LV.B, LV.U, LV.S, LV.nil, Nat.reduceEqDiff, Nat.reduceAdd, Nat.reduceMul, Nat.reduceSub, Nat.reduceLeDiff, Nat.reduceBEq, Nat.reduceDiv, Nat.reduceMod, Int.reduceToNat, Int.reduceLT, Int.reduceLE, Int.reduceAdd, Int.reduceSub, Int.reduceMul, Int.reduceEq, Int.reduceNeg, reduceCtorEq, resV, resAll, ARes.ev, LV.flat, ite_true, ite_false, exists_eq_left', exists_eq_left, keyOf, implies_true, fillC, capOf]
      exact heapX_no (satOf_n hno) rfl (Pre.app _ _)
    have hyes : AtB x y z k := ⟨hf, hk⟩
    have hat := satOf_y hyes
    rw [decide_eq_true hk]
    have hall := h_l5All h1 h2 h3 (x.toNat * y.toNat) (l := []) (t := M.length + 1) (M := M ++ [some (.row [.I 0, .I 0, .I 0, .nil] true 0), some (.row [] true 1)]) (by simp) (fun a ha => by simp at ha) (Live.newj (b := .row (intL []) true 1) (j := 1) rfl).has
    rw [e1, e2, e3, show allS y.toNat z (x.toNat * y.toNat) [] = stairsOf x y z from rfl] at hall
    simp (disch := omega) only [↓SXd, SXu, slBounds, ↓sop, ↓aop, ↓reduceIte, LV.cells, AOp.dst, LV.I, LV.B, LV.U, LV.S, LV.nil, Nat.reduceEqDiff, Nat.reduceAdd, Nat.reduceMul, Nat.reduceSub, Nat.reduceLeDiff, Nat.reduceBEq, Nat.reduceDiv, Nat.reduceMod, Int.reduceToNat, Int.reduceLT, Int.reduceLE, Int.reduceAdd, Int.reduceSub, Int.reduceMul, Int.reduceEq, Int.reduceNeg, reduceCtorEq, resV, resAll, ARes.ev, LV.flat, ite_true, ite_false, exists_eq_left', exists_eq_left, keyOf, implies_true, fillC, capOf]
    refine callR_of hall ?_
    rintro _ N ⟨u, rfl, hp, hu, hT⟩
    have hTb := hT [] (by simp) (by simp)
    have b8 : Live N M.length (.row [.I 0, .I 0, .I 0, .nil] true 0) := Live.new.pre hp
    have hMN : Pre M N := (Pre.app _ _).trans hp
    have hkl : k.toNat < (stairsOf x y z).length := by omega
    obtain ⟨w, hg, hI⟩ := hTb.at hkl
    have hki : k < ((stairsOf x y z).length : Nat) := by omega
    obtain ⟨hok, _⟩ := hst _ (getD_mem' (d := []) hkl)
    generalize stairsOf x y z = L at *
    generalize L.getD k.toNat [] = hs at *
    simp (disch := omega) only [hg, hk, hki, ↓SXd, SXu, slBounds, ↓sop, ↓aop, ↓reduceIte, LV.cells, AOp.dst, LV.I, LV.B, LV.U, LV.S, LV.nil, Nat.reduceEqDiff, Nat.reduceAdd, Nat.reduceMul, Nat.reduceSub, Nat.reduceLeDiff, Nat.reduceBEq, Nat.reduceDiv, Nat.reduceMod, Int.reduceToNat, Int.reduceLT, Int.reduceLE, Int.reduceAdd, Int.reduceSub, Int.reduceMul, Int.reduceEq, Int.reduceNeg, reduceCtorEq, resV, resAll, ARes.ev, LV.flat, ite_true, ite_false, exists_eq_left', exists_eq_left, keyOf, implies_true, fillC, capOf]
    refine callR_of (h_l2Stack hS hI hok.2.1) ?_
    rintro _ N2 ⟨tn, rfl, hnr, htn, hp2⟩
    have hl2 := hp2.1
    have hb8 := b8.lt
    simp (disch := omega) only [↓SXd, SXu, slBounds, ↓sop, ↓aop, ↓reduceIte, LV.cells, AOp.dst, LV.I, LV.B, LV.U, LV.S, LV.nil, Nat.reduceEqDiff, Nat.reduceAdd, Nat.reduceMul, Nat.reduceSub, Nat.reduceLeDiff, Nat.reduceBEq, Nat.reduceDiv, Nat.reduceMod, Int.reduceToNat, Int.reduceLT, Int.reduceLE, Int.reduceAdd, Int.reduceSub, Int.reduceMul, Int.reduceEq, Int.reduceNeg, reduceCtorEq, resV, resAll, ARes.ev, LV.flat, ite_true, ite_false, exists_eq_left', exists_eq_left, keyOf, implies_true, fillC, capOf]
    refine memK_box (b8.pre hp2) (by simp) fun N3 k1 k2 k3 => ?_
    simp (disch := omega) only [k2.cells, ↓SXd, SXu, slBounds, ↓sop, ↓aop, ↓reduceIte, LV.cells, AOp.dst, LV.I, LV.B, LV.U, LV.S, LV.nil, Nat.reduceEqDiff, Nat.reduceAdd, Nat.reduceMul, Nat.reduceSub, Nat.reduceLeDiff, Nat.reduceBEq, Nat.reduceDiv, Nat.reduceMod, Int.reduceToNat, Int.reduceLT, Int.reduceLE, Int.reduceAdd, Int.reduceSub, Int.reduceMul, Int.reduceEq, Int.reduceNeg, reduceCtorEq, resV, resAll, ARes.ev, LV.flat, ite_true, ite_false, exists_eq_left', exists_eq_left, keyOf, implies_true, fillC, capOf]
    exact heapX_yes hat ⟨tn, rfl, live_step hnr (by omega) k3, by have := hMN.1; omega⟩ (pre_step (hMN.trans hp2) (by omega) (j := 0) k1 k3)

theorem k_vTable {L : List (List Int)} {v v' : LV} {M : Mem} (h : TabV M v L) (h' : TabV M v' L) (hn : L.length ≤ 1000000000000) (hr : ∀ l ∈ L, l.length ≤ 1000) : CallsTo PG F.laws_vTable [v, v'] M (.B true) M := by
  have hv := h.lenV
  have hv' := h'.lenV
  refine calls_run K.laws_vTable rfl ?_
  simp (disch := omega) only [C.laws_vTable, hv, hv', ↓SXd, SXu, slBounds, ↓sop, ↓aop, ↓reduceIte, LV.cells, AOp.dst, LV.I, LV.B, LV.U, LV.S, LV.nil, Nat.reduceEqDiff, Nat.reduceAdd, Nat.reduceMul, Nat.reduceSub, Nat.reduceLeDiff, Nat.reduceBEq, Nat.reduceDiv, Nat.reduceMod, Int.reduceToNat, Int.reduceLT, Int.reduceLE, Int.reduceAdd, Int.reduceSub, Int.reduceMul, Int.reduceEq, Int.reduceNeg, reduceCtorEq, resV, resAll, ARes.ev, LV.flat, ite_true, ite_false, exists_eq_left', exists_eq_left, keyOf, implies_true, fillC, capOf]
  refine ev_loop (fun m fr M' => ∃ k : Nat, k + m = L.length ∧ M' = M ∧ fr 0 = v ∧ fr 1 = v' ∧ fr 5 = .I k) L.length ⟨0, by omega, rfl, rfl, rfl, rfl⟩ ?_
  rintro m fr M' ⟨k, hk, rfl, f0, f1, f5⟩
  simp (disch := omega) only [f0, f1, f5, hv, ↓SXd, SXu, slBounds, ↓sop, ↓aop, ↓reduceIte, LV.cells, AOp.dst, LV.I, LV.B, LV.U, LV.S, LV.nil, Nat.reduceEqDiff, Nat.reduceAdd, Nat.reduceMul, Nat.reduceSub, Nat.reduceLeDiff, Nat.reduceBEq, Nat.reduceDiv, Nat.reduceMod, Int.reduceToNat, Int.reduceLT, Int.reduceLE, Int.reduceAdd, Int.reduceSub, Int.reduceMul, Int.reduceEq, Int.reduceNeg, reduceCtorEq, resV, resAll, ARes.ev, LV.flat, ite_true, ite_false, exists_eq_left', exists_eq_left, keyOf, implies_true, fillC, capOf]
  refine condC_dec (fun hlt => ?_) (fun hlt => ?_)
  · have hkl : k < L.length := by omega
    obtain ⟨t, u, rfl, hg, hi⟩ := h.at hkl
    obtain ⟨t', u', rfl, hg', hi'⟩ := h'.at hkl
    have hll := hr _ (getD_mem' (d := []) hkl)
    simp (disch := omega) only [f0, f1, f5, hg, hg', Nat.mul_one, Nat.zero_add, ↓SXd, SXu, slBounds, ↓sop, ↓aop, ↓reduceIte, LV.cells, AOp.dst, LV.I, LV.B, LV.U, LV.S, LV.nil, Nat.reduceEqDiff, Nat.reduceAdd, Nat.reduceMul, Nat.reduceSub, Nat.reduceLeDiff, Nat.reduceBEq, Nat.reduceDiv, Nat.reduceMod, Int.reduceToNat, Int.reduceLT, Int.reduceLE, Int.reduceAdd, Int.reduceSub, Int.reduceMul, Int.reduceEq, Int.reduceNeg, reduceCtorEq, resV, resAll, ARes.ev, LV.flat, ite_true, ite_false, exists_eq_left', exists_eq_left, keyOf, implies_true, fillC, capOf]
    refine callK_of (k_vInts (.inr ⟨_, _, rfl, hi⟩) (.inr ⟨_, _, rfl, hi'⟩) (by omega)) ?_
    simp (disch := omega) only [f0, f1, f5, Bool.not_true, ↓SXd, SXu, slBounds, ↓sop, ↓aop, ↓reduceIte, LV.cells, AOp.dst, LV.I, LV.B, LV.U, LV.S, LV.nil, Nat.reduceEqDiff, Nat.reduceAdd, Nat.reduceMul, Nat.reduceSub, Nat.reduceLeDiff, Nat.reduceBEq, Nat.reduceDiv, Nat.reduceMod, Int.reduceToNat, Int.reduceLT, Int.reduceLE, Int.reduceAdd, Int.reduceSub, Int.reduceMul, Int.reduceEq, Int.reduceNeg, reduceCtorEq, resV, resAll, ARes.ev, LV.flat, ite_true, ite_false, exists_eq_left', exists_eq_left, keyOf, implies_true, fillC, capOf]
    exact ⟨m - 1, by omega, k + 1, by omega, rfl, f0, f1, eqI (natI _)⟩
  · simp (disch := omega) only [f0, f1, f5, ↓SXd, SXu, slBounds, ↓sop, ↓aop, ↓reduceIte, LV.cells, AOp.dst, LV.I, LV.B, LV.U, LV.S, LV.nil, Nat.reduceEqDiff, Nat.reduceAdd, Nat.reduceMul, Nat.reduceSub, Nat.reduceLeDiff, Nat.reduceBEq, Nat.reduceDiv, Nat.reduceMod, Int.reduceToNat, Int.reduceLT, Int.reduceLE, Int.reduceAdd, Int.reduceSub, Int.reduceMul, Int.reduceEq, Int.reduceNeg, reduceCtorEq, resV, resAll, ARes.ev, LV.flat, ite_true, ite_false, exists_eq_left', exists_eq_left, keyOf, implies_true, fillC, capOf]
    exact cmp_drop0 rfl
theorem k_vLess {a b : List Int} {t t' : Nat} {M : Mem} (h : Ints M t 0 a) (h' : Ints M t' 0 b) (hl : LessI a b) (hn : a.length ≤ 1000000) : CallsTo PG F.laws_vLess [.ref t 0 a.length, .ref t' 0 b.length] M (.B true) M := by
  obtain ⟨k, k1, k2, k3, k4⟩ := hl
  refine calls_run K.laws_vLess rfl ?_
  simp (disch := omega) only [C.laws_vLess, ↓SXd, SXu, slBounds, ↓sop, ↓aop, ↓reduceIte, LV.cells, AOp.dst, LV.I, LV.B, LV.U, LV.S, LV.nil, Nat.reduceEqDiff, Nat.reduceAdd, Nat.reduceMul, Nat.reduceSub, Nat.reduceLeDiff, Nat.reduceBEq, Nat.reduceDiv, Nat.reduceMod, Int.reduceToNat, Int.reduceLT, Int.reduceLE, Int.reduceAdd, Int.reduceSub, Int.reduceMul, Int.reduceEq, Int.reduceNeg, reduceCtorEq, resV, resAll, ARes.ev, LV.flat, ite_true, ite_false, exists_eq_left', exists_eq_left, keyOf, implies_true, fillC, capOf]
  refine ev_loop (fun m fr M' => ∃ i : Nat, i + m = k ∧ M' = M ∧ fr 0 = .ref t 0 a.length ∧ fr 1 = .ref t' 0 b.length ∧ fr 5 = .I i) k ⟨0, by omega, rfl, rfl, rfl, rfl⟩ ?_
  rintro m fr M' ⟨i, hi, rfl, f0, f1, f5⟩
  have ga := Ints.get h (k := i) (by omega)
  have gb := Ints.get h' (k := i) (by omega)
  rw [Nat.zero_add] at ga gb
  have h1 : (i : Int) < (a.length : Nat) := by omega
  have h2 : (i : Int) < (b.length : Nat) := by omega
  simp (disch := omega) only [f0, f1, f5, h1, h2, ga, gb, ↓SXd, SXu, slBounds, ↓sop, ↓aop, ↓reduceIte, LV.cells, AOp.dst, LV.I, LV.B, LV.U, LV.S, LV.nil, Nat.reduceEqDiff, Nat.reduceAdd, Nat.reduceMul, Nat.reduceSub, Nat.reduceLeDiff, Nat.reduceBEq, Nat.reduceDiv, Nat.reduceMod, Int.reduceToNat, Int.reduceLT, Int.reduceLE, Int.reduceAdd, Int.reduceSub, Int.reduceMul, Int.reduceEq, Int.reduceNeg, reduceCtorEq, resV, resAll, ARes.ev, LV.flat, ite_true, ite_false, exists_eq_left', exists_eq_left, keyOf, implies_true, fillC, capOf]
  by_cases hik : i = k
  · have hne : ¬ a.getD i 0 = b.getD i 0 := by rw [hik]; omega
    have hlt : a.getD i 0 < b.getD i 0 := by rw [hik]; exact k3
    simp (disch := omega) only [f0, f1, f5, hne, ga, gb, hlt, ↓SXd, SXu, slBounds, ↓sop, ↓aop, ↓reduceIte, LV.cells, AOp.dst, LV.I, LV.B, LV.U, LV.S, LV.nil, Nat.reduceEqDiff, Nat.reduceAdd, Nat.reduceMul, Nat.reduceSub, Nat.reduceLeDiff, Nat.reduceBEq, Nat.reduceDiv, Nat.reduceMod, Int.reduceToNat, Int.reduceLT, Int.reduceLE, Int.reduceAdd, Int.reduceSub, Int.reduceMul, Int.reduceEq, Int.reduceNeg, reduceCtorEq, resV, resAll, ARes.ev, LV.flat, ite_true, ite_false, exists_eq_left', exists_eq_left, keyOf, implies_true, fillC, capOf]
    exact cmp_drop0 rfl
  · have he := k4 i (by omega)
    simp (disch := omega) only [f0, f1, f5, he, ↓SXd, SXu, slBounds, ↓sop, ↓aop, ↓reduceIte, LV.cells, AOp.dst, LV.I, LV.B, LV.U, LV.S, LV.nil, Nat.reduceEqDiff, Nat.reduceAdd, Nat.reduceMul, Nat.reduceSub, Nat.reduceLeDiff, Nat.reduceBEq, Nat.reduceDiv, Nat.reduceMod, Int.reduceToNat, Int.reduceLT, Int.reduceLE, Int.reduceAdd, Int.reduceSub, Int.reduceMul, Int.reduceEq, Int.reduceNeg, reduceCtorEq, resV, resAll, ARes.ev, LV.flat, ite_true, ite_false, exists_eq_left', exists_eq_left, keyOf, implies_true, fillC, capOf]
    exact ⟨m - 1, by omega, i + 1, by omega, rfl, f0, f1, eqI (natI _)⟩
noncomputable def cntV (x y z : Int) : Nat := if Sides x y z then cntSP x.toNat y.toNat z.toNat else 0
theorem g_CountStairs {x y z : Int} {M : Mem} : CallsTo PG F.impl_CountStairs [.I x, .I y, .I z] M (.tup [.I (cntV x y z : Nat), .B (decide (Sides x y z))]) M := by
  refine calls_run K.impl_CountStairs rfl ?_
  simp (disch := omega) only [C.impl_CountStairs, splice, ↓SXd, SXu, slBounds, ↓sop, ↓aop, ↓reduceIte, LV.cells, AOp.dst, LV.I, LV.B, LV.U, LV.S, LV.nil, Nat.reduceEqDiff, Nat.reduceAdd, Nat.reduceMul, Nat.reduceSub, Nat.reduceLeDiff, Nat.reduceBEq, Nat.reduceDiv, Nat.reduceMod, Int.reduceToNat, Int.reduceLT, Int.reduceLE, Int.reduceAdd, Int.reduceSub, Int.reduceMul, Int.reduceEq, Int.reduceNeg, reduceCtorEq, resV, resAll, ARes.ev, LV.flat, ite_true, ite_false, exists_eq_left', exists_eq_left, keyOf, implies_true, fillC, capOf]
  refine callK_of (g_valid) ?_
  simp (disch := omega) only [↓SXd, SXu, slBounds, ↓sop, ↓aop, ↓reduceIte, LV.cells, AOp.dst, LV.I, LV.B, LV.U, LV.S, LV.nil, Nat.reduceEqDiff, Nat.reduceAdd, Nat.reduceMul, Nat.reduceSub, Nat.reduceLeDiff, Nat.reduceBEq, Nat.reduceDiv, Nat.reduceMod, Int.reduceToNat, Int.reduceLT, Int.reduceLE, Int.reduceAdd, Int.reduceSub, Int.reduceMul, Int.reduceEq, Int.reduceNeg, reduceCtorEq, resV, resAll, ARes.ev, LV.flat, ite_true, ite_false, exists_eq_left', exists_eq_left, keyOf, implies_true, fillC, capOf]
  unfold cntV
  by_cases hS : Sides x y z
  · rw [decide_eq_true hS, if_pos hS]
    simp (disch := omega) only [↓SXd, SXu, slBounds, ↓sop, ↓aop, ↓reduceIte, LV.cells, AOp.dst, LV.I, LV.B, LV.U, LV.S, LV.nil, Nat.reduceEqDiff, Nat.reduceAdd, Nat.reduceMul, Nat.reduceSub, Nat.reduceLeDiff, Nat.reduceBEq, Nat.reduceDiv, Nat.reduceMod, Int.reduceToNat, Int.reduceLT, Int.reduceLE, Int.reduceAdd, Int.reduceSub, Int.reduceMul, Int.reduceEq, Int.reduceNeg, reduceCtorEq, resV, resAll, ARes.ev, LV.flat, ite_true, ite_false, exists_eq_left', exists_eq_left, keyOf, implies_true, fillC, capOf]
    refine callK_of (g_count' hS) ?_
    simp (disch := omega) only [↓SXd, SXu, slBounds, ↓sop, ↓aop, ↓reduceIte, LV.cells, AOp.dst, LV.I, LV.B, LV.U, LV.S, LV.nil, Nat.reduceEqDiff, Nat.reduceAdd, Nat.reduceMul, Nat.reduceSub, Nat.reduceLeDiff, Nat.reduceBEq, Nat.reduceDiv, Nat.reduceMod, Int.reduceToNat, Int.reduceLT, Int.reduceLE, Int.reduceAdd, Int.reduceSub, Int.reduceMul, Int.reduceEq, Int.reduceNeg, reduceCtorEq, resV, resAll, ARes.ev, LV.flat, ite_true, ite_false, exists_eq_left', exists_eq_left, keyOf, implies_true, fillC, capOf]
    exact cmp_drop rfl
  · rw [decide_eq_false hS, if_neg hS]
    simp (disch := omega) only [↓SXd, SXu, slBounds, ↓sop, ↓aop, ↓reduceIte, LV.cells, AOp.dst, LV.I, LV.B, LV.U, LV.S, LV.nil, Nat.reduceEqDiff, Nat.reduceAdd, Nat.reduceMul, Nat.reduceSub, Nat.reduceLeDiff, Nat.reduceBEq, Nat.reduceDiv, Nat.reduceMod, Int.reduceToNat, Int.reduceLT, Int.reduceLE, Int.reduceAdd, Int.reduceSub, Int.reduceMul, Int.reduceEq, Int.reduceNeg, reduceCtorEq, resV, resAll, ARes.ev, LV.flat, ite_true, ite_false, exists_eq_left', exists_eq_left, keyOf, implies_true, fillC, capOf]
    exact cmp_drop rfl
theorem h_sCountStairs {x y z : Int} {M : Mem} : CallsTo PG F.spec_CountStairs [.I x, .I y, .I z] M (.tup [.I (cntV x y z : Nat), .B (decide (Sides x y z))]) M := by
  refine calls_run K.spec_CountStairs rfl ?_
  simp (disch := omega) only [C.spec_CountStairs, ↓SXd, SXu, slBounds, ↓sop, ↓aop, ↓reduceIte, LV.cells, AOp.dst, LV.I, LV.B, LV.U, LV.S, LV.nil, Nat.reduceEqDiff, Nat.reduceAdd, Nat.reduceMul, Nat.reduceSub, Nat.reduceLeDiff, Nat.reduceBEq, Nat.reduceDiv, Nat.reduceMod, Int.reduceToNat, Int.reduceLT, Int.reduceLE, Int.reduceAdd, Int.reduceSub, Int.reduceMul, Int.reduceEq, Int.reduceNeg, reduceCtorEq, resV, resAll, ARes.ev, LV.flat, ite_true, ite_false, exists_eq_left', exists_eq_left, keyOf, implies_true, fillC, capOf]
  refine callK_of (h_l2Sides) ?_
  simp (disch := omega) only [↓SXd, SXu, slBounds, ↓sop, ↓aop, ↓reduceIte, LV.cells, AOp.dst, LV.I, LV.B, LV.U, LV.S, LV.nil, Nat.reduceEqDiff, Nat.reduceAdd, Nat.reduceMul, Nat.reduceSub, Nat.reduceLeDiff, Nat.reduceBEq, Nat.reduceDiv, Nat.reduceMod, Int.reduceToNat, Int.reduceLT, Int.reduceLE, Int.reduceAdd, Int.reduceSub, Int.reduceMul, Int.reduceEq, Int.reduceNeg, reduceCtorEq, resV, resAll, ARes.ev, LV.flat, ite_true, ite_false, exists_eq_left', exists_eq_left, keyOf, implies_true, fillC, capOf]
  unfold cntV
  by_cases hS : Sides x y z
  · rw [decide_eq_true hS, if_pos hS]
    simp (disch := omega) only [↓SXd, SXu, slBounds, ↓sop, ↓aop, ↓reduceIte, LV.cells, AOp.dst, LV.I, LV.B, LV.U, LV.S, LV.nil, Nat.reduceEqDiff, Nat.reduceAdd, Nat.reduceMul, Nat.reduceSub, Nat.reduceLeDiff, Nat.reduceBEq, Nat.reduceDiv, Nat.reduceMod, Int.reduceToNat, Int.reduceLT, Int.reduceLE, Int.reduceAdd, Int.reduceSub, Int.reduceMul, Int.reduceEq, Int.reduceNeg, reduceCtorEq, resV, resAll, ARes.ev, LV.flat, ite_true, ite_false, exists_eq_left', exists_eq_left, keyOf, implies_true, fillC, capOf]
    refine callK_of (h_count hS) ?_
    simp (disch := omega) only [↓SXd, SXu, slBounds, ↓sop, ↓aop, ↓reduceIte, LV.cells, AOp.dst, LV.I, LV.B, LV.U, LV.S, LV.nil, Nat.reduceEqDiff, Nat.reduceAdd, Nat.reduceMul, Nat.reduceSub, Nat.reduceLeDiff, Nat.reduceBEq, Nat.reduceDiv, Nat.reduceMod, Int.reduceToNat, Int.reduceLT, Int.reduceLE, Int.reduceAdd, Int.reduceSub, Int.reduceMul, Int.reduceEq, Int.reduceNeg, reduceCtorEq, resV, resAll, ARes.ev, LV.flat, ite_true, ite_false, exists_eq_left', exists_eq_left, keyOf, implies_true, fillC, capOf]
    exact cmp_drop0 rfl
  · rw [decide_eq_false hS, if_neg hS]
    simp (disch := omega) only [↓SXd, SXu, slBounds, ↓sop, ↓aop, ↓reduceIte, LV.cells, AOp.dst, LV.I, LV.B, LV.U, LV.S, LV.nil, Nat.reduceEqDiff, Nat.reduceAdd, Nat.reduceMul, Nat.reduceSub, Nat.reduceLeDiff, Nat.reduceBEq, Nat.reduceDiv, Nat.reduceMod, Int.reduceToNat, Int.reduceLT, Int.reduceLE, Int.reduceAdd, Int.reduceSub, Int.reduceMul, Int.reduceEq, Int.reduceNeg, reduceCtorEq, resV, resAll, ARes.ev, LV.flat, ite_true, ite_false, exists_eq_left', exists_eq_left, keyOf, implies_true, fillC, capOf]
    exact cmp_drop0 rfl
theorem sides_turn {x y z : Int} (h : Sides x y z) : Sides z x y := ⟨h.2.2, h.1, h.2.1⟩
theorem cnt_all (x y z : Int) : ∃ (A : List (List Int)) (n : Nat) (b c : Bool), allOf x y z = A ∧ fewB x y z = b ∧ cntV x y z = n ∧ decide (Sides x y z) = c ∧ A.length ≤ 1000000000000 ∧ (∀ l ∈ A, l.length ≤ 1000) ∧ (b = true → c = true ∧ A.length = n ∧ A.Pairwise LessI) ∧ (c = true → cntV z x y = n ∧ decide (Sides z x y) = true) := by
  refine ⟨_, _, _, _, rfl, rfl, rfl, rfl, ?_, ?_, fun hb => ?_, fun hc => ?_⟩
  · unfold allOf
    split
    · rename_i h; exact stairs_len (few_iff.1 h).1
    · simp
  · unfold allOf
    split
    · rename_i h
      intro l hl
      have := stairs_row (few_iff.1 h).1 hl
      omega
    · simp
  · have hS := (few_iff.1 hb).1
    refine ⟨decide_eq_true hS, ?_, ?_⟩
    · unfold allOf cntV
      rw [if_pos hb, if_pos hS]
      exact fews_len hb
    · unfold allOf
      rw [if_pos hb]
      exact allS_sorted
  · have hS := of_decide_eq_true hc
    refine ⟨?_, decide_eq_true (sides_turn hS)⟩
    unfold cntV
    rw [if_pos (sides_turn hS), if_pos hS]
    exact cnt_sym hS
theorem sat_facts (x y z k : Int) : ∃ (G : Hp) (b : Bool), (satOf x y z k).getD Hp.none = G ∧ (satOf x y z k).isSome = b ∧ G.cs.length ≤ 1000000 ∧ (b = true → rnkB G.x G.y G.z G.cs = true ∧ ((rnkV G.x G.y G.z G.cs : Nat) : Int) = k) := by
  by_cases h : AtB x y z k
  · obtain ⟨hf, h0, h1⟩ := id h
    have hS := (few_iff.1 hf).1
    have hkl : k.toNat < (stairsOf x y z).length := by omega
    obtain ⟨hok, hH, hst, hv⟩ := stairs_stair hS (getD_mem' (d := []) hkl)
    rw [satOf_y h]
    refine ⟨_, true, rfl, rfl, ?_, fun _ => ?_⟩
    · have := pick_len hS (stackP y ((stairsOf x y z).getD k.toNat []))
      show (pick x y z _).length ≤ _
      omega
    · have hb : rnkB x y z (pick x y z (stackP y ((stairsOf x y z).getD k.toNat []))) = true := by
        unfold rnkB
        rw [str_yes ⟨hH, hst⟩, hf]; rfl
      refine ⟨hb, ?_⟩
      show ((rnkV x y z (pick x y z (stackP y ((stairsOf x y z).getD k.toNat []))) : Nat) : Int) = k
      unfold rnkV
      have hix := sorted_idx (L := stairsOf x y z) allS_sorted hkl
      rw [if_pos hb, hv, hix]
      omega
  · rw [satOf_n h]
    exact ⟨_, false, rfl, rfl, by simp [Hp.none], fun e => Bool.noConfusion e⟩
theorem stair_of_pick {x y z : Int} (hS : Sides x y z) {p : Cell → Bool} (h : StairP x y z p) : StairP x y z fun d => decide (d ∈ pick x y z p) := (stairP_congr fun d hd => by
  rw [Bool.eq_iff_iff, decide_eq_true_iff, mem_pick hS]; exact ⟨fun h => h.2, fun h => ⟨hd, h⟩⟩).2 h
theorem dn_twice {x y z : Int} (hS : Sides x y z) {p : Cell → Bool} (h : StairP x y z p) {d : Cell} (hd : d.inBox x y z) : dnB x y z p d = p d := by
  rw [Bool.eq_iff_iff]
  exact ⟨fun k => dn_least hS h (fun c _ hc => hc) hd k, fun k => dn_self hS hd k⟩
theorem least_facts (x y z : Int) (cs : List Cell) : ∃ (G : Hp) (b : Bool), (leastO x y z cs).getD Hp.none = G ∧ (leastO x y z cs).isSome = b ∧ G.cs.length ≤ 1000000 ∧
    (b = true → strB G.x G.y G.z G.cs = true ∧ HeapOK G.x G.y G.z G.cs ∧ leastO G.x G.y G.z G.cs = some G ∧ (∀ c ∈ cs, c ∈ G.cs) ∧ (∀ c ∈ cornL G.x G.y G.z G.cs, c ∈ cs)) := by
  unfold leastO
  by_cases hH : HeapOK x y z cs
  · have hS := hH.1
    rw [if_pos hH]
    have hok : HeapOK x y z (leastOf x y z cs).cs := pick_ok hS _
    have hst : StairP x y z fun d => decide (d ∈ (leastOf x y z cs).cs) := stair_of_pick hS (dn_stair hS)
    refine ⟨_, true, rfl, rfl, ?_, fun _ => ⟨str_yes ⟨hok, hst⟩, hok, ?_, fun c hc => ?_, fun c hc => ?_⟩⟩
    · have := hok.len
      show (leastOf x y z cs).cs.length ≤ _
      omega
    · show (if HeapOK x y z (leastOf x y z cs).cs then _ else _) = _
      rw [if_pos hok]
      congr 1
      show (⟨x, y, z, pick x y z (dnB x y z fun d => decide (d ∈ (leastOf x y z cs).cs))⟩ : Hp) = ⟨x, y, z, (leastOf x y z cs).cs⟩
      congr 1
      conv => rhs; rw [hok.pick]
      exact pick_congr hS fun d hd => dn_twice hS hst hd
    · exact (mem_pick hS).2 ⟨hH.mem hc, dn_self hS (hH.mem hc) (decide_eq_true hc)⟩
    · have hc' : c ∈ cornL x y z (leastOf x y z cs).cs := hc
      obtain ⟨h1, h2⟩ := List.mem_filter.1 hc'
      refine of_decide_eq_true (dn_corner hS (p := fun d => decide (d ∈ cs)) (hok.mem h1) ?_)
      rw [← h2]
      exact cornC_congr hS (fun d hd => by
        show dnB x y z (fun d => decide (d ∈ cs)) d = decide (d ∈ pick x y z (dnB x y z fun d => decide (d ∈ cs)))
        rw [Bool.eq_iff_iff, decide_eq_true_iff, mem_pick hS]; exact ⟨fun h => ⟨hd, h⟩, fun h => h.2⟩) (hok.mem h1)
  · rw [if_neg hH]
    exact ⟨_, false, rfl, rfl, by simp [Hp.none], fun e => Bool.noConfusion e⟩
theorem great_facts (x y z : Int) (cs : List Cell) : ∃ (G : Hp) (b : Bool), (greatO x y z cs).getD Hp.none = G ∧ (greatO x y z cs).isSome = b ∧ G.cs.length ≤ 1000000 ∧
    (b = true → strB G.x G.y G.z G.cs = true ∧ HeapOK G.x G.y G.z G.cs ∧ (∀ c ∈ G.cs, c ∈ cs) ∧ (∀ c ∈ hollL G.x G.y G.z G.cs, c ∉ cs) ∧ (hollL G.x G.y G.z G.cs).length ≤ 64) := by
  unfold greatO
  by_cases hH : HeapOK x y z cs
  · have hS := hH.1
    rw [if_pos hH]
    have hok : HeapOK x y z (greatOf x y z cs).cs := pick_ok hS _
    have hst : StairP x y z fun d => decide (d ∈ (greatOf x y z cs).cs) := stair_of_pick hS (up_stair hS)
    refine ⟨_, true, rfl, rfl, ?_, fun _ => ⟨str_yes ⟨hok, hst⟩, hok, fun c hc => ?_, fun c hc => ?_, pick_len hS _⟩⟩
    · have := hok.len
      show (greatOf x y z cs).cs.length ≤ _
      omega
    · obtain ⟨h1, h2⟩ := (mem_pick hS).1 hc
      exact of_decide_eq_true (up_sub hS h1 h2)
    · have hc' : c ∈ hollL x y z (greatOf x y z cs).cs := hc
      obtain ⟨h1, h2⟩ := (mem_pick hS).1 hc'
      have h3 : hollC x y z (upB x y z fun d => decide (d ∈ cs)) c = true := by
        unfold hollC at h2 ⊢
        rw [Bool.and_eq_true, Bool.not_eq_true', decide_eq_true_iff] at h2 ⊢
        have he : ∀ d, d.inBox x y z → decide (d ∈ (greatOf x y z cs).cs) = upB x y z (fun d => decide (d ∈ cs)) d := fun d hd => by
          show decide (d ∈ pick x y z (upB x y z fun d => decide (d ∈ cs))) = _
          rw [Bool.eq_iff_iff, decide_eq_true_iff, mem_pick hS]; exact ⟨fun h => h.2, fun h => ⟨hd, h⟩⟩
        refine ⟨by rw [← he c h1]; exact h2.1, (stairP_congr fun d hd => ?_).1 h2.2⟩
        show (decide (d ∈ (greatOf x y z cs).cs) || _) = _
        rw [he d hd]
      have := up_hollow hS h1 h3
      simpa using this
  · rw [if_neg hH]
    exact ⟨_, false, rfl, rfl, by simp [Hp.none], fun e => Bool.noConfusion e⟩
def HeapGS (M : Mem) (G : Hp) (b : Bool) (v : LV) (N : Mem) : Prop := ∃ u : Nat, v = .tup [.agg [.I G.x, .I G.y, .I G.z, .ref u 0 G.cs.length], .B b] ∧ Live N u (.row (triL G.cs) true 3) ∧ Pre M N
theorem heapGS {f : FuncId} {args : List LV} {M : Mem} {r : Option Hp} {G : Hp} {b : Bool} (h : CallsR PG f args M (HeapX M r)) (h1 : r.getD Hp.none = G) (h2 : r.isSome = b) : CallsR PG f args M (HeapGS M G b) := by
  subst h1 h2
  exact h
theorem tabA {f : FuncId} {args : List LV} {M : Mem} {L L' : List (List Int)} {b b' : Bool} (h : CallsR PG f args M (TabA M L b)) (h1 : L = L') (h2 : b = b') : CallsR PG f args M (TabA M L' b') := by
  subst h1 h2
  exact h
end Go.Ab

/- The abstract code of some functions (written by a program of mine from the translation, by way of prepF). -/
namespace Go.Ab.C
open Go.Ab
def spec_DrawAllStairs : AFn :=
 ⟨1, 25, [.tmp 2, .tmp 3, .tmp 4],
 .seq (.ops [(none, .mv 2 (.c (.I 0))),
 (none, .mv 3 (.c (.I 0))),
 (none, .mv 4 (.c (.I 0)))])
 (.seq (.ops [(none, .mv 6 (.t 0)),
 (none, .build 7 [.nil, (.I 0), (.U 0)] [(0, 1, (.t 6))]),
 (none, .box 8 (.t 7)),
 (none, .mv 5 (.t 8))])
 (.seq (.seq (.ops [(none, .mv 9 (.t 5)),
 (none, .call (some 10) F.spec_l1Cur_one [(.t 9), (.c (.I 8))])])
 (.cond (.t 10) (.seq (.ops [(none, .mv 11 (.t 5)),
 (none, .call (some 12) F.spec_l1Cur_sides [(.t 11)]),
 (none, .extract 13 (.t 12) 0),
 (none, .extract 14 (.t 12) 1),
 (none, .extract 15 (.t 12) 2),
 (none, .mv 2 (.t 13)),
 (none, .mv 3 (.t 14)),
 (none, .mv 4 (.t 15))])
 (.ret))
 (.skip)))
 (.seq (.ops [(none, .mv 16 (.t 5)),
 (none, .buildSl 17 3 1 [(.I 0), (.I 0), (.I 0)] [(0, 1, (.c (.I 2))), (1, 1, (.c (.I 1))), (2, 1, (.c (.I 3)))]),
 (none, .call (some 18) F.spec_l1Cur_among [(.t 16), (.t 17)]),
 (none, .mv 19 (.t 5)),
 (none, .buildSl 20 3 1 [(.I 0), (.I 0), (.I 0)] [(0, 1, (.c (.I 2))), (1, 1, (.c (.I 1))), (2, 1, (.c (.I 3)))]),
 (none, .call (some 21) F.spec_l1Cur_among [(.t 19), (.t 20)]),
 (none, .mv 22 (.t 5)),
 (none, .buildSl 23 4 1 [(.I 0), (.I 0), (.I 0), (.I 0)] [(0, 1, (.c (.I 2))), (1, 1, (.c (.I 1))), (2, 1, (.c (.I 3))), (3, 1, (.c (.I 4)))]),
 (none, .call (some 24) F.spec_l1Cur_among [(.t 22), (.t 23)]),
 (none, .mv 2 (.t 18)),
 (none, .mv 3 (.t 21)),
 (none, .mv 4 (.t 24))])
 (.ret))))⟩
def spec_DrawStairAt : AFn :=
 ⟨1, 43, [.tmp 2, .tmp 3, .tmp 4, .tmp 5],
 .seq (.ops [(none, .mv 2 (.c (.I 0))),
 (none, .mv 3 (.c (.I 0))),
 (none, .mv 4 (.c (.I 0))),
 (none, .mv 5 (.c (.I 0)))])
 (.seq (.ops [(none, .mv 10 (.t 0)),
 (none, .build 11 [.nil, (.I 0), (.U 0)] [(0, 1, (.t 10))]),
 (none, .box 12 (.t 11)),
 (none, .mv 6 (.t 12))])
 (.seq (.ops [(none, .mv 14 (.t 0)),
 (none, .call (some 15) F.spec_DrawAllStairs [(.t 14)]),
 (none, .mv 13 (.t 15)),
 (none, .extract 16 (.t 13) 0),
 (none, .extract 17 (.t 13) 1),
 (none, .extract 18 (.t 13) 2),
 (none, .mv 7 (.t 16)),
 (none, .mv 8 (.t 17)),
 (none, .mv 9 (.t 18))])
 (.seq (.seq (.ops [(none, .mv 19 (.t 7)),
 (none, .mv 20 (.t 8)),
 (none, .mv 21 (.t 9)),
 (none, .call (some 22) F.spec_l5Few [(.t 19), (.t 20), (.t 21)]),
 (none, .mv 23 (.t 22)),
 (some (23, true), .mv 24 (.t 6)),
 (some (23, true), .call (some 25) F.spec_l1Cur_one [(.t 24), (.c (.I 10))]),
 (some (23, true), .un 26 .not (.t 25)),
 (none, .pick 27 (.t 23) (.t 26) (.c (.B false)))])
 (.cond (.t 27) (.seq (.ops [(none, .mv 28 (.t 7)),
 (none, .mv 29 (.t 8)),
 (none, .mv 30 (.t 9)),
 (none, .mv 31 (.t 6)),
 (none, .mv 32 (.t 7)),
 (none, .mv 33 (.t 8)),
 (none, .mv 34 (.t 9)),
 (none, .call (some 35) F.spec_l5Count [(.t 32), (.t 33), (.t 34)]),
 (none, .call (some 36) F.spec_l1Cur_pick [(.t 31), (.t 35)]),
 (none, .mv 2 (.t 28)),
 (none, .mv 3 (.t 29)),
 (none, .mv 4 (.t 30)),
 (none, .mv 5 (.t 36))])
 (.ret))
 (.skip)))
 (.seq (.ops [(none, .mv 37 (.t 7)),
 (none, .mv 38 (.t 8)),
 (none, .mv 39 (.t 9)),
 (none, .mv 40 (.t 6)),
 (none, .buildSl 41 4 1 [(.I 0), (.I 0), (.I 0), (.I 0)] [(0, 1, (.c (.I 0))), (1, 1, (.c (.I (-1)))), (2, 1, (.c (.I 980))), (3, 1, (.c (.I 4611686018427387904)))]),
 (none, .call (some 42) F.spec_l1Cur_among [(.t 40), (.t 41)]),
 (none, .mv 2 (.t 37)),
 (none, .mv 3 (.t 38)),
 (none, .mv 4 (.t 39)),
 (none, .mv 5 (.t 42))])
 (.ret)))))⟩
def spec_DrawLeastStair : AFn :=
 ⟨1, 9, [.cellN 2 4],
 .seq (.ops [(none, .alloc 2 [(.I 0), (.I 0), (.I 0), .nil])])
 (.seq (.ops [(none, .mv 4 (.t 0)),
 (none, .build 5 [.nil, (.I 0), (.U 0)] [(0, 1, (.t 4))]),
 (none, .box 6 (.t 5)),
 (none, .mv 3 (.t 6))])
 (.seq (.ops [(none, .mv 7 (.t 3)),
 (none, .call (some 8) F.spec_l1Cur_heap [(.t 7)]),
 (none, .store 4 (.t 2) (.t 8))])
 (.ret)))⟩
def spec_DrawGreatestStair : AFn :=
 ⟨1, 47, [.cellN 2 4],
 .seq (.ops [(none, .alloc 2 [(.I 0), (.I 0), (.I 0), .nil])])
 (.seq (.ops [(none, .mv 8 (.t 0)),
 (none, .build 9 [.nil, (.I 0), (.U 0)] [(0, 1, (.t 8))]),
 (none, .box 10 (.t 9)),
 (none, .mv 3 (.t 10))])
 (.seq (.ops [(none, .mv 11 (.t 3)),
 (none, .call (some 12) F.spec_l1Cur_heap [(.t 11)]),
 (none, .alloc 4 [(.I 0), (.I 0), (.I 0), .nil]),
 (none, .store 4 (.t 4) (.t 12))])
 (.seq (.seq (.ops [(none, .loadN 13 4 (.t 4)),
 (none, .call (some 14) F.spec_l2Heap [(.t 13)]),
 (none, .mv 15 (.t 14)),
 (some (15, true), .mv 16 (.t 3)),
 (some (15, true), .call (some 17) F.spec_l1Cur_one [(.t 16), (.c (.I 4))]),
 (some (15, true), .un 18 .not (.t 17)),
 (none, .pick 19 (.t 15) (.t 18) (.c (.B false)))])
 (.cond (.t 19) (.seq (.ops [(none, .mv 21 (.t 3)),
 (none, .fieldAddr 22 (.t 4) 0),
 (none, .load1 23 (.t 22)),
 (none, .fieldAddr 24 (.t 4) 1),
 (none, .load1 25 (.t 24)),
 (none, .fieldAddr 26 (.t 4) 2),
 (none, .load1 27 (.t 26)),
 (none, .call (some 28) F.spec_l1Cur_someHeap [(.t 21), (.t 23), (.t 25), (.t 27)]),
 (none, .call (some 29) F.spec_LeastStair [(.t 28)]),
 (none, .mv 20 (.t 29)),
 (none, .extract 30 (.t 20) 0),
 (none, .extract 31 (.t 20) 1),
 (none, .alloc 5 [(.I 0), (.I 0), (.I 0), .nil]),
 (none, .store 4 (.t 5) (.t 30)),
 (none, .mv 6 (.t 31))])
 (.seq (.ops [(none, .mv 7 (.c (.I 0)))])
 (.block 0 (.loop (.seq (.seq (.ops [(none, .mv 32 (.t 7)),
 (none, .fieldAddr 33 (.t 5) 3),
 (none, .load1 34 (.t 33)),
 (none, .len 35 (.t 34)),
 (none, .bin 36 .lss (.t 32) (.t 35))])
 (.cond (.t 36) (.skip)
 (.exit 0)))
 (.seq (.block 1 (.draw [⟨(none, .loadN 39 4 (.t 4)), [], []⟩,
 ⟨(none, .fieldAddr 40 (.t 5) 3), [], []⟩,
 ⟨(none, .load1 41 (.t 40)), [], []⟩,
 ⟨(none, .mv 42 (.t 7)), [], []⟩,
 ⟨(none, .idxS 43 3 (.t 41) (.t 42)), [], []⟩,
 ⟨(none, .loadN 44 3 (.t 43)), [], []⟩,
 ⟨(none, .call (some 45) F.spec_l2With [(.t 39), (.t 44)]), [], []⟩,
 ⟨(none, .store 4 (.t 4) (.t 45)), [], []⟩]))
 (.ops [(none, .mv 37 (.t 7)),
 (none, .bin 38 .add (.t 37) (.c (.I 1))),
 (none, .mv 7 (.t 38))])))))))
 (.skip)))
 (.seq (.ops [(none, .loadN 46 4 (.t 4)),
 (none, .store 4 (.t 2) (.t 46))])
 (.ret)))))⟩
end Go.Ab.C

/- That the program has this code. -/
namespace Go.Ab.K
open Go Go.Ab
theorem spec_DrawAllStairs : prepF Go.Proofs.Try.prog F.spec_DrawAllStairs = some C.spec_DrawAllStairs := by kernel_rfl
theorem spec_DrawStairAt : prepF Go.Proofs.Try.prog F.spec_DrawStairAt = some C.spec_DrawStairAt := by kernel_rfl
theorem spec_DrawLeastStair : prepF Go.Proofs.Try.prog F.spec_DrawLeastStair = some C.spec_DrawLeastStair := by kernel_rfl
theorem spec_DrawGreatestStair : prepF Go.Proofs.Try.prog F.spec_DrawGreatestStair = some C.spec_DrawGreatestStair := by kernel_rfl
end Go.Ab.K

/- Contracts: what the law of the numbers of staircases draws. -/
namespace Go.Ab
open Go
set_option linter.unusedSimpArgs false
set_option linter.unusedVariables false
set_option maxRecDepth 20000

section
variable {t o : Nat} {bs : List Nat} {M : Mem} (hB : Bytes M t o bs) (h255 : ∀ b ∈ bs, b ≤ 255) (hl : bs.length ≤ 1000000000)
include hB h255 hl
theorem d_DrawAllStairs : CallsR PG F.spec_DrawAllStairs [.ref t o bs.length] M fun v N => (∃ x y z : Int, v = .tup [.I x, .I y, .I z]) ∧ Pre M N := by
  have htM := hB.lt
  refine callsR_run K.spec_DrawAllStairs rfl ?_
  simp (disch := omega) only [C.spec_DrawAllStairs, splice, ↓SXd, SXu, slBounds, ↓sop, ↓aop, ↓reduceIte, LV.cells, AOp.dst, LV.I, LV.B, LV.U, LV.S, LV.nil, Nat.reduceEqDiff, Nat.reduceAdd, Nat.reduceMul, Nat.reduceSub, Nat.reduceLeDiff, Nat.reduceBEq, Nat.reduceDiv, Nat.reduceMod, Int.reduceToNat, Int.reduceLT, Int.reduceLE, Int.reduceAdd, Int.reduceSub, Int.reduceMul, Int.reduceEq, Int.reduceNeg, reduceCtorEq, resV, resAll, ARes.ev, LV.flat, ite_true, ite_false, exists_eq_left', exists_eq_left, keyOf, implies_true, fillC, capOf]
  have hc := CurAt.new hB h255 hl
  have hPP : Pre M (M ++ [some (.row [.ref t o bs.length, .I 0, .val (.int .u64 0)] true 0)]) := Pre.app _ _
  generalize M ++ [some (Blk.row [.ref t o bs.length, .I 0, .val (.int .u64 0)] true 0)] = N0 at hc hPP ⊢
  refine callR_of (d_one hc (by omega)) ?_
  rintro _ N1 ⟨⟨b, rfl⟩, hd1⟩
  cases b
  · simp (disch := omega) only [↓SXd, SXu, slBounds, ↓sop, ↓aop, ↓reduceIte, LV.cells, AOp.dst, LV.I, LV.B, LV.U, LV.S, LV.nil, Nat.reduceEqDiff, Nat.reduceAdd, Nat.reduceMul, Nat.reduceSub, Nat.reduceLeDiff, Nat.reduceBEq, Nat.reduceDiv, Nat.reduceMod, Int.reduceToNat, Int.reduceLT, Int.reduceLE, Int.reduceAdd, Int.reduceSub, Int.reduceMul, Int.reduceEq, Int.reduceNeg, reduceCtorEq, resV, resAll, ARes.ev, LV.flat, ite_true, ite_false, exists_eq_left', exists_eq_left, keyOf, implies_true, fillC, capOf]
    refine callR_of (d_amongNew (xs := [2, 1, 3]) hd1.1 (by omega) (by simp) (by simp)) ?_
    rintro _ N2 ⟨⟨x, rfl, _⟩, hd2⟩
    simp (disch := omega) only [↓SXd, SXu, slBounds, ↓sop, ↓aop, ↓reduceIte, LV.cells, AOp.dst, LV.I, LV.B, LV.U, LV.S, LV.nil, Nat.reduceEqDiff, Nat.reduceAdd, Nat.reduceMul, Nat.reduceSub, Nat.reduceLeDiff, Nat.reduceBEq, Nat.reduceDiv, Nat.reduceMod, Int.reduceToNat, Int.reduceLT, Int.reduceLE, Int.reduceAdd, Int.reduceSub, Int.reduceMul, Int.reduceEq, Int.reduceNeg, reduceCtorEq, resV, resAll, ARes.ev, LV.flat, ite_true, ite_false, exists_eq_left', exists_eq_left, keyOf, implies_true, fillC, capOf]
    refine callR_of (d_amongNew (xs := [2, 1, 3]) hd2.1 (by omega) (by simp) (by simp)) ?_
    rintro _ N3 ⟨⟨y, rfl, _⟩, hd3⟩
    simp (disch := omega) only [↓SXd, SXu, slBounds, ↓sop, ↓aop, ↓reduceIte, LV.cells, AOp.dst, LV.I, LV.B, LV.U, LV.S, LV.nil, Nat.reduceEqDiff, Nat.reduceAdd, Nat.reduceMul, Nat.reduceSub, Nat.reduceLeDiff, Nat.reduceBEq, Nat.reduceDiv, Nat.reduceMod, Int.reduceToNat, Int.reduceLT, Int.reduceLE, Int.reduceAdd, Int.reduceSub, Int.reduceMul, Int.reduceEq, Int.reduceNeg, reduceCtorEq, resV, resAll, ARes.ev, LV.flat, ite_true, ite_false, exists_eq_left', exists_eq_left, keyOf, implies_true, fillC, capOf]
    refine callR_of (d_amongNew (xs := [2, 1, 3, 4]) hd3.1 (by omega) (by simp) (by simp)) ?_
    rintro _ N4 ⟨⟨z, rfl, _⟩, hd4⟩
    simp (disch := omega) only [↓SXd, SXu, slBounds, ↓sop, ↓aop, ↓reduceIte, LV.cells, AOp.dst, LV.I, LV.B, LV.U, LV.S, LV.nil, Nat.reduceEqDiff, Nat.reduceAdd, Nat.reduceMul, Nat.reduceSub, Nat.reduceLeDiff, Nat.reduceBEq, Nat.reduceDiv, Nat.reduceMod, Int.reduceToNat, Int.reduceLT, Int.reduceLE, Int.reduceAdd, Int.reduceSub, Int.reduceMul, Int.reduceEq, Int.reduceNeg, reduceCtorEq, resV, resAll, ARes.ev, LV.flat, ite_true, ite_false, exists_eq_left', exists_eq_left, keyOf, implies_true, fillC, capOf]
    exact ⟨⟨x, y, z, rfl⟩, (((hd1.trans hd2).trans hd3).trans hd4).pre hPP (Nat.le_refl _)⟩
  · simp (disch := omega) only [↓SXd, SXu, slBounds, ↓sop, ↓aop, ↓reduceIte, LV.cells, AOp.dst, LV.I, LV.B, LV.U, LV.S, LV.nil, Nat.reduceEqDiff, Nat.reduceAdd, Nat.reduceMul, Nat.reduceSub, Nat.reduceLeDiff, Nat.reduceBEq, Nat.reduceDiv, Nat.reduceMod, Int.reduceToNat, Int.reduceLT, Int.reduceLE, Int.reduceAdd, Int.reduceSub, Int.reduceMul, Int.reduceEq, Int.reduceNeg, reduceCtorEq, resV, resAll, ARes.ev, LV.flat, ite_true, ite_false, exists_eq_left', exists_eq_left, keyOf, implies_true, fillC, capOf]
    refine callR_of (d_sides hd1.1 (by omega)) ?_
    rintro _ N2 ⟨⟨x, y, z, rfl⟩, hd2⟩
    simp (disch := omega) only [↓SXd, SXu, slBounds, ↓sop, ↓aop, ↓reduceIte, LV.cells, AOp.dst, LV.I, LV.B, LV.U, LV.S, LV.nil, Nat.reduceEqDiff, Nat.reduceAdd, Nat.reduceMul, Nat.reduceSub, Nat.reduceLeDiff, Nat.reduceBEq, Nat.reduceDiv, Nat.reduceMod, Int.reduceToNat, Int.reduceLT, Int.reduceLE, Int.reduceAdd, Int.reduceSub, Int.reduceMul, Int.reduceEq, Int.reduceNeg, reduceCtorEq, resV, resAll, ARes.ev, LV.flat, ite_true, ite_false, exists_eq_left', exists_eq_left, keyOf, implies_true, fillC, capOf]
    exact ⟨⟨x, y, z, rfl⟩, (hd1.trans hd2).pre hPP (Nat.le_refl _)⟩
theorem d_DrawStairAt : CallsR PG F.spec_DrawStairAt [.ref t o bs.length] M fun v N => (∃ x y z k : Int, v = .tup [.I x, .I y, .I z, .I k]) ∧ Pre M N := by
  have htM := hB.lt
  refine callsR_run K.spec_DrawStairAt rfl ?_
  simp (disch := omega) only [C.spec_DrawStairAt, splice, ↓SXd, SXu, slBounds, ↓sop, ↓aop, ↓reduceIte, LV.cells, AOp.dst, LV.I, LV.B, LV.U, LV.S, LV.nil, Nat.reduceEqDiff, Nat.reduceAdd, Nat.reduceMul, Nat.reduceSub, Nat.reduceLeDiff, Nat.reduceBEq, Nat.reduceDiv, Nat.reduceMod, Int.reduceToNat, Int.reduceLT, Int.reduceLE, Int.reduceAdd, Int.reduceSub, Int.reduceMul, Int.reduceEq, Int.reduceNeg, reduceCtorEq, resV, resAll, ARes.ev, LV.flat, ite_true, ite_false, exists_eq_left', exists_eq_left, keyOf, implies_true, fillC, capOf]
  have hc := CurAt.new hB h255 hl
  have hPP : Pre M (M ++ [some (.row [.ref t o bs.length, .I 0, .val (.int .u64 0)] true 0)]) := Pre.app _ _
  have hB0 : Bytes (M ++ [some (.row [.ref t o bs.length, .I 0, .val (.int .u64 0)] true 0)]) t o bs := hB.app
  generalize M ++ [some (Blk.row [.ref t o bs.length, .I 0, .val (.int .u64 0)] true 0)] = N0 at hc hPP hB0 ⊢
  refine callR_of (d_DrawAllStairs hB0 h255 hl) ?_
  rintro _ N1 ⟨⟨x, y, z, rfl⟩, hp1⟩
  have hc1 := hc.pre hp1
  have hP1 := hPP.trans hp1
  simp (disch := omega) only [↓SXd, SXu, slBounds, ↓sop, ↓aop, ↓reduceIte, LV.cells, AOp.dst, LV.I, LV.B, LV.U, LV.S, LV.nil, Nat.reduceEqDiff, Nat.reduceAdd, Nat.reduceMul, Nat.reduceSub, Nat.reduceLeDiff, Nat.reduceBEq, Nat.reduceDiv, Nat.reduceMod, Int.reduceToNat, Int.reduceLT, Int.reduceLE, Int.reduceAdd, Int.reduceSub, Int.reduceMul, Int.reduceEq, Int.reduceNeg, reduceCtorEq, resV, resAll, ARes.ev, LV.flat, ite_true, ite_false, exists_eq_left', exists_eq_left, keyOf, implies_true, fillC, capOf]
  refine callK_of (h_l5Few) ?_
  simp (disch := omega) only [↓SXd, SXu, slBounds, ↓sop, ↓aop, ↓reduceIte, LV.cells, AOp.dst, LV.I, LV.B, LV.U, LV.S, LV.nil, Nat.reduceEqDiff, Nat.reduceAdd, Nat.reduceMul, Nat.reduceSub, Nat.reduceLeDiff, Nat.reduceBEq, Nat.reduceDiv, Nat.reduceMod, Int.reduceToNat, Int.reduceLT, Int.reduceLE, Int.reduceAdd, Int.reduceSub, Int.reduceMul, Int.reduceEq, Int.reduceNeg, reduceCtorEq, resV, resAll, ARes.ev, LV.flat, ite_true, ite_false, exists_eq_left', exists_eq_left, keyOf, implies_true, fillC, capOf]
  have last : ∀ {N : Mem} {a : Nat}, CurAt N M.length t o bs a → a ≤ 10 → Pre M N → CallsR PG F.spec_l1Cur_among [.ptr M.length 0, .ref N.length 0 4] (N ++ [some (.row (intL [0, -1, 980, 4611686018427387904]) true 1)]) fun v N' => (∃ k : Int, v = .I k) ∧ Pre M N' := fun {N a} h1 h2 h3 =>
    (d_amongNew (xs := [0, -1, 980, 4611686018427387904]) h1 (by omega) (by simp) (by simp)).mono fun v N' hv => by
      obtain ⟨⟨b, rfl, _⟩, hd⟩ := hv
      exact ⟨⟨b, rfl⟩, hd.pre h3 (Nat.le_refl _)⟩
  cases hf : fewB x y z with
  | false =>
    simp (disch := omega) only [↓SXd, SXu, slBounds, ↓sop, ↓aop, ↓reduceIte, LV.cells, AOp.dst, LV.I, LV.B, LV.U, LV.S, LV.nil, Nat.reduceEqDiff, Nat.reduceAdd, Nat.reduceMul, Nat.reduceSub, Nat.reduceLeDiff, Nat.reduceBEq, Nat.reduceDiv, Nat.reduceMod, Int.reduceToNat, Int.reduceLT, Int.reduceLE, Int.reduceAdd, Int.reduceSub, Int.reduceMul, Int.reduceEq, Int.reduceNeg, reduceCtorEq, resV, resAll, ARes.ev, LV.flat, ite_true, ite_false, exists_eq_left', exists_eq_left, keyOf, implies_true, fillC, capOf]
    refine callR_of (last hc1 (by omega) hP1) ?_
    rintro _ N2 ⟨⟨k, rfl⟩, hp2⟩
    simp (disch := omega) only [↓SXd, SXu, slBounds, ↓sop, ↓aop, ↓reduceIte, LV.cells, AOp.dst, LV.I, LV.B, LV.U, LV.S, LV.nil, Nat.reduceEqDiff, Nat.reduceAdd, Nat.reduceMul, Nat.reduceSub, Nat.reduceLeDiff, Nat.reduceBEq, Nat.reduceDiv, Nat.reduceMod, Int.reduceToNat, Int.reduceLT, Int.reduceLE, Int.reduceAdd, Int.reduceSub, Int.reduceMul, Int.reduceEq, Int.reduceNeg, reduceCtorEq, resV, resAll, ARes.ev, LV.flat, ite_true, ite_false, exists_eq_left', exists_eq_left, keyOf, implies_true, fillC, capOf]
    exact ⟨⟨x, y, z, k, rfl⟩, hp2⟩
  | true =>
    have hS : Sides x y z := by
      unfold fewB at hf
      rw [Bool.and_eq_true, decide_eq_true_iff] at hf
      exact hf.1
    simp (disch := omega) only [↓SXd, SXu, slBounds, ↓sop, ↓aop, ↓reduceIte, LV.cells, AOp.dst, LV.I, LV.B, LV.U, LV.S, LV.nil, Nat.reduceEqDiff, Nat.reduceAdd, Nat.reduceMul, Nat.reduceSub, Nat.reduceLeDiff, Nat.reduceBEq, Nat.reduceDiv, Nat.reduceMod, Int.reduceToNat, Int.reduceLT, Int.reduceLE, Int.reduceAdd, Int.reduceSub, Int.reduceMul, Int.reduceEq, Int.reduceNeg, reduceCtorEq, resV, resAll, ARes.ev, LV.flat, ite_true, ite_false, exists_eq_left', exists_eq_left, keyOf, implies_true, fillC, capOf]
    refine callR_of (d_one hc1 (by omega)) ?_
    rintro _ N2 ⟨⟨b, rfl⟩, hd2⟩
    have hP2 := hd2.pre hP1 (Nat.le_refl _)
    cases b
    · simp (disch := omega) only [↓SXd, SXu, slBounds, ↓sop, ↓aop, ↓reduceIte, LV.cells, AOp.dst, LV.I, LV.B, LV.U, LV.S, LV.nil, Nat.reduceEqDiff, Nat.reduceAdd, Nat.reduceMul, Nat.reduceSub, Nat.reduceLeDiff, Nat.reduceBEq, Nat.reduceDiv, Nat.reduceMod, Int.reduceToNat, Int.reduceLT, Int.reduceLE, Int.reduceAdd, Int.reduceSub, Int.reduceMul, Int.reduceEq, Int.reduceNeg, reduceCtorEq, resV, resAll, ARes.ev, LV.flat, ite_true, ite_false, exists_eq_left', exists_eq_left, keyOf, implies_true, fillC, capOf]
      refine callK_of (h_count hS) ?_
      simp (disch := omega) only [↓SXd, SXu, slBounds, ↓sop, ↓aop, ↓reduceIte, LV.cells, AOp.dst, LV.I, LV.B, LV.U, LV.S, LV.nil, Nat.reduceEqDiff, Nat.reduceAdd, Nat.reduceMul, Nat.reduceSub, Nat.reduceLeDiff, Nat.reduceBEq, Nat.reduceDiv, Nat.reduceMod, Int.reduceToNat, Int.reduceLT, Int.reduceLE, Int.reduceAdd, Int.reduceSub, Int.reduceMul, Int.reduceEq, Int.reduceNeg, reduceCtorEq, resV, resAll, ARes.ev, LV.flat, ite_true, ite_false, exists_eq_left', exists_eq_left, keyOf, implies_true, fillC, capOf]
      refine callR_of (d_pick hd2.1 (by omega)) ?_
      rintro _ N3 ⟨⟨k, rfl, _⟩, hd3⟩
      simp (disch := omega) only [↓SXd, SXu, slBounds, ↓sop, ↓aop, ↓reduceIte, LV.cells, AOp.dst, LV.I, LV.B, LV.U, LV.S, LV.nil, Nat.reduceEqDiff, Nat.reduceAdd, Nat.reduceMul, Nat.reduceSub, Nat.reduceLeDiff, Nat.reduceBEq, Nat.reduceDiv, Nat.reduceMod, Int.reduceToNat, Int.reduceLT, Int.reduceLE, Int.reduceAdd, Int.reduceSub, Int.reduceMul, Int.reduceEq, Int.reduceNeg, reduceCtorEq, resV, resAll, ARes.ev, LV.flat, ite_true, ite_false, exists_eq_left', exists_eq_left, keyOf, implies_true, fillC, capOf]
      exact ⟨⟨x, y, z, k, rfl⟩, hd3.pre hP2 (Nat.le_refl _)⟩
    · simp (disch := omega) only [↓SXd, SXu, slBounds, ↓sop, ↓aop, ↓reduceIte, LV.cells, AOp.dst, LV.I, LV.B, LV.U, LV.S, LV.nil, Nat.reduceEqDiff, Nat.reduceAdd, Nat.reduceMul, Nat.reduceSub, Nat.reduceLeDiff, Nat.reduceBEq, Nat.reduceDiv, Nat.reduceMod, Int.reduceToNat, Int.reduceLT, Int.reduceLE, Int.reduceAdd, Int.reduceSub, Int.reduceMul, Int.reduceEq, Int.reduceNeg, reduceCtorEq, resV, resAll, ARes.ev, LV.flat, ite_true, ite_false, exists_eq_left', exists_eq_left, keyOf, implies_true, fillC, capOf]
      refine callR_of (last hd2.1 (by omega) hP2) ?_
      rintro _ N3 ⟨⟨k, rfl⟩, hp3⟩
      simp (disch := omega) only [↓SXd, SXu, slBounds, ↓sop, ↓aop, ↓reduceIte, LV.cells, AOp.dst, LV.I, LV.B, LV.U, LV.S, LV.nil, Nat.reduceEqDiff, Nat.reduceAdd, Nat.reduceMul, Nat.reduceSub, Nat.reduceLeDiff, Nat.reduceBEq, Nat.reduceDiv, Nat.reduceMod, Int.reduceToNat, Int.reduceLT, Int.reduceLE, Int.reduceAdd, Int.reduceSub, Int.reduceMul, Int.reduceEq, Int.reduceNeg, reduceCtorEq, resV, resAll, ARes.ev, LV.flat, ite_true, ite_false, exists_eq_left', exists_eq_left, keyOf, implies_true, fillC, capOf]
      exact ⟨⟨x, y, z, k, rfl⟩, hp3⟩
theorem d_DrawLeastStair : CallsR PG F.spec_DrawLeastStair [.ref t o bs.length] M fun v N => HeapE M v N ∧ Pre M N := by
  have htM := hB.lt
  refine callsR_run K.spec_DrawLeastStair rfl ?_
  simp (disch := omega) only [C.spec_DrawLeastStair, splice, ↓SXd, SXu, slBounds, ↓sop, ↓aop, ↓reduceIte, LV.cells, AOp.dst, LV.I, LV.B, LV.U, LV.S, LV.nil, Nat.reduceEqDiff, Nat.reduceAdd, Nat.reduceMul, Nat.reduceSub, Nat.reduceLeDiff, Nat.reduceBEq, Nat.reduceDiv, Nat.reduceMod, Int.reduceToNat, Int.reduceLT, Int.reduceLE, Int.reduceAdd, Int.reduceSub, Int.reduceMul, Int.reduceEq, Int.reduceNeg, reduceCtorEq, resV, resAll, ARes.ev, LV.flat, ite_true, ite_false, exists_eq_left', exists_eq_left, keyOf, implies_true, fillC, capOf]
  have hc := CurAt.new2 (b := some (.row [.I 0, .I 0, .I 0, .nil] true 0)) hB h255 hl
  refine callR_of (d_heapE hc (by omega)) ?_
  rintro _ N1 ⟨⟨x, y, z, cs, u, rfl, hu, hul, hcl⟩, hd1⟩
  rw [List.length_append] at hul
  simp only [List.length_cons, List.length_nil] at hul
  have b2 : Live N1 M.length (.row [.I 0, .I 0, .I 0, .nil] true 0) := hd1.live Live.new (by omega)
  have hP1 : Pre M N1 := hd1.pre (Pre.app _ _) (by omega)
  simp (disch := omega) only [↓SXd, SXu, slBounds, ↓sop, ↓aop, ↓reduceIte, LV.cells, AOp.dst, LV.I, LV.B, LV.U, LV.S, LV.nil, Nat.reduceEqDiff, Nat.reduceAdd, Nat.reduceMul, Nat.reduceSub, Nat.reduceLeDiff, Nat.reduceBEq, Nat.reduceDiv, Nat.reduceMod, Int.reduceToNat, Int.reduceLT, Int.reduceLE, Int.reduceAdd, Int.reduceSub, Int.reduceMul, Int.reduceEq, Int.reduceNeg, reduceCtorEq, resV, resAll, ARes.ev, LV.flat, ite_true, ite_false, exists_eq_left', exists_eq_left, keyOf, implies_true, fillC, capOf]
  refine memK_box b2 (by simp) fun N5 i1 i2 i3 => ?_
  simp (disch := omega) only [i2.cells, ↓SXd, SXu, slBounds, ↓sop, ↓aop, ↓reduceIte, LV.cells, AOp.dst, LV.I, LV.B, LV.U, LV.S, LV.nil, Nat.reduceEqDiff, Nat.reduceAdd, Nat.reduceMul, Nat.reduceSub, Nat.reduceLeDiff, Nat.reduceBEq, Nat.reduceDiv, Nat.reduceMod, Int.reduceToNat, Int.reduceLT, Int.reduceLE, Int.reduceAdd, Int.reduceSub, Int.reduceMul, Int.reduceEq, Int.reduceNeg, reduceCtorEq, resV, resAll, ARes.ev, LV.flat, ite_true, ite_false, exists_eq_left', exists_eq_left, keyOf, implies_true, fillC, capOf]
  exact ⟨⟨x, y, z, cs, u, rfl, live_step hu (by omega) i3, by omega, hcl⟩, pre_step hP1 (by omega) (j := 0) i1 i3⟩
theorem d_DrawGreatestStair : CallsR PG F.spec_DrawGreatestStair [.ref t o bs.length] M fun v N => HeapE M v N ∧ Pre M N := by
  have htM := hB.lt
  refine callsR_run K.spec_DrawGreatestStair rfl ?_
  simp (disch := omega) only [C.spec_DrawGreatestStair, splice, ↓SXd, SXu, slBounds, ↓sop, ↓aop, ↓reduceIte, LV.cells, AOp.dst, LV.I, LV.B, LV.U, LV.S, LV.nil, Nat.reduceEqDiff, Nat.reduceAdd, Nat.reduceMul, Nat.reduceSub, Nat.reduceLeDiff, Nat.reduceBEq, Nat.reduceDiv, Nat.reduceMod, Int.reduceToNat, Int.reduceLT, Int.reduceLE, Int.reduceAdd, Int.reduceSub, Int.reduceMul, Int.reduceEq, Int.reduceNeg, reduceCtorEq, resV, resAll, ARes.ev, LV.flat, ite_true, ite_false, exists_eq_left', exists_eq_left, keyOf, implies_true, fillC, capOf]
  have hc := CurAt.new2 (b := some (.row [.I 0, .I 0, .I 0, .nil] true 0)) hB h255 hl
  refine callR_of (d_heapE hc (by omega)) ?_
  rintro _ N1 ⟨⟨x, y, z, cs, u, rfl, hu, hul, hcl⟩, hd1⟩
  rw [List.length_append] at hul
  simp only [List.length_cons, List.length_nil] at hul
  have b2 : Live N1 M.length (.row [.I 0, .I 0, .I 0, .nil] true 0) := hd1.live Live.new (by omega)
  have hP1 : Pre M N1 := hd1.pre (Pre.app _ _) (by omega)
  have hN1 := hd1.2.1
  rw [List.length_append] at hN1
  simp only [List.length_cons, List.length_nil] at hN1
  have hul2 := hu.lt
  simp (disch := omega) only [splice, ↓SXd, SXu, slBounds, ↓sop, ↓aop, ↓reduceIte, LV.cells, AOp.dst, LV.I, LV.B, LV.U, LV.S, LV.nil, Nat.reduceEqDiff, Nat.reduceAdd, Nat.reduceMul, Nat.reduceSub, Nat.reduceLeDiff, Nat.reduceBEq, Nat.reduceDiv, Nat.reduceMod, Int.reduceToNat, Int.reduceLT, Int.reduceLE, Int.reduceAdd, Int.reduceSub, Int.reduceMul, Int.reduceEq, Int.reduceNeg, reduceCtorEq, resV, resAll, ARes.ev, LV.flat, ite_true, ite_false, exists_eq_left', exists_eq_left, keyOf, implies_true, fillC, capOf]
  have b4 : Live (N1 ++ [some (.row [.I x, .I y, .I z, .ref u 0 cs.length] true 0)]) N1.length (.row [.I x, .I y, .I z, .ref u 0 cs.length] true 0) := Live.new
  have c2 := b2.app (L := [some (.row [.I x, .I y, .I z, .ref u 0 cs.length] true 0)])
  have cu := hu.app (L := [some (.row [.I x, .I y, .I z, .ref u 0 cs.length] true 0)])
  have hP2 : Pre M (N1 ++ [some (.row [.I x, .I y, .I z, .ref u 0 cs.length] true 0)]) := hP1.trans (Pre.app _ _)
  have hcur : CurAt (N1 ++ [some (.row [.I x, .I y, .I z, .ref u 0 cs.length] true 0)]) (M.length + 1) t o bs 160 := hd1.1.pre (Pre.app _ _)
  generalize hm4 : N1.length = m4 at b4 ⊢
  generalize N1 ++ [some (Blk.row [.I x, .I y, .I z, .ref u 0 cs.length] true 0)] = N2 at b4 c2 cu hP2 hcur ⊢
  have fin : ∀ {N N' : Mem} {X Y Z : Int} {ds : List Cell} {v : Nat}, Pre M N → Live N v (.row (triL ds) true 3) → M.length < v → ds.length ≤ 65 → N'.length = N.length → (∀ q, q ≠ M.length → q < N.length → N'[q]? = N[q]?) → HeapE M (.agg [.I X, .I Y, .I Z, .ref v 0 ds.length]) N' ∧ Pre M N' := fun {N N' X Y Z ds v} k1 k3 k4 k5 j1 j3 =>
    ⟨⟨X, Y, Z, ds, v, rfl, live_step k3 (by omega) j3, by omega, k5⟩, pre_step k1 (by omega) (j := 0) j1 j3⟩
  refine callK_of (h_l2Heap cu.has (by omega)) ?_
  simp (disch := omega) only [↓SXd, SXu, slBounds, ↓sop, ↓aop, ↓reduceIte, LV.cells, AOp.dst, LV.I, LV.B, LV.U, LV.S, LV.nil, Nat.reduceEqDiff, Nat.reduceAdd, Nat.reduceMul, Nat.reduceSub, Nat.reduceLeDiff, Nat.reduceBEq, Nat.reduceDiv, Nat.reduceMod, Int.reduceToNat, Int.reduceLT, Int.reduceLE, Int.reduceAdd, Int.reduceSub, Int.reduceMul, Int.reduceEq, Int.reduceNeg, reduceCtorEq, resV, resAll, ARes.ev, LV.flat, ite_true, ite_false, exists_eq_left', exists_eq_left, keyOf, implies_true, fillC, capOf]
  by_cases hH : HeapOK x y z cs
  rotate_left
  · simp (disch := omega) only [hH, b4.cells, ↓SXd, SXu, slBounds, ↓sop, ↓aop, ↓reduceIte, LV.cells, AOp.dst, LV.I, LV.B, LV.U, LV.S, LV.nil, Nat.reduceEqDiff, Nat.reduceAdd, Nat.reduceMul, Nat.reduceSub, Nat.reduceLeDiff, Nat.reduceBEq, Nat.reduceDiv, Nat.reduceMod, Int.reduceToNat, Int.reduceLT, Int.reduceLE, Int.reduceAdd, Int.reduceSub, Int.reduceMul, Int.reduceEq, Int.reduceNeg, reduceCtorEq, resV, resAll, ARes.ev, LV.flat, ite_true, ite_false, exists_eq_left', exists_eq_left, keyOf, implies_true, fillC, capOf]
    refine memK_box c2 (by simp) fun N5 i1 i2 i3 => ?_
    simp (disch := omega) only [i2.cells, ↓SXd, SXu, slBounds, ↓sop, ↓aop, ↓reduceIte, LV.cells, AOp.dst, LV.I, LV.B, LV.U, LV.S, LV.nil, Nat.reduceEqDiff, Nat.reduceAdd, Nat.reduceMul, Nat.reduceSub, Nat.reduceLeDiff, Nat.reduceBEq, Nat.reduceDiv, Nat.reduceMod, Int.reduceToNat, Int.reduceLT, Int.reduceLE, Int.reduceAdd, Int.reduceSub, Int.reduceMul, Int.reduceEq, Int.reduceNeg, reduceCtorEq, resV, resAll, ARes.ev, LV.flat, ite_true, ite_false, exists_eq_left', exists_eq_left, keyOf, implies_true, fillC, capOf]
    exact fin hP2 cu (by omega) hcl i1 i3
  have hS := hH.1
  simp (disch := omega) only [hH, ↓SXd, SXu, slBounds, ↓sop, ↓aop, ↓reduceIte, LV.cells, AOp.dst, LV.I, LV.B, LV.U, LV.S, LV.nil, Nat.reduceEqDiff, Nat.reduceAdd, Nat.reduceMul, Nat.reduceSub, Nat.reduceLeDiff, Nat.reduceBEq, Nat.reduceDiv, Nat.reduceMod, Int.reduceToNat, Int.reduceLT, Int.reduceLE, Int.reduceAdd, Int.reduceSub, Int.reduceMul, Int.reduceEq, Int.reduceNeg, reduceCtorEq, resV, resAll, ARes.ev, LV.flat, ite_true, ite_false, exists_eq_left', exists_eq_left, keyOf, implies_true, fillC, capOf]
  refine callR_of (d_one hcur (by omega)) ?_
  rintro _ N3 ⟨⟨b, rfl⟩, hd2⟩
  have e2 := hd2.live c2 (by omega)
  have e4 := hd2.live b4 (by omega)
  have eu := hd2.live cu (by omega)
  have hP3 := hd2.pre hP2 (by omega)
  have hl3 := hP3.1
  cases b
  rotate_left
  · simp (disch := omega) only [e4.cells, ↓SXd, SXu, slBounds, ↓sop, ↓aop, ↓reduceIte, LV.cells, AOp.dst, LV.I, LV.B, LV.U, LV.S, LV.nil, Nat.reduceEqDiff, Nat.reduceAdd, Nat.reduceMul, Nat.reduceSub, Nat.reduceLeDiff, Nat.reduceBEq, Nat.reduceDiv, Nat.reduceMod, Int.reduceToNat, Int.reduceLT, Int.reduceLE, Int.reduceAdd, Int.reduceSub, Int.reduceMul, Int.reduceEq, Int.reduceNeg, reduceCtorEq, resV, resAll, ARes.ev, LV.flat, ite_true, ite_false, exists_eq_left', exists_eq_left, keyOf, implies_true, fillC, capOf]
    refine memK_box e2 (by simp) fun N5 i1 i2 i3 => ?_
    simp (disch := omega) only [i2.cells, ↓SXd, SXu, slBounds, ↓sop, ↓aop, ↓reduceIte, LV.cells, AOp.dst, LV.I, LV.B, LV.U, LV.S, LV.nil, Nat.reduceEqDiff, Nat.reduceAdd, Nat.reduceMul, Nat.reduceSub, Nat.reduceLeDiff, Nat.reduceBEq, Nat.reduceDiv, Nat.reduceMod, Int.reduceToNat, Int.reduceLT, Int.reduceLE, Int.reduceAdd, Int.reduceSub, Int.reduceMul, Int.reduceEq, Int.reduceNeg, reduceCtorEq, resV, resAll, ARes.ev, LV.flat, ite_true, ite_false, exists_eq_left', exists_eq_left, keyOf, implies_true, fillC, capOf]
    exact fin hP3 eu (by omega) hcl i1 i3
  simp (disch := omega) only [e4.cell, ↓SXd, SXu, slBounds, ↓sop, ↓aop, ↓reduceIte, LV.cells, AOp.dst, LV.I, LV.B, LV.U, LV.S, LV.nil, Nat.reduceEqDiff, Nat.reduceAdd, Nat.reduceMul, Nat.reduceSub, Nat.reduceLeDiff, Nat.reduceBEq, Nat.reduceDiv, Nat.reduceMod, Int.reduceToNat, Int.reduceLT, Int.reduceLE, Int.reduceAdd, Int.reduceSub, Int.reduceMul, Int.reduceEq, Int.reduceNeg, reduceCtorEq, resV, resAll, ARes.ev, LV.flat, ite_true, ite_false, exists_eq_left', exists_eq_left, keyOf, implies_true, fillC, capOf]
  refine callR_of (d_someHeapK hd2.1 (by omega)) ?_
  rintro _ N4 ⟨⟨ds, v, rfl, hv, hvl, hdl, hHK⟩, hd4⟩
  have hHd := hHK hS
  have g2 := hd4.live e2 (by omega)
  have g4 := hd4.live e4 (by omega)
  have gu := hd4.live eu (by have := hd2.1.ne3 eu; omega)
  have hP4 := hd4.pre hP3 (by omega)
  have hl4 := hd4.2.1
  simp (disch := omega) only [↓SXd, SXu, slBounds, ↓sop, ↓aop, ↓reduceIte, LV.cells, AOp.dst, LV.I, LV.B, LV.U, LV.S, LV.nil, Nat.reduceEqDiff, Nat.reduceAdd, Nat.reduceMul, Nat.reduceSub, Nat.reduceLeDiff, Nat.reduceBEq, Nat.reduceDiv, Nat.reduceMod, Int.reduceToNat, Int.reduceLT, Int.reduceLE, Int.reduceAdd, Int.reduceSub, Int.reduceMul, Int.reduceEq, Int.reduceNeg, reduceCtorEq, resV, resAll, ARes.ev, LV.flat, ite_true, ite_false, exists_eq_left', exists_eq_left, keyOf, implies_true, fillC, capOf]
  refine callR_of (h_sLeastStair hv (by omega)) ?_
  rintro _ N5 ⟨hr, hp5⟩
  rcases hr with ⟨_, w, rfl, hw, hwl⟩ | ⟨hno, _⟩
  rotate_left
  · exact absurd hHd hno
  have hq2 : HeapOK x y z (leastOf x y z ds).cs := pick_ok hS _
  rw [show (leastOf x y z ds).x = x from rfl, show (leastOf x y z ds).y = y from rfl, show (leastOf x y z ds).z = z from rfl]
  have hin : ∀ c ∈ (leastOf x y z ds).cs, c.inBox x y z := fun c hc => hq2.mem hc
  have hll := hq2.len
  generalize (leastOf x y z ds).cs = es at hw hin hll ⊢
  have hP5 := hP4.trans hp5
  have hl5 := hp5.1
  have hwl2 := hw.lt
  have hg4 := g4.lt
  simp (disch := omega) only [splice, ↓SXd, SXu, slBounds, ↓sop, ↓aop, ↓reduceIte, LV.cells, AOp.dst, LV.I, LV.B, LV.U, LV.S, LV.nil, Nat.reduceEqDiff, Nat.reduceAdd, Nat.reduceMul, Nat.reduceSub, Nat.reduceLeDiff, Nat.reduceBEq, Nat.reduceDiv, Nat.reduceMod, Int.reduceToNat, Int.reduceLT, Int.reduceLE, Int.reduceAdd, Int.reduceSub, Int.reduceMul, Int.reduceEq, Int.reduceNeg, reduceCtorEq, resV, resAll, ARes.ev, LV.flat, ite_true, ite_false, exists_eq_left', exists_eq_left, keyOf, implies_true, fillC, capOf]
  refine ev_loop (fun m fr N => ∃ (i q : Nat) (fs : List Cell), i + m = es.length ∧ HeapOK x y z fs ∧ Pre M N ∧ Live N M.length (.row [.I 0, .I 0, .I 0, .nil] true 0) ∧ Live N m4 (.row [.I x, .I y, .I z, .ref q 0 fs.length] true 0) ∧ Live N q (.row (triL fs) true 3) ∧ M.length < q ∧ Live N N5.length (.row [.I x, .I y, .I z, .ref w 0 es.length] true 0) ∧ Live N w (.row (triL es) true 3) ∧
    fr 2 = .ptr M.length 0 ∧ fr 4 = .ptr m4 0 ∧ fr 5 = .ptr N5.length 0 ∧ fr 7 = .I i) es.length
    ⟨0, u, cs, by omega, hH, hP5.trans (Pre.app _ _), (g2.pre hp5).app, (g4.pre hp5).app, (gu.pre hp5).app, by omega, Live.new, hw.app, rfl, rfl, rfl, rfl⟩ ?_
  rintro m fr N ⟨i, q, fs, hi, hHf, hP, b2, b4, bq, hq, b5, bw, f2, f4, f5, f7⟩
  have hfl := hHf.len
  have hPl := hP.1
  have hb4 := b4.lt
  have hb5 := b5.lt
  simp (disch := omega) only [f2, f4, f5, f7, b5.cell, ↓SXd, SXu, slBounds, ↓sop, ↓aop, ↓reduceIte, LV.cells, AOp.dst, LV.I, LV.B, LV.U, LV.S, LV.nil, Nat.reduceEqDiff, Nat.reduceAdd, Nat.reduceMul, Nat.reduceSub, Nat.reduceLeDiff, Nat.reduceBEq, Nat.reduceDiv, Nat.reduceMod, Int.reduceToNat, Int.reduceLT, Int.reduceLE, Int.reduceAdd, Int.reduceSub, Int.reduceMul, Int.reduceEq, Int.reduceNeg, reduceCtorEq, resV, resAll, ARes.ev, LV.flat, ite_true, ite_false, exists_eq_left', exists_eq_left, keyOf, implies_true, fillC, capOf]
  refine condC_dec (fun hlt => ?_) (fun hlt => ?_)
  rotate_left
  · simp (disch := omega) only [f2, f4, f5, f7, b4.cells, ↓SXd, SXu, slBounds, ↓sop, ↓aop, ↓reduceIte, LV.cells, AOp.dst, LV.I, LV.B, LV.U, LV.S, LV.nil, Nat.reduceEqDiff, Nat.reduceAdd, Nat.reduceMul, Nat.reduceSub, Nat.reduceLeDiff, Nat.reduceBEq, Nat.reduceDiv, Nat.reduceMod, Int.reduceToNat, Int.reduceLT, Int.reduceLE, Int.reduceAdd, Int.reduceSub, Int.reduceMul, Int.reduceEq, Int.reduceNeg, reduceCtorEq, resV, resAll, ARes.ev, LV.flat, ite_true, ite_false, exists_eq_left', exists_eq_left, keyOf, implies_true, fillC, capOf]
    refine memK_box b2 (by simp) fun N9 i1 i2 i3 => ?_
    simp (disch := omega) only [i2.cells, f2, f4, f5, f7, ↓SXd, SXu, slBounds, ↓sop, ↓aop, ↓reduceIte, LV.cells, AOp.dst, LV.I, LV.B, LV.U, LV.S, LV.nil, Nat.reduceEqDiff, Nat.reduceAdd, Nat.reduceMul, Nat.reduceSub, Nat.reduceLeDiff, Nat.reduceBEq, Nat.reduceDiv, Nat.reduceMod, Int.reduceToNat, Int.reduceLT, Int.reduceLE, Int.reduceAdd, Int.reduceSub, Int.reduceMul, Int.reduceEq, Int.reduceNeg, reduceCtorEq, resV, resAll, ARes.ev, LV.flat, ite_true, ite_false, exists_eq_left', exists_eq_left, keyOf, implies_true, fillC, capOf]
    exact fin hP bq (by omega) (by omega) i1 i3
  have hil : i < es.length := by omega
  have hci := bw.tri0 hil
  have hcin := hin _ (getD_mem' (d := default) hil)
  generalize es.getD i default = c at hci hcin
  simp (disch := omega) only [f2, f4, f5, f7, b4.cells, b5.cell, hci, Cell.row, ↓SXd, SXu, slBounds, ↓sop, ↓aop, ↓reduceIte, LV.cells, AOp.dst, LV.I, LV.B, LV.U, LV.S, LV.nil, Nat.reduceEqDiff, Nat.reduceAdd, Nat.reduceMul, Nat.reduceSub, Nat.reduceLeDiff, Nat.reduceBEq, Nat.reduceDiv, Nat.reduceMod, Int.reduceToNat, Int.reduceLT, Int.reduceLE, Int.reduceAdd, Int.reduceSub, Int.reduceMul, Int.reduceEq, Int.reduceNeg, reduceCtorEq, resV, resAll, ARes.ev, LV.flat, ite_true, ite_false, exists_eq_left', exists_eq_left, keyOf, implies_true, fillC, capOf]
  refine callH_of (h_l2With (c := c) bq hHf hcin) ?_
  intro w2 N8 hw2 hp8 hb8
  have hl8 := hp8.1
  have hbw := bw.lt
  simp (disch := omega) only [f2, f4, f5, f7, ↓SXd, SXu, slBounds, ↓sop, ↓aop, ↓reduceIte, LV.cells, AOp.dst, LV.I, LV.B, LV.U, LV.S, LV.nil, Nat.reduceEqDiff, Nat.reduceAdd, Nat.reduceMul, Nat.reduceSub, Nat.reduceLeDiff, Nat.reduceBEq, Nat.reduceDiv, Nat.reduceMod, Int.reduceToNat, Int.reduceLT, Int.reduceLE, Int.reduceAdd, Int.reduceSub, Int.reduceMul, Int.reduceEq, Int.reduceNeg, reduceCtorEq, resV, resAll, ARes.ev, LV.flat, ite_true, ite_false, exists_eq_left', exists_eq_left, keyOf, implies_true, fillC, capOf]
  refine memK_box (b4.pre hp8) (by simp) fun N9 k1 k2 k3 => ?_
  simp (disch := omega) only [f2, f4, f5, f7, ↓SXd, SXu, slBounds, ↓sop, ↓aop, ↓reduceIte, LV.cells, AOp.dst, LV.I, LV.B, LV.U, LV.S, LV.nil, Nat.reduceEqDiff, Nat.reduceAdd, Nat.reduceMul, Nat.reduceSub, Nat.reduceLeDiff, Nat.reduceBEq, Nat.reduceDiv, Nat.reduceMod, Int.reduceToNat, Int.reduceLT, Int.reduceLE, Int.reduceAdd, Int.reduceSub, Int.reduceMul, Int.reduceEq, Int.reduceNeg, reduceCtorEq, resV, resAll, ARes.ev, LV.flat, ite_true, ite_false, exists_eq_left', exists_eq_left, keyOf, implies_true, fillC, capOf]
  exact ⟨m - 1, by omega, i + 1, w2, _, by omega, pick_ok hS _, pre_step (hP.trans hp8) (by omega) (j := 0) k1 k3, live_step (b2.pre hp8) (by omega) k3, k2, live_step hb8 (by omega) k3, by omega, live_step (b5.pre hp8) (by omega) k3, live_step (bw.pre hp8) (bw.ne_esz b4 (by decide)) k3, f2, f4, f5, eqI (natI _)⟩
end
end Go.Ab

/- The abstract code of some functions (written by a program of mine from the translation, by way of prepF). -/
namespace Go.Ab.C
open Go.Ab
def laws_vHeap : AFn :=
 ⟨2, 31, [.tmp 4],
 .seq (.ops [(none, .box 2 (.t 0)),
 (none, .box 3 (.t 1)),
 (none, .mv 4 (.c (.B false)))])
 (.seq (.ops [(none, .fieldAddr 5 (.t 2) 0),
 (none, .load1 6 (.t 5)),
 (none, .fieldAddr 7 (.t 3) 0),
 (none, .load1 8 (.t 7)),
 (none, .bin 9 .eql (.t 6) (.t 8)),
 (none, .mv 10 (.t 9)),
 (some (10, true), .fieldAddr 11 (.t 2) 1),
 (some (10, true), .load1 12 (.t 11)),
 (some (10, true), .fieldAddr 13 (.t 3) 1),
 (some (10, true), .load1 14 (.t 13)),
 (some (10, true), .bin 15 .eql (.t 12) (.t 14)),
 (none, .pick 16 (.t 10) (.t 15) (.c (.B false))),
 (none, .mv 17 (.t 16)),
 (some (17, true), .fieldAddr 18 (.t 2) 2),
 (some (17, true), .load1 19 (.t 18)),
 (some (17, true), .fieldAddr 20 (.t 3) 2),
 (some (17, true), .load1 21 (.t 20)),
 (some (17, true), .bin 22 .eql (.t 19) (.t 21)),
 (none, .pick 23 (.t 17) (.t 22) (.c (.B false))),
 (none, .mv 24 (.t 23)),
 (some (24, true), .fieldAddr 25 (.t 2) 3),
 (some (24, true), .load1 26 (.t 25)),
 (some (24, true), .fieldAddr 27 (.t 3) 3),
 (some (24, true), .load1 28 (.t 27)),
 (some (24, true), .call (some 29) F.laws_vCells [(.t 26), (.t 28)]),
 (none, .pick 30 (.t 24) (.t 29) (.c (.B false))),
 (none, .mv 4 (.t 30))])
 (.ret))⟩
def laws_vWithin : AFn :=
 ⟨2, 19, [.tmp 4],
 .seq (.ops [(none, .mv 4 (.c (.B false)))])
 (.seq (.seq (.ops [(none, .mv 5 (.c (.I 0)))])
 (.block 0 (.loop (.seq (.seq (.ops [(none, .mv 6 (.t 5)),
 (none, .mv 7 (.t 0)),
 (none, .len 8 (.t 7)),
 (none, .bin 9 .lss (.t 6) (.t 8))])
 (.cond (.t 9) (.skip)
 (.exit 0)))
 (.seq (.block 1 (.seq (.ops [(none, .mv 12 (.t 1)),
 (none, .mv 13 (.t 0)),
 (none, .mv 14 (.t 5)),
 (none, .idxS 15 3 (.t 13) (.t 14)),
 (none, .loadN 16 3 (.t 15)),
 (none, .call (some 17) F.laws_vIn [(.t 12), (.t 16)]),
 (none, .un 18 .not (.t 17))])
 (.cond (.t 18) (.seq (.ops [(none, .mv 4 (.c (.B false)))])
 (.ret))
 (.skip))))
 (.ops [(none, .mv 10 (.t 5)),
 (none, .bin 11 .add (.t 10) (.c (.I 1))),
 (none, .mv 5 (.t 11))]))))))
 (.seq (.ops [(none, .mv 4 (.c (.B true)))])
 (.ret)))⟩
end Go.Ab.C

/- That the program has this code. -/
namespace Go.Ab.K
open Go Go.Ab
theorem laws_vHeap : prepF Go.Proofs.Try.prog F.laws_vHeap = some C.laws_vHeap := by kernel_rfl
theorem laws_vWithin : prepF Go.Proofs.Try.prog F.laws_vWithin = some C.laws_vWithin := by kernel_rfl
end Go.Ab.K

/- Contracts: the law of shadows' helpers. -/
namespace Go.Ab
open Go
set_option linter.unusedSimpArgs false
set_option linter.unusedVariables false
set_option maxRecDepth 20000

theorem k_vHeap {g h : Hp} {v v' : LV} {M : Mem} (hg : CellsV M v g.cs) (hh : CellsV M v' h.cs) (hn : g.cs.length ≤ 1000000000) (hn' : h.cs.length ≤ 1000000000) :
    CallsTo PG F.laws_vHeap [.agg [.I g.x, .I g.y, .I g.z, v], .agg [.I h.x, .I h.y, .I h.z, v']] M (.B (decide (g.dims = h.dims ∧ g.cs = h.cs))) M := by
  refine calls_run K.laws_vHeap rfl ?_
  by_cases h1 : g.x = h.x
  rotate_left
  · rw [decide_eq_false (fun e => h1 (congrArg Cell.a e.1))]
    simp (disch := omega) only [C.laws_vHeap, h1, ↓SXd, SXu, slBounds, ↓sop, ↓aop, ↓reduceIte, LV.cells, AOp.dst, LV.I, LV.B, LV.U, LV.S, LV.nil, Nat.reduceEqDiff, Nat.reduceAdd, Nat.reduceMul, Nat.reduceSub, Nat.reduceLeDiff, Nat.reduceBEq, Nat.reduceDiv, Nat.reduceMod, Int.reduceToNat, Int.reduceLT, Int.reduceLE, Int.reduceAdd, Int.reduceSub, Int.reduceMul, Int.reduceEq, Int.reduceNeg, reduceCtorEq, resV, resAll, ARes.ev, LV.flat, ite_true, ite_false, exists_eq_left', exists_eq_left, keyOf, implies_true, fillC, capOf]
    exact cmp_drop rfl
  by_cases h2 : g.y = h.y
  rotate_left
  · rw [decide_eq_false (fun e => h2 (congrArg Cell.b e.1))]
    simp (disch := omega) only [C.laws_vHeap, h1, h2, ↓SXd, SXu, slBounds, ↓sop, ↓aop, ↓reduceIte, LV.cells, AOp.dst, LV.I, LV.B, LV.U, LV.S, LV.nil, Nat.reduceEqDiff, Nat.reduceAdd, Nat.reduceMul, Nat.reduceSub, Nat.reduceLeDiff, Nat.reduceBEq, Nat.reduceDiv, Nat.reduceMod, Int.reduceToNat, Int.reduceLT, Int.reduceLE, Int.reduceAdd, Int.reduceSub, Int.reduceMul, Int.reduceEq, Int.reduceNeg, reduceCtorEq, resV, resAll, ARes.ev, LV.flat, ite_true, ite_false, exists_eq_left', exists_eq_left, keyOf, implies_true, fillC, capOf]
    exact cmp_drop rfl
  by_cases h3 : g.z = h.z
  rotate_left
  · rw [decide_eq_false (fun e => h3 (congrArg Cell.c e.1))]
    simp (disch := omega) only [C.laws_vHeap, h1, h2, h3, ↓SXd, SXu, slBounds, ↓sop, ↓aop, ↓reduceIte, LV.cells, AOp.dst, LV.I, LV.B, LV.U, LV.S, LV.nil, Nat.reduceEqDiff, Nat.reduceAdd, Nat.reduceMul, Nat.reduceSub, Nat.reduceLeDiff, Nat.reduceBEq, Nat.reduceDiv, Nat.reduceMod, Int.reduceToNat, Int.reduceLT, Int.reduceLE, Int.reduceAdd, Int.reduceSub, Int.reduceMul, Int.reduceEq, Int.reduceNeg, reduceCtorEq, resV, resAll, ARes.ev, LV.flat, ite_true, ite_false, exists_eq_left', exists_eq_left, keyOf, implies_true, fillC, capOf]
    exact cmp_drop rfl
  have hd : g.dims = h.dims := by unfold Hp.dims; rw [h1, h2, h3]
  simp (disch := omega) only [C.laws_vHeap, h1, h2, h3, ↓SXd, SXu, slBounds, ↓sop, ↓aop, ↓reduceIte, LV.cells, AOp.dst, LV.I, LV.B, LV.U, LV.S, LV.nil, Nat.reduceEqDiff, Nat.reduceAdd, Nat.reduceMul, Nat.reduceSub, Nat.reduceLeDiff, Nat.reduceBEq, Nat.reduceDiv, Nat.reduceMod, Int.reduceToNat, Int.reduceLT, Int.reduceLE, Int.reduceAdd, Int.reduceSub, Int.reduceMul, Int.reduceEq, Int.reduceNeg, reduceCtorEq, resV, resAll, ARes.ev, LV.flat, ite_true, ite_false, exists_eq_left', exists_eq_left, keyOf, implies_true, fillC, capOf]
  refine callK_of (k_vCells (hg.pre (Pre.app _ _)) (hh.pre (Pre.app _ _)) hn hn') ?_
  simp (disch := omega) only [↓SXd, SXu, slBounds, ↓sop, ↓aop, ↓reduceIte, LV.cells, AOp.dst, LV.I, LV.B, LV.U, LV.S, LV.nil, Nat.reduceEqDiff, Nat.reduceAdd, Nat.reduceMul, Nat.reduceSub, Nat.reduceLeDiff, Nat.reduceBEq, Nat.reduceDiv, Nat.reduceMod, Int.reduceToNat, Int.reduceLT, Int.reduceLE, Int.reduceAdd, Int.reduceSub, Int.reduceMul, Int.reduceEq, Int.reduceNeg, reduceCtorEq, resV, resAll, ARes.ev, LV.flat, ite_true, ite_false, exists_eq_left', exists_eq_left, keyOf, implies_true, fillC, capOf]
  rw [show decide (g.dims = h.dims ∧ g.cs = h.cs) = decide (g.cs = h.cs) from decide_eq_decide.2 ⟨fun e => e.2, fun e => ⟨hd, e⟩⟩]
  exact cmp_drop rfl
theorem k_vWithin {l l' : List Cell} {v v' : LV} {M : Mem} (h : CellsV M v l) (h' : CellsV M v' l') (hn : l.length ≤ 1000000000) (hn' : l'.length ≤ 1000000000) (hall : ∀ c ∈ l, c ∈ l') : CallsTo PG F.laws_vWithin [v, v'] M (.B true) M := by
  refine calls_run K.laws_vWithin rfl ?_
  have hv := h.lenV
  simp (disch := omega) only [C.laws_vWithin, ↓SXd, SXu, slBounds, ↓sop, ↓aop, ↓reduceIte, LV.cells, AOp.dst, LV.I, LV.B, LV.U, LV.S, LV.nil, Nat.reduceEqDiff, Nat.reduceAdd, Nat.reduceMul, Nat.reduceSub, Nat.reduceLeDiff, Nat.reduceBEq, Nat.reduceDiv, Nat.reduceMod, Int.reduceToNat, Int.reduceLT, Int.reduceLE, Int.reduceAdd, Int.reduceSub, Int.reduceMul, Int.reduceEq, Int.reduceNeg, reduceCtorEq, resV, resAll, ARes.ev, LV.flat, ite_true, ite_false, exists_eq_left', exists_eq_left, keyOf, implies_true, fillC, capOf]
  refine ev_loop (fun m fr M' => ∃ k : Nat, k + m = l.length ∧ M' = M ∧ fr 0 = v ∧ fr 1 = v' ∧ fr 5 = .I k) l.length ⟨0, by omega, rfl, rfl, rfl, rfl⟩ ?_
  rintro m fr M' ⟨k, hk, rfl, h0, h1, h5⟩
  simp (disch := omega) only [h0, h1, h5, hv, ↓SXd, SXu, slBounds, ↓sop, ↓aop, ↓reduceIte, LV.cells, AOp.dst, LV.I, LV.B, LV.U, LV.S, LV.nil, Nat.reduceEqDiff, Nat.reduceAdd, Nat.reduceMul, Nat.reduceSub, Nat.reduceLeDiff, Nat.reduceBEq, Nat.reduceDiv, Nat.reduceMod, Int.reduceToNat, Int.reduceLT, Int.reduceLE, Int.reduceAdd, Int.reduceSub, Int.reduceMul, Int.reduceEq, Int.reduceNeg, reduceCtorEq, resV, resAll, ARes.ev, LV.flat, ite_true, ite_false, exists_eq_left', exists_eq_left, keyOf, implies_true, fillC, capOf]
  refine condC_dec (fun hlt => ?_) (fun hlt => ?_)
  · obtain ⟨t, o, rfl, hg⟩ := h.at (k := k) (by omega)
    have hin := hall _ (getD_mem' (d := default) (show k < l.length by omega))
    simp (disch := omega) only [h0, h1, h5, hg, Cell.row, ↓SXd, SXu, slBounds, ↓sop, ↓aop, ↓reduceIte, LV.cells, AOp.dst, LV.I, LV.B, LV.U, LV.S, LV.nil, Nat.reduceEqDiff, Nat.reduceAdd, Nat.reduceMul, Nat.reduceSub, Nat.reduceLeDiff, Nat.reduceBEq, Nat.reduceDiv, Nat.reduceMod, Int.reduceToNat, Int.reduceLT, Int.reduceLE, Int.reduceAdd, Int.reduceSub, Int.reduceMul, Int.reduceEq, Int.reduceNeg, reduceCtorEq, resV, resAll, ARes.ev, LV.flat, ite_true, ite_false, exists_eq_left', exists_eq_left, keyOf, implies_true, fillC, capOf]
    refine callK_of (k_vIn (c := l.getD k default) h' hn') ?_
    simp (disch := omega) only [h0, h1, h5, hin, ↓SXd, SXu, slBounds, ↓sop, ↓aop, ↓reduceIte, LV.cells, AOp.dst, LV.I, LV.B, LV.U, LV.S, LV.nil, Nat.reduceEqDiff, Nat.reduceAdd, Nat.reduceMul, Nat.reduceSub, Nat.reduceLeDiff, Nat.reduceBEq, Nat.reduceDiv, Nat.reduceMod, Int.reduceToNat, Int.reduceLT, Int.reduceLE, Int.reduceAdd, Int.reduceSub, Int.reduceMul, Int.reduceEq, Int.reduceNeg, reduceCtorEq, resV, resAll, ARes.ev, LV.flat, ite_true, ite_false, exists_eq_left', exists_eq_left, keyOf, implies_true, fillC, capOf]
    exact ⟨m - 1, by omega, k + 1, by omega, rfl, h0, h1, eqI (natI _)⟩
  · simp (disch := omega) only [h0, h1, h5, ↓SXd, SXu, slBounds, ↓sop, ↓aop, ↓reduceIte, LV.cells, AOp.dst, LV.I, LV.B, LV.U, LV.S, LV.nil, Nat.reduceEqDiff, Nat.reduceAdd, Nat.reduceMul, Nat.reduceSub, Nat.reduceLeDiff, Nat.reduceBEq, Nat.reduceDiv, Nat.reduceMod, Int.reduceToNat, Int.reduceLT, Int.reduceLE, Int.reduceAdd, Int.reduceSub, Int.reduceMul, Int.reduceEq, Int.reduceNeg, reduceCtorEq, resV, resAll, ARes.ev, LV.flat, ite_true, ite_false, exists_eq_left', exists_eq_left, keyOf, implies_true, fillC, capOf]
    exact cmp_drop0 rfl
end Go.Ab

/- The abstract code of some functions (written by a program of mine from the translation, by way of prepF). -/
namespace Go.Ab.C
open Go.Ab
def laws_vCut : AFn :=
 ⟨2, 20, [.tmp 4],
 .seq (.ops [(none, .mv 4 (.c .nil))])
 (.seq (.seq (.ops [(none, .mv 5 (.t 1)),
 (none, .mv 6 (.t 0)),
 (none, .len 7 (.t 6)),
 (none, .bin 8 .gtr (.t 5) (.t 7))])
 (.cond (.t 8) (.ops [(none, .mv 9 (.t 0)),
 (none, .len 10 (.t 9)),
 (none, .mv 1 (.t 10))])
 (.skip)))
 (.seq (.ops [(none, .buildSl 11 0 1 [] []),
 (none, .mv 12 (.t 0)),
 (none, .mv 13 (.t 1)),
 (none, .slS 14 1 (.t 12) (some (.t 13)) none),
 (none, .append 15 1 1 (.t 11) (.t 14)),
 (none, .mv 16 (.t 1)),
 (none, .conv 17 .u8 (.t 16)),
 (none, .buildSl 18 1 1 [(.val (.int .u8 0))] [(0, 1, (.t 17))]),
 (none, .append 19 1 1 (.t 15) (.t 18)),
 (none, .mv 4 (.t 19))])
 (.ret)))⟩
end Go.Ab.C

/- That the program has this code. -/
namespace Go.Ab.K
open Go Go.Ab
theorem laws_vCut : prepF Go.Proofs.Try.prog F.laws_vCut = some C.laws_vCut := by kernel_rfl
end Go.Ab.K
