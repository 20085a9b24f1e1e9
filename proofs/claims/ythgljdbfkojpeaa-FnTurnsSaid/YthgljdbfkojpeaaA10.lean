/- Parts of the proof of FnTurnsSaid: LFnTurns Re. -/
import Derived.Test.YthgljdbfkojpeaaA4
import Derived.Test.YthgljdbfkojpeaaA8
import Derived.Test.YthgljdbfkojpeaaA9
import Derived.Test.YthgljdbfkojpeaaA6
set_option linter.all false
/- The law of turns. -/
namespace Go.Ab
open Go
set_option linter.unusedSimpArgs false
set_option linter.unusedVariables false
set_option maxRecDepth 20000

theorem turnOf_len {x y z k : Int} {cs : List Cell} : ((turnOf x y z cs k).getD Hp.none).cs.length ≤ 1000000000 := by
  unfold turnOf
  split
  · rename_i h
    have := (turnHp_ok h.1 (turns.getD k.toNat oneT)).len
    simp only [Option.getD_some]; omega
  · simp [Hp.none]
theorem g_TurnHeapE {x y z k : Int} {t : Nat} {w : Bool} {cs : List Cell} {M : Mem} (h : Live M t (.row (triL cs) w 3)) (hn : cs.length ≤ 1000000000) :
    CallsR PG F.impl_TurnHeap [.agg [.I x, .I y, .I z, .ref t 0 cs.length], .I k] M fun v N => ∃ wv, v = .tup [.agg [.I ((turnOf x y z cs k).getD Hp.none).x, .I ((turnOf x y z cs k).getD Hp.none).y, .I ((turnOf x y z cs k).getD Hp.none).z, wv], .B (turnOf x y z cs k).isSome] ∧ SlC N wv ((turnOf x y z cs k).getD Hp.none).cs ∧ Pre M N ∧ (HeapOK x y z cs ∧ In24 k → ∃ u, wv = .ref u 0 (turnHp x y z (turnN k.toNat) cs).cs.length ∧ Live N u (.row (triL (turnHp x y z (turnN k.toNat) cs).cs) true 3)) := by
  by_cases hV : HeapOK x y z cs ∧ In24 k
  · refine (g_TurnHeapV h hV.1 hV.2).mono ?_
    rintro v N ⟨⟨u, rfl, hu, hul⟩, hp⟩
    rw [turnOf_ok hV.1 hV.2]
    have e : turns.getD k.toNat oneT = turnN k.toNat := rfl
    rw [e] at hu ⊢
    generalize turnHp x y z (turnN k.toNat) cs = f at hu ⊢
    exact ⟨_, rfl, SlC.of hu, hp, fun _ => ⟨u, rfl, hu⟩⟩
  · rw [show turnOf x y z cs k = none from if_neg hV]
    refine callsR_run K.impl_TurnHeap rfl ?_
    simp (disch := omega) only [C.impl_TurnHeap, ↓SXd, SXu, slBounds, ↓sop, ↓aop, ↓reduceIte, LV.cells, AOp.dst, LV.I, LV.B, LV.U, LV.S, LV.nil, Nat.reduceEqDiff, Nat.reduceAdd, Nat.reduceMul, Nat.reduceSub, Nat.reduceLeDiff, Nat.reduceBEq, Nat.reduceDiv, Nat.reduceMod, Int.reduceToNat, Int.reduceLT, Int.reduceLE, Int.reduceAdd, Int.reduceSub, Int.reduceMul, Int.reduceEq, Int.reduceNeg, reduceCtorEq, resV, resAll, ARes.ev, LV.flat, ite_true, ite_false, exists_eq_left', exists_eq_left, keyOf, implies_true, fillC, capOf]
    refine callK_of (g_IsHeap (Has.app h.has) hn) ?_
    simp (disch := omega) only [↓SXd, SXu, slBounds, ↓sop, ↓aop, ↓reduceIte, LV.cells, AOp.dst, LV.I, LV.B, LV.U, LV.S, LV.nil, Nat.reduceEqDiff, Nat.reduceAdd, Nat.reduceMul, Nat.reduceSub, Nat.reduceLeDiff, Nat.reduceBEq, Nat.reduceDiv, Nat.reduceMod, Int.reduceToNat, Int.reduceLT, Int.reduceLE, Int.reduceAdd, Int.reduceSub, Int.reduceMul, Int.reduceEq, Int.reduceNeg, reduceCtorEq, resV, resAll, ARes.ev, LV.flat, ite_true, ite_false, exists_eq_left', exists_eq_left, keyOf, implies_true, fillC, capOf]
    by_cases hH : HeapOK x y z cs
    rotate_left
    · simp (disch := omega) only [hH, splice, ↓SXd, SXu, slBounds, ↓sop, ↓aop, ↓reduceIte, LV.cells, AOp.dst, LV.I, LV.B, LV.U, LV.S, LV.nil, Nat.reduceEqDiff, Nat.reduceAdd, Nat.reduceMul, Nat.reduceSub, Nat.reduceLeDiff, Nat.reduceBEq, Nat.reduceDiv, Nat.reduceMod, Int.reduceToNat, Int.reduceLT, Int.reduceLE, Int.reduceAdd, Int.reduceSub, Int.reduceMul, Int.reduceEq, Int.reduceNeg, reduceCtorEq, resV, resAll, ARes.ev, LV.flat, ite_true, ite_false, exists_eq_left', exists_eq_left, keyOf, implies_true, fillC, capOf]
      exact ⟨.nil, rfl, SlC.nil, Pre.app _ _, fun e => e.1.elim⟩
    have hk : ¬ In24 k := fun e => hV ⟨hH, e⟩
    simp (disch := omega) only [hH, ↓SXd, SXu, slBounds, ↓sop, ↓aop, ↓reduceIte, LV.cells, AOp.dst, LV.I, LV.B, LV.U, LV.S, LV.nil, Nat.reduceEqDiff, Nat.reduceAdd, Nat.reduceMul, Nat.reduceSub, Nat.reduceLeDiff, Nat.reduceBEq, Nat.reduceDiv, Nat.reduceMod, Int.reduceToNat, Int.reduceLT, Int.reduceLE, Int.reduceAdd, Int.reduceSub, Int.reduceMul, Int.reduceEq, Int.reduceNeg, reduceCtorEq, resV, resAll, ARes.ev, LV.flat, ite_true, ite_false, exists_eq_left', exists_eq_left, keyOf, implies_true, fillC, capOf]
    refine callK_of (g_isTurn) ?_
    simp (disch := omega) only [↓SXd, SXu, slBounds, ↓sop, ↓aop, ↓reduceIte, LV.cells, AOp.dst, LV.I, LV.B, LV.U, LV.S, LV.nil, Nat.reduceEqDiff, Nat.reduceAdd, Nat.reduceMul, Nat.reduceSub, Nat.reduceLeDiff, Nat.reduceBEq, Nat.reduceDiv, Nat.reduceMod, Int.reduceToNat, Int.reduceLT, Int.reduceLE, Int.reduceAdd, Int.reduceSub, Int.reduceMul, Int.reduceEq, Int.reduceNeg, reduceCtorEq, resV, resAll, ARes.ev, LV.flat, ite_true, ite_false, exists_eq_left', exists_eq_left, keyOf, implies_true, fillC, capOf]
    simp (disch := omega) only [hk, splice, ↓SXd, SXu, slBounds, ↓sop, ↓aop, ↓reduceIte, LV.cells, AOp.dst, LV.I, LV.B, LV.U, LV.S, LV.nil, Nat.reduceEqDiff, Nat.reduceAdd, Nat.reduceMul, Nat.reduceSub, Nat.reduceLeDiff, Nat.reduceBEq, Nat.reduceDiv, Nat.reduceMod, Int.reduceToNat, Int.reduceLT, Int.reduceLE, Int.reduceAdd, Int.reduceSub, Int.reduceMul, Int.reduceEq, Int.reduceNeg, reduceCtorEq, resV, resAll, ARes.ev, LV.flat, ite_true, ite_false, exists_eq_left', exists_eq_left, keyOf, implies_true, fillC, capOf]
    exact ⟨.nil, rfl, SlC.nil, Pre.app _ _, fun e => e.elim⟩
theorem l_FnTurns {t : Nat} {bs : List Nat} {M : Mem} (h : Bytes M t 0 bs) (hn : bs.length ≤ 9223372036854775807 ∧ ∀ b ∈ bs, b ≤ 255) :
    CallsR PG F.laws_FnTurns [.ref t 0 bs.length] M fun v _ => v = .B true := by
  refine callsR_run K.laws_FnTurns rfl ?_
  simp (disch := omega) only [C.laws_FnTurns, ↓SXd, SXu, slBounds, ↓sop, ↓aop, ↓reduceIte, LV.cells, AOp.dst, LV.I, LV.B, LV.U, LV.S, LV.nil, Nat.reduceEqDiff, Nat.reduceAdd, Nat.reduceMul, Nat.reduceSub, Nat.reduceLeDiff, Nat.reduceBEq, Nat.reduceDiv, Nat.reduceMod, Int.reduceToNat, Int.reduceLT, Int.reduceLE, Int.reduceAdd, Int.reduceSub, Int.reduceMul, Int.reduceEq, Int.reduceNeg, reduceCtorEq, resV, resAll, ARes.ev, LV.flat, ite_true, ite_false, exists_eq_left', exists_eq_left, keyOf, implies_true, fillC, capOf]
  refine callK_of (k_rBig hn.1) ?_
  simp (disch := omega) only [↓SXd, SXu, slBounds, ↓sop, ↓aop, ↓reduceIte, LV.cells, AOp.dst, LV.I, LV.B, LV.U, LV.S, LV.nil, Nat.reduceEqDiff, Nat.reduceAdd, Nat.reduceMul, Nat.reduceSub, Nat.reduceLeDiff, Nat.reduceBEq, Nat.reduceDiv, Nat.reduceMod, Int.reduceToNat, Int.reduceLT, Int.reduceLE, Int.reduceAdd, Int.reduceSub, Int.reduceMul, Int.reduceEq, Int.reduceNeg, reduceCtorEq, resV, resAll, ARes.ev, LV.flat, ite_true, ite_false, exists_eq_left', exists_eq_left, keyOf, implies_true, fillC, capOf]
  by_cases hbig : (65536 : Int) < (bs.length : Nat)
  · simp (disch := omega) only [hbig, ↓SXd, SXu, slBounds, ↓sop, ↓aop, ↓reduceIte, LV.cells, AOp.dst, LV.I, LV.B, LV.U, LV.S, LV.nil, Nat.reduceEqDiff, Nat.reduceAdd, Nat.reduceMul, Nat.reduceSub, Nat.reduceLeDiff, Nat.reduceBEq, Nat.reduceDiv, Nat.reduceMod, Int.reduceToNat, Int.reduceLT, Int.reduceLE, Int.reduceAdd, Int.reduceSub, Int.reduceMul, Int.reduceEq, Int.reduceNeg, reduceCtorEq, resV, resAll, ARes.ev, LV.flat, ite_true, ite_false, exists_eq_left', exists_eq_left, keyOf, implies_true, fillC, capOf]
    rfl
  have hl : bs.length ≤ 1000000000 := by omega
  simp (disch := omega) only [hbig, ↓SXd, SXu, slBounds, ↓sop, ↓aop, ↓reduceIte, LV.cells, AOp.dst, LV.I, LV.B, LV.U, LV.S, LV.nil, Nat.reduceEqDiff, Nat.reduceAdd, Nat.reduceMul, Nat.reduceSub, Nat.reduceLeDiff, Nat.reduceBEq, Nat.reduceDiv, Nat.reduceMod, Int.reduceToNat, Int.reduceLT, Int.reduceLE, Int.reduceAdd, Int.reduceSub, Int.reduceMul, Int.reduceEq, Int.reduceNeg, reduceCtorEq, resV, resAll, ARes.ev, LV.flat, ite_true, ite_false, exists_eq_left', exists_eq_left, keyOf, implies_true, fillC, capOf]
  refine callR_of (d_DrawTurnHeap h hn.2 hl) ?_
  rintro _ N1 ⟨⟨_, k, rfl, x, y, z, cs, u, rfl, hu, hul, hcl⟩, hp1⟩
  simp (disch := omega) only [splice, ↓SXd, SXu, slBounds, ↓sop, ↓aop, ↓reduceIte, LV.cells, AOp.dst, LV.I, LV.B, LV.U, LV.S, LV.nil, Nat.reduceEqDiff, Nat.reduceAdd, Nat.reduceMul, Nat.reduceSub, Nat.reduceLeDiff, Nat.reduceBEq, Nat.reduceDiv, Nat.reduceMod, Int.reduceToNat, Int.reduceLT, Int.reduceLE, Int.reduceAdd, Int.reduceSub, Int.reduceMul, Int.reduceEq, Int.reduceNeg, reduceCtorEq, resV, resAll, ARes.ev, LV.flat, ite_true, ite_false, exists_eq_left', exists_eq_left, keyOf, implies_true, fillC, capOf]
  have hcn : cs.length ≤ 1000000000 := by omega
  have b3 : Live (N1 ++ [some (.row [.I x, .I y, .I z, .ref u 0 cs.length] true 0)]) N1.length (.row [.I x, .I y, .I z, .ref u 0 cs.length] true 0) := Live.new
  have T1 := hu.app (L := [some (.row [.I x, .I y, .I z, .ref u 0 cs.length] true 0)])
  have hP1 : Pre M (N1 ++ [some (.row [.I x, .I y, .I z, .ref u 0 cs.length] true 0)]) := hp1.trans (Pre.app _ _)
  generalize N1.length = m3 at b3 ⊢
  generalize N1 ++ [some (Blk.row [.I x, .I y, .I z, .ref u 0 cs.length] true 0)] = N1' at b3 T1 hP1 ⊢
  have hGl := turnOf_len (x := x) (y := y) (z := z) (cs := cs) (k := k)
  have hGf : HeapOK x y z cs ∧ In24 k → (turnOf x y z cs k).getD Hp.none = turnHp x y z (turnN k.toNat) cs ∧ (turnOf x y z cs k).isSome = true := fun hV => by rw [turnOf_ok hV.1 hV.2]; exact ⟨rfl, rfl⟩
  have hGn : ¬ (HeapOK x y z cs ∧ In24 k) → (turnOf x y z cs k).isSome = false := fun hV => by rw [show turnOf x y z cs k = none from if_neg hV]; rfl
  refine callR_of (g_TurnHeapE T1 hcn) ?_
  rintro _ N2 ⟨w5, rfl, hw5, hp2, hx5⟩
  have hsT := h_sTurnHeap (x := x) (y := y) (z := z) (k := k) (T1.pre (hp2.trans (Pre.app _ _)) : Live (N2 ++ [some (.row [.I ((turnOf x y z cs k).getD Hp.none).x, .I ((turnOf x y z cs k).getD Hp.none).y, .I ((turnOf x y z cs k).getD Hp.none).z, w5] true 0)]) u _) hcn
  generalize hG : (turnOf x y z cs k).getD Hp.none = G at hw5 hGl hGf hsT ⊢
  have b5 : Live (N2 ++ [some (.row [.I G.x, .I G.y, .I G.z, w5] true 0)]) N2.length (.row [.I G.x, .I G.y, .I G.z, w5] true 0) := Live.new
  have W5 := hw5.pre (Pre.app N2 [some (.row [.I G.x, .I G.y, .I G.z, w5] true 0)])
  have hp2' : Pre N1' (N2 ++ [some (.row [.I G.x, .I G.y, .I G.z, w5] true 0)]) := hp2.trans (Pre.app _ _)
  have hpx : Pre N2 (N2 ++ [some (.row [.I G.x, .I G.y, .I G.z, w5] true 0)]) := Pre.app _ _
  have b32 := b3.pre hp2'
  simp (disch := omega) only [splice, b32.cells, ↓SXd, SXu, slBounds, ↓sop, ↓aop, ↓reduceIte, LV.cells, AOp.dst, LV.I, LV.B, LV.U, LV.S, LV.nil, Nat.reduceEqDiff, Nat.reduceAdd, Nat.reduceMul, Nat.reduceSub, Nat.reduceLeDiff, Nat.reduceBEq, Nat.reduceDiv, Nat.reduceMod, Int.reduceToNat, Int.reduceLT, Int.reduceLE, Int.reduceAdd, Int.reduceSub, Int.reduceMul, Int.reduceEq, Int.reduceNeg, reduceCtorEq, resV, resAll, ARes.ev, LV.flat, ite_true, ite_false, exists_eq_left', exists_eq_left, keyOf, implies_true, fillC, capOf]
  generalize N2.length = m5 at b5 ⊢
  generalize N2 ++ [some (Blk.row [.I G.x, .I G.y, .I G.z, w5] true 0)] = N2' at b5 W5 hp2' b32 hsT hpx ⊢
  refine callR_of hsT ?_
  rintro _ N3 ⟨w7, rfl, hw7, hwn7, hp3⟩
  rw [hG] at hw7 ⊢
  have b7 : Live (N3 ++ [some (.row [.I G.x, .I G.y, .I G.z, w7] true 0)]) N3.length (.row [.I G.x, .I G.y, .I G.z, w7] true 0) := Live.new
  have W7 := hw7.pre (Pre.app N3 [some (.row [.I G.x, .I G.y, .I G.z, w7] true 0)])
  have hp3' : Pre N2' (N3 ++ [some (.row [.I G.x, .I G.y, .I G.z, w7] true 0)]) := hp3.trans (Pre.app _ _)
  have b53 := b5.pre hp3'
  simp (disch := omega) only [splice, beq_self_eq_true, Bool.not_true, b53.cells, ↓SXd, SXu, slBounds, ↓sop, ↓aop, ↓reduceIte, LV.cells, AOp.dst, LV.I, LV.B, LV.U, LV.S, LV.nil, Nat.reduceEqDiff, Nat.reduceAdd, Nat.reduceMul, Nat.reduceSub, Nat.reduceLeDiff, Nat.reduceBEq, Nat.reduceDiv, Nat.reduceMod, Int.reduceToNat, Int.reduceLT, Int.reduceLE, Int.reduceAdd, Int.reduceSub, Int.reduceMul, Int.reduceEq, Int.reduceNeg, reduceCtorEq, resV, resAll, ARes.ev, LV.flat, ite_true, ite_false, exists_eq_left', exists_eq_left, keyOf, implies_true, fillC, capOf]
  generalize N3.length = m7 at b7 ⊢
  generalize N3 ++ [some (Blk.row [.I G.x, .I G.y, .I G.z, w7] true 0)] = N3' at b7 W7 hp3' b53 ⊢
  have hrh := k_rHeap (g := G) (h := G) (W5.pre hp3').v W7.v hGl hGl
  rw [decide_eq_true (⟨rfl, rfl⟩ : G.dims = G.dims ∧ G.cs = G.cs)] at hrh
  refine callK_of hrh ?_
  simp (disch := omega) only [↓SXd, SXu, slBounds, ↓sop, ↓aop, ↓reduceIte, LV.cells, AOp.dst, LV.I, LV.B, LV.U, LV.S, LV.nil, Nat.reduceEqDiff, Nat.reduceAdd, Nat.reduceMul, Nat.reduceSub, Nat.reduceLeDiff, Nat.reduceBEq, Nat.reduceDiv, Nat.reduceMod, Int.reduceToNat, Int.reduceLT, Int.reduceLE, Int.reduceAdd, Int.reduceSub, Int.reduceMul, Int.reduceEq, Int.reduceNeg, reduceCtorEq, resV, resAll, ARes.ev, LV.flat, ite_true, ite_false, exists_eq_left', exists_eq_left, keyOf, implies_true, fillC, capOf]
  have hP3 : Pre M N3' := hP1.trans (hp2'.trans hp3')
  refine callR_of (d_DrawTurnBehind (h.pre hP3) hn.2 hl) ?_
  rintro _ N4 ⟨⟨p, q, rfl⟩, hp4⟩
  simp (disch := omega) only [↓SXd, SXu, slBounds, ↓sop, ↓aop, ↓reduceIte, LV.cells, AOp.dst, LV.I, LV.B, LV.U, LV.S, LV.nil, Nat.reduceEqDiff, Nat.reduceAdd, Nat.reduceMul, Nat.reduceSub, Nat.reduceLeDiff, Nat.reduceBEq, Nat.reduceDiv, Nat.reduceMod, Int.reduceToNat, Int.reduceLT, Int.reduceLE, Int.reduceAdd, Int.reduceSub, Int.reduceMul, Int.reduceEq, Int.reduceNeg, reduceCtorEq, resV, resAll, ARes.ev, LV.flat, ite_true, ite_false, exists_eq_left', exists_eq_left, keyOf, implies_true, fillC, capOf]
  refine callK_of g_TurnBehind ?_
  simp (disch := omega) only [↓SXd, SXu, slBounds, ↓sop, ↓aop, ↓reduceIte, LV.cells, AOp.dst, LV.I, LV.B, LV.U, LV.S, LV.nil, Nat.reduceEqDiff, Nat.reduceAdd, Nat.reduceMul, Nat.reduceSub, Nat.reduceLeDiff, Nat.reduceBEq, Nat.reduceDiv, Nat.reduceMod, Int.reduceToNat, Int.reduceLT, Int.reduceLE, Int.reduceAdd, Int.reduceSub, Int.reduceMul, Int.reduceEq, Int.reduceNeg, reduceCtorEq, resV, resAll, ARes.ev, LV.flat, ite_true, ite_false, exists_eq_left', exists_eq_left, keyOf, implies_true, fillC, capOf]
  refine callK_of h_sTurnBehind ?_
  simp (disch := omega) only [beq_self_eq_true, Bool.not_true, ↓SXd, SXu, slBounds, ↓sop, ↓aop, ↓reduceIte, LV.cells, AOp.dst, LV.I, LV.B, LV.U, LV.S, LV.nil, Nat.reduceEqDiff, Nat.reduceAdd, Nat.reduceMul, Nat.reduceSub, Nat.reduceLeDiff, Nat.reduceBEq, Nat.reduceDiv, Nat.reduceMod, Int.reduceToNat, Int.reduceLT, Int.reduceLE, Int.reduceAdd, Int.reduceSub, Int.reduceMul, Int.reduceEq, Int.reduceNeg, reduceCtorEq, resV, resAll, ARes.ev, LV.flat, ite_true, ite_false, exists_eq_left', exists_eq_left, keyOf, implies_true, fillC, capOf]
  refine callR_of (d_DrawTurnBack (h.pre (hP3.trans hp4)) hn.2 hl) ?_
  rintro _ N5 ⟨⟨m, rfl⟩, hp5⟩
  simp (disch := omega) only [↓SXd, SXu, slBounds, ↓sop, ↓aop, ↓reduceIte, LV.cells, AOp.dst, LV.I, LV.B, LV.U, LV.S, LV.nil, Nat.reduceEqDiff, Nat.reduceAdd, Nat.reduceMul, Nat.reduceSub, Nat.reduceLeDiff, Nat.reduceBEq, Nat.reduceDiv, Nat.reduceMod, Int.reduceToNat, Int.reduceLT, Int.reduceLE, Int.reduceAdd, Int.reduceSub, Int.reduceMul, Int.reduceEq, Int.reduceNeg, reduceCtorEq, resV, resAll, ARes.ev, LV.flat, ite_true, ite_false, exists_eq_left', exists_eq_left, keyOf, implies_true, fillC, capOf]
  refine callK_of g_TurnBack ?_
  simp (disch := omega) only [↓SXd, SXu, slBounds, ↓sop, ↓aop, ↓reduceIte, LV.cells, AOp.dst, LV.I, LV.B, LV.U, LV.S, LV.nil, Nat.reduceEqDiff, Nat.reduceAdd, Nat.reduceMul, Nat.reduceSub, Nat.reduceLeDiff, Nat.reduceBEq, Nat.reduceDiv, Nat.reduceMod, Int.reduceToNat, Int.reduceLT, Int.reduceLE, Int.reduceAdd, Int.reduceSub, Int.reduceMul, Int.reduceEq, Int.reduceNeg, reduceCtorEq, resV, resAll, ARes.ev, LV.flat, ite_true, ite_false, exists_eq_left', exists_eq_left, keyOf, implies_true, fillC, capOf]
  refine callK_of h_sTurnBack ?_
  simp (disch := omega) only [beq_self_eq_true, Bool.not_true, ↓SXd, SXu, slBounds, ↓sop, ↓aop, ↓reduceIte, LV.cells, AOp.dst, LV.I, LV.B, LV.U, LV.S, LV.nil, Nat.reduceEqDiff, Nat.reduceAdd, Nat.reduceMul, Nat.reduceSub, Nat.reduceLeDiff, Nat.reduceBEq, Nat.reduceDiv, Nat.reduceMod, Int.reduceToNat, Int.reduceLT, Int.reduceLE, Int.reduceAdd, Int.reduceSub, Int.reduceMul, Int.reduceEq, Int.reduceNeg, reduceCtorEq, resV, resAll, ARes.ev, LV.flat, ite_true, ite_false, exists_eq_left', exists_eq_left, keyOf, implies_true, fillC, capOf]
  refine callK_of g_TurnOrder ?_
  simp (disch := omega) only [↓SXd, SXu, slBounds, ↓sop, ↓aop, ↓reduceIte, LV.cells, AOp.dst, LV.I, LV.B, LV.U, LV.S, LV.nil, Nat.reduceEqDiff, Nat.reduceAdd, Nat.reduceMul, Nat.reduceSub, Nat.reduceLeDiff, Nat.reduceBEq, Nat.reduceDiv, Nat.reduceMod, Int.reduceToNat, Int.reduceLT, Int.reduceLE, Int.reduceAdd, Int.reduceSub, Int.reduceMul, Int.reduceEq, Int.reduceNeg, reduceCtorEq, resV, resAll, ARes.ev, LV.flat, ite_true, ite_false, exists_eq_left', exists_eq_left, keyOf, implies_true, fillC, capOf]
  refine callK_of h_sTurnOrder ?_
  have hob : (ordOf m).isSome = (backOf m).isSome := by
    unfold ordOf backOf
    split <;> rfl
  have hPA : Pre N1' N5 := hp2'.trans (hp3'.trans (hp4.trans hp5))
  have hPB : Pre N2' N5 := hp3'.trans (hp4.trans hp5)
  have b3A := b3.pre hPA
  have T1A := T1.pre hPA
  have b5A := b5.pre hPB
  have W5A := W5.pre hPB
  simp (disch := omega) only [hob, beq_self_eq_true, Bool.not_true, ↓SXd, SXu, slBounds, ↓sop, ↓aop, ↓reduceIte, LV.cells, AOp.dst, LV.I, LV.B, LV.U, LV.S, LV.nil, Nat.reduceEqDiff, Nat.reduceAdd, Nat.reduceMul, Nat.reduceSub, Nat.reduceLeDiff, Nat.reduceBEq, Nat.reduceDiv, Nat.reduceMod, Int.reduceToNat, Int.reduceLT, Int.reduceLE, Int.reduceAdd, Int.reduceSub, Int.reduceMul, Int.reduceEq, Int.reduceNeg, reduceCtorEq, resV, resAll, ARes.ev, LV.flat, ite_true, ite_false, exists_eq_left', exists_eq_left, keyOf, implies_true, fillC, capOf]
  refine cond_cut (fun fr' M' => M' = N5 ∧ fr' 3 = .ptr m3 0 ∧ fr' 5 = .ptr m5 0 ∧ fr' 6 = .B (turnOf x y z cs k).isSome ∧ fr' 9 = .I p ∧ fr' 10 = .I q ∧ fr' 11 = .I ((tbOf p q).getD 0 : Nat) ∧ fr' 12 = .B (tbOf p q).isSome) ?_ ?_
  · by_cases hm : In24 m
    rotate_left
    · rw [show backOf m = none from if_neg hm]
      simp (disch := omega) only [Option.isSome_none, ↓SXd, SXu, slBounds, ↓sop, ↓aop, ↓reduceIte, LV.cells, AOp.dst, LV.I, LV.B, LV.U, LV.S, LV.nil, Nat.reduceEqDiff, Nat.reduceAdd, Nat.reduceMul, Nat.reduceSub, Nat.reduceLeDiff, Nat.reduceBEq, Nat.reduceDiv, Nat.reduceMod, Int.reduceToNat, Int.reduceLT, Int.reduceLE, Int.reduceAdd, Int.reduceSub, Int.reduceMul, Int.reduceEq, Int.reduceNeg, reduceCtorEq, resV, resAll, ARes.ev, LV.flat, ite_true, ite_false, exists_eq_left', exists_eq_left, keyOf, implies_true, fillC, capOf]
    rw [show backOf m = some (backN m.toNat) from if_pos hm]
    obtain ⟨m1, m2⟩ := id hm
    have hmN : m.toNat < 24 := by omega
    obtain ⟨k1, k2, k3⟩ := back_ok hmN
    obtain ⟨o1, o2, o3, o4⟩ := ord_ok hmN
    rw [show ordOf m = some (ordN m.toNat) from if_pos hm]
    have e0 : tbOf m ((backN m.toNat : Nat) : Int) = some 0 := by
      rw [show tbOf m ((backN m.toNat : Nat) : Int) = some (tbN m.toNat (backN m.toNat)) from if_pos ⟨hm, by unfold In24; omega⟩, k2]
    simp (disch := omega) only [Option.isSome_some, Option.getD_some, ↓SXd, SXu, slBounds, ↓sop, ↓aop, ↓reduceIte, LV.cells, AOp.dst, LV.I, LV.B, LV.U, LV.S, LV.nil, Nat.reduceEqDiff, Nat.reduceAdd, Nat.reduceMul, Nat.reduceSub, Nat.reduceLeDiff, Nat.reduceBEq, Nat.reduceDiv, Nat.reduceMod, Int.reduceToNat, Int.reduceLT, Int.reduceLE, Int.reduceAdd, Int.reduceSub, Int.reduceMul, Int.reduceEq, Int.reduceNeg, reduceCtorEq, resV, resAll, ARes.ev, LV.flat, ite_true, ite_false, exists_eq_left', exists_eq_left, keyOf, implies_true, fillC, capOf]
    refine callK_of g_TurnBehind ?_
    rw [e0]
    simp (disch := omega) only [Option.isSome_some, Option.getD_some, ↓SXd, SXu, slBounds, ↓sop, ↓aop, ↓reduceIte, LV.cells, AOp.dst, LV.I, LV.B, LV.U, LV.S, LV.nil, Nat.reduceEqDiff, Nat.reduceAdd, Nat.reduceMul, Nat.reduceSub, Nat.reduceLeDiff, Nat.reduceBEq, Nat.reduceDiv, Nat.reduceMod, Int.reduceToNat, Int.reduceLT, Int.reduceLE, Int.reduceAdd, Int.reduceSub, Int.reduceMul, Int.reduceEq, Int.reduceNeg, reduceCtorEq, resV, resAll, ARes.ev, LV.flat, ite_true, ite_false, exists_eq_left', exists_eq_left, keyOf, implies_true, fillC, capOf]
    refine ev_loop (fun n fr' M' => ∃ i : Nat, 1 ≤ i ∧ i + n = ordN m.toNat ∧ M' = N5 ∧ fr' 3 = .ptr m3 0 ∧ fr' 5 = .ptr m5 0 ∧ fr' 6 = .B (turnOf x y z cs k).isSome ∧ fr' 9 = .I p ∧ fr' 10 = .I q ∧ fr' 11 = .I ((tbOf p q).getD 0 : Nat) ∧ fr' 12 = .B (tbOf p q).isSome ∧
      fr' 15 = .I m ∧ fr' 20 = .I (ordN m.toNat : Nat) ∧ fr' 24 = .I 0 ∧ fr' 25 = .B true ∧ fr' 26 = .I (powN m.toNat (i - 1) : Nat) ∧ fr' 27 = .I i) (ordN m.toNat - 1)
      ⟨1, Nat.le_refl _, by omega, rfl, rfl, rfl, rfl, rfl, rfl, rfl, rfl, rfl, rfl, rfl, rfl, eqI (by show m = (m.toNat : Nat); omega), rfl⟩ ?_
    rintro n fr N5 ⟨i, hi1, hi, rfl, f3, f5, f6, f9, f10, f11, f12, f15, f20, f24, f25, f26, f27⟩
    obtain ⟨j, rfl⟩ : ∃ j, i = j + 1 := ⟨i - 1, by omega⟩
    rw [Nat.add_sub_cancel] at f26
    have hp24 := powN_lt hmN j
    simp (disch := omega) only [f3, f5, f6, f9, f10, f11, f12, f15, f20, f24, f25, f26, f27, ↓SXd, SXu, slBounds, ↓sop, ↓aop, ↓reduceIte, LV.cells, AOp.dst, LV.I, LV.B, LV.U, LV.S, LV.nil, Nat.reduceEqDiff, Nat.reduceAdd, Nat.reduceMul, Nat.reduceSub, Nat.reduceLeDiff, Nat.reduceBEq, Nat.reduceDiv, Nat.reduceMod, Int.reduceToNat, Int.reduceLT, Int.reduceLE, Int.reduceAdd, Int.reduceSub, Int.reduceMul, Int.reduceEq, Int.reduceNeg, reduceCtorEq, resV, resAll, ARes.ev, LV.flat, ite_true, ite_false, exists_eq_left', exists_eq_left, keyOf, implies_true, fillC, capOf]
    refine condC_dec (fun hlt => ?_) (fun hlt => ?_)
    · have hj : j < ordN m.toNat - 1 := by omega
      have hz : ¬ (((powN m.toNat j : Nat) : Int) = 0) := fun e => o4 j hj (by omega)
      have e1 : tbOf ((powN m.toNat j : Nat) : Int) m = some (powN m.toNat (j + 1)) := by
        rw [show tbOf ((powN m.toNat j : Nat) : Int) m = some (tbN (powN m.toNat j) m.toNat) from if_pos ⟨by unfold In24; omega, hm⟩]
        rfl
      simp (disch := omega) only [f3, f5, f6, f9, f10, f11, f12, f15, f20, f24, f25, f26, f27, ↓SXd, SXu, slBounds, ↓sop, ↓aop, ↓reduceIte, LV.cells, AOp.dst, LV.I, LV.B, LV.U, LV.S, LV.nil, Nat.reduceEqDiff, Nat.reduceAdd, Nat.reduceMul, Nat.reduceSub, Nat.reduceLeDiff, Nat.reduceBEq, Nat.reduceDiv, Nat.reduceMod, Int.reduceToNat, Int.reduceLT, Int.reduceLE, Int.reduceAdd, Int.reduceSub, Int.reduceMul, Int.reduceEq, Int.reduceNeg, reduceCtorEq, resV, resAll, ARes.ev, LV.flat, ite_true, ite_false, exists_eq_left', exists_eq_left, keyOf, implies_true, fillC, capOf]
      refine callK_of g_TurnBehind ?_
      rw [e1]
      simp (disch := omega) only [f3, f5, f6, f9, f10, f11, f12, f15, f20, f24, f25, f26, f27, Option.isSome_some, Option.getD_some, hz, ↓SXd, SXu, slBounds, ↓sop, ↓aop, ↓reduceIte, LV.cells, AOp.dst, LV.I, LV.B, LV.U, LV.S, LV.nil, Nat.reduceEqDiff, Nat.reduceAdd, Nat.reduceMul, Nat.reduceSub, Nat.reduceLeDiff, Nat.reduceBEq, Nat.reduceDiv, Nat.reduceMod, Int.reduceToNat, Int.reduceLT, Int.reduceLE, Int.reduceAdd, Int.reduceSub, Int.reduceMul, Int.reduceEq, Int.reduceNeg, reduceCtorEq, resV, resAll, ARes.ev, LV.flat, ite_true, ite_false, exists_eq_left', exists_eq_left, keyOf, implies_true, fillC, capOf]
      exact ⟨n - 1, by omega, j + 1 + 1, by omega, by omega, rfl, f3, f5, f6, f9, f10, f11, f12, f15, f20, f24, f25, rfl, eqI (natI _)⟩
    · have hj : j = ordN m.toNat - 1 := by omega
      have hz : ((powN m.toNat j : Nat) : Int) = 0 := by rw [hj, o3]; rfl
      have q1 : ¬ (((ordN m.toNat : Nat) : Int) < 1) := by omega
      have q2 : ¬ (((ordN m.toNat : Nat) : Int) > 4) := by omega
      simp (disch := omega) only [f3, f5, f6, f9, f10, f11, f12, f15, f20, f24, f25, f26, f27, hz, q1, q2, ↓SXd, SXu, slBounds, ↓sop, ↓aop, ↓reduceIte, LV.cells, AOp.dst, LV.I, LV.B, LV.U, LV.S, LV.nil, Nat.reduceEqDiff, Nat.reduceAdd, Nat.reduceMul, Nat.reduceSub, Nat.reduceLeDiff, Nat.reduceBEq, Nat.reduceDiv, Nat.reduceMod, Int.reduceToNat, Int.reduceLT, Int.reduceLE, Int.reduceAdd, Int.reduceSub, Int.reduceMul, Int.reduceEq, Int.reduceNeg, reduceCtorEq, resV, resAll, ARes.ev, LV.flat, ite_true, ite_false, exists_eq_left', exists_eq_left, keyOf, implies_true, fillC, capOf]
  rintro fr N5 ⟨rfl, f3, f5, f6, f9, f10, f11, f12⟩
  by_cases hV : HeapOK x y z cs ∧ In24 k
  rotate_left
  · simp (disch := omega) only [f3, f5, f6, f9, f10, f11, f12, (hGn hV), ↓SXd, SXu, slBounds, ↓sop, ↓aop, ↓reduceIte, LV.cells, AOp.dst, LV.I, LV.B, LV.U, LV.S, LV.nil, Nat.reduceEqDiff, Nat.reduceAdd, Nat.reduceMul, Nat.reduceSub, Nat.reduceLeDiff, Nat.reduceBEq, Nat.reduceDiv, Nat.reduceMod, Int.reduceToNat, Int.reduceLT, Int.reduceLE, Int.reduceAdd, Int.reduceSub, Int.reduceMul, Int.reduceEq, Int.reduceNeg, reduceCtorEq, resV, resAll, ARes.ev, LV.flat, ite_true, ite_false, exists_eq_left', exists_eq_left, keyOf, implies_true, fillC, capOf]
    rfl
  obtain ⟨eG, eS⟩ := hGf hV
  obtain ⟨hH, hk⟩ := id hV
  have hkN : k.toNat < 24 := by have := hk.1; have := hk.2; omega
  have hTk := turnN_mem hkN
  obtain ⟨u5, e5, hu5⟩ := hx5 hV
  rw [← eG] at e5 hu5
  subst e5
  have U5 := (hu5.pre hpx).pre hPB
  have hGok : HeapOK G.x G.y G.z G.cs := by rw [eG]; exact turnHp_ok hH _
  have hGlen : G.cs.length = cs.length := by rw [eG]; exact turnHp_len hH hTk
  have hGs : surfN G.cs = surfN cs := by rw [eG]; exact surf_turn hH hTk
  simp (disch := omega) only [f3, f5, f6, f9, f10, f11, f12, eS, ↓SXd, SXu, slBounds, ↓sop, ↓aop, ↓reduceIte, LV.cells, AOp.dst, LV.I, LV.B, LV.U, LV.S, LV.nil, Nat.reduceEqDiff, Nat.reduceAdd, Nat.reduceMul, Nat.reduceSub, Nat.reduceLeDiff, Nat.reduceBEq, Nat.reduceDiv, Nat.reduceMod, Int.reduceToNat, Int.reduceLT, Int.reduceLE, Int.reduceAdd, Int.reduceSub, Int.reduceMul, Int.reduceEq, Int.reduceNeg, reduceCtorEq, resV, resAll, ARes.ev, LV.flat, ite_true, ite_false, exists_eq_left', exists_eq_left, keyOf, implies_true, fillC, capOf]
  refine cond_cut (fun fr' M' => Pre N5 M' ∧ fr' 3 = .ptr m3 0 ∧ fr' 5 = .ptr m5 0) ?_ ?_
  · by_cases hpq : In24 p ∧ In24 q
    rotate_left
    · rw [show tbOf p q = none from if_neg hpq]
      simp (disch := omega) only [f3, f5, f6, f9, f10, f11, f12, Option.isSome_none, ↓SXd, SXu, slBounds, ↓sop, ↓aop, ↓reduceIte, LV.cells, AOp.dst, LV.I, LV.B, LV.U, LV.S, LV.nil, Nat.reduceEqDiff, Nat.reduceAdd, Nat.reduceMul, Nat.reduceSub, Nat.reduceLeDiff, Nat.reduceBEq, Nat.reduceDiv, Nat.reduceMod, Int.reduceToNat, Int.reduceLT, Int.reduceLE, Int.reduceAdd, Int.reduceSub, Int.reduceMul, Int.reduceEq, Int.reduceNeg, reduceCtorEq, resV, resAll, ARes.ev, LV.flat, ite_true, ite_false, exists_eq_left', exists_eq_left, keyOf, implies_true, fillC, capOf]
      exact Pre.refl _
    obtain ⟨hp, hq⟩ := id hpq
    have hpN : p.toNat < 24 := by have := hp.1; have := hp.2; omega
    have hqN : q.toNat < 24 := by have := hq.1; have := hq.2; omega
    obtain ⟨hbl, hbe⟩ := tbN_ok hpN hqN
    rw [show tbOf p q = some (tbN p.toNat q.toNat) from if_pos hpq, Option.getD_some] at f11
    rw [show tbOf p q = some (tbN p.toNat q.toNat) from if_pos hpq]
    have hTp := turnN_ok hpN
    have hTq := turnN_ok hqN
    have hcomp := turnHp_behind (x := x) (y := y) (z := z) (cs := cs) (t := turnN p.toNat) (u := turnN q.toNat) hH hTp.2 hTq.1 hTq.2
    rw [← hbe] at hcomp
    have hAok := turnHp_ok hH (turnN p.toNat)
    have hg1 := g_TurnHeapV (k := p) T1A hH hp
    rw [show turns.getD p.toNat oneT = turnN p.toNat from rfl] at hg1
    generalize turnHp x y z (turnN p.toNat) cs = A at hcomp hAok hg1
    simp (disch := omega) only [f3, f5, f6, f9, f10, f11, f12, Option.isSome_some, b3A.cells, ↓SXd, SXu, slBounds, ↓sop, ↓aop, ↓reduceIte, LV.cells, AOp.dst, LV.I, LV.B, LV.U, LV.S, LV.nil, Nat.reduceEqDiff, Nat.reduceAdd, Nat.reduceMul, Nat.reduceSub, Nat.reduceLeDiff, Nat.reduceBEq, Nat.reduceDiv, Nat.reduceMod, Int.reduceToNat, Int.reduceLT, Int.reduceLE, Int.reduceAdd, Int.reduceSub, Int.reduceMul, Int.reduceEq, Int.reduceNeg, reduceCtorEq, resV, resAll, ARes.ev, LV.flat, ite_true, ite_false, exists_eq_left', exists_eq_left, keyOf, implies_true, fillC, capOf]
    refine callR_of hg1 ?_
    rintro _ Q1 ⟨⟨v30, rfl, hv30, _⟩, hq1⟩
    simp (disch := omega) only [f3, f5, f6, f9, f10, f11, f12, splice, ↓SXd, SXu, slBounds, ↓sop, ↓aop, ↓reduceIte, LV.cells, AOp.dst, LV.I, LV.B, LV.U, LV.S, LV.nil, Nat.reduceEqDiff, Nat.reduceAdd, Nat.reduceMul, Nat.reduceSub, Nat.reduceLeDiff, Nat.reduceBEq, Nat.reduceDiv, Nat.reduceMod, Int.reduceToNat, Int.reduceLT, Int.reduceLE, Int.reduceAdd, Int.reduceSub, Int.reduceMul, Int.reduceEq, Int.reduceNeg, reduceCtorEq, resV, resAll, ARes.ev, LV.flat, ite_true, ite_false, exists_eq_left', exists_eq_left, keyOf, implies_true, fillC, capOf]
    have c30 : Live (Q1 ++ [some (.row [.I A.x, .I A.y, .I A.z, .ref v30 0 A.cs.length] true 0)]) Q1.length (.row [.I A.x, .I A.y, .I A.z, .ref v30 0 A.cs.length] true 0) := Live.new
    have V30 := hv30.app (L := [some (.row [.I A.x, .I A.y, .I A.z, .ref v30 0 A.cs.length] true 0)])
    have hq1' : Pre N5 (Q1 ++ [some (.row [.I A.x, .I A.y, .I A.z, .ref v30 0 A.cs.length] true 0)]) := hq1.trans (Pre.app _ _)
    generalize Q1.length = m30 at c30 ⊢
    generalize Q1 ++ [some (Blk.row [.I A.x, .I A.y, .I A.z, .ref v30 0 A.cs.length] true 0)] = Q1' at c30 V30 hq1' ⊢
    have hg2 := g_TurnHeapV (k := q) V30 hAok hq
    rw [show turns.getD q.toNat oneT = turnN q.toNat from rfl] at hg2
    rw [hcomp] at hg2
    refine callR_of hg2 ?_
    rintro _ Q2 ⟨⟨v32, rfl, hv32, _⟩, hq2⟩
    have hBok := turnHp_ok hH (turnN (tbN p.toNat q.toNat))
    have hg3 := g_TurnHeapV (k := ((tbN p.toNat q.toNat : Nat) : Int)) (M := Q2 ++ [some (.row [.I (turnHp x y z (turnN (tbN p.toNat q.toNat)) cs).x, .I (turnHp x y z (turnN (tbN p.toNat q.toNat)) cs).y, .I (turnHp x y z (turnN (tbN p.toNat q.toNat)) cs).z, .ref v32 0 (turnHp x y z (turnN (tbN p.toNat q.toNat)) cs).cs.length] true 0)]) (T1A.pre (hq1'.trans (hq2.trans (Pre.app _ _)))) hH (by unfold In24 at *; omega)
    rw [show turns.getD ((tbN p.toNat q.toNat : Nat) : Int).toNat oneT = turnN (tbN p.toNat q.toNat) from rfl] at hg3
    generalize turnHp x y z (turnN (tbN p.toNat q.toNat)) cs = B at hv32 hBok hg3 ⊢
    have hBl := hBok.len
    have c32 : Live (Q2 ++ [some (.row [.I B.x, .I B.y, .I B.z, .ref v32 0 B.cs.length] true 0)]) Q2.length (.row [.I B.x, .I B.y, .I B.z, .ref v32 0 B.cs.length] true 0) := Live.new
    have V32 := hv32.app (L := [some (.row [.I B.x, .I B.y, .I B.z, .ref v32 0 B.cs.length] true 0)])
    have hq2' : Pre Q1' (Q2 ++ [some (.row [.I B.x, .I B.y, .I B.z, .ref v32 0 B.cs.length] true 0)]) := hq2.trans (Pre.app _ _)
    have b3Q := b3A.pre (hq1'.trans hq2')
    simp (disch := omega) only [f3, f5, f6, f9, f10, f11, f12, splice, b3Q.cells, ↓SXd, SXu, slBounds, ↓sop, ↓aop, ↓reduceIte, LV.cells, AOp.dst, LV.I, LV.B, LV.U, LV.S, LV.nil, Nat.reduceEqDiff, Nat.reduceAdd, Nat.reduceMul, Nat.reduceSub, Nat.reduceLeDiff, Nat.reduceBEq, Nat.reduceDiv, Nat.reduceMod, Int.reduceToNat, Int.reduceLT, Int.reduceLE, Int.reduceAdd, Int.reduceSub, Int.reduceMul, Int.reduceEq, Int.reduceNeg, reduceCtorEq, resV, resAll, ARes.ev, LV.flat, ite_true, ite_false, exists_eq_left', exists_eq_left, keyOf, implies_true, fillC, capOf]
    generalize Q2.length = m32 at c32 ⊢
    generalize Q2 ++ [some (Blk.row [.I B.x, .I B.y, .I B.z, .ref v32 0 B.cs.length] true 0)] = Q2' at c32 V32 hq2' b3Q hg3 ⊢
    refine callR_of hg3 ?_
    rintro _ Q3 ⟨⟨v34, rfl, hv34, _⟩, hq3⟩
    have c34 : Live (Q3 ++ [some (.row [.I B.x, .I B.y, .I B.z, .ref v34 0 B.cs.length] true 0)]) Q3.length (.row [.I B.x, .I B.y, .I B.z, .ref v34 0 B.cs.length] true 0) := Live.new
    have V34 := hv34.app (L := [some (.row [.I B.x, .I B.y, .I B.z, .ref v34 0 B.cs.length] true 0)])
    have hq3' : Pre Q2' (Q3 ++ [some (.row [.I B.x, .I B.y, .I B.z, .ref v34 0 B.cs.length] true 0)]) := hq3.trans (Pre.app _ _)
    have c32' := c32.pre hq3'
    simp (disch := omega) only [f3, f5, f6, f9, f10, f11, f12, splice, c32'.cells, ↓SXd, SXu, slBounds, ↓sop, ↓aop, ↓reduceIte, LV.cells, AOp.dst, LV.I, LV.B, LV.U, LV.S, LV.nil, Nat.reduceEqDiff, Nat.reduceAdd, Nat.reduceMul, Nat.reduceSub, Nat.reduceLeDiff, Nat.reduceBEq, Nat.reduceDiv, Nat.reduceMod, Int.reduceToNat, Int.reduceLT, Int.reduceLE, Int.reduceAdd, Int.reduceSub, Int.reduceMul, Int.reduceEq, Int.reduceNeg, reduceCtorEq, resV, resAll, ARes.ev, LV.flat, ite_true, ite_false, exists_eq_left', exists_eq_left, keyOf, implies_true, fillC, capOf]
    generalize Q3.length = m34 at c34 ⊢
    generalize Q3 ++ [some (Blk.row [.I B.x, .I B.y, .I B.z, .ref v34 0 B.cs.length] true 0)] = Q3' at c34 V34 hq3' c32' ⊢
    have hr1 := k_rHeap (g := B) (h := B) (CellsV.of (V32.pre hq3').has) (CellsV.of V34.has) (by omega) (by omega)
    rw [decide_eq_true (⟨rfl, rfl⟩ : B.dims = B.dims ∧ B.cs = B.cs)] at hr1
    refine callK_of hr1 ?_
    simp (disch := omega) only [f3, f5, f6, f9, f10, f11, f12, ↓SXd, SXu, slBounds, ↓sop, ↓aop, ↓reduceIte, LV.cells, AOp.dst, LV.I, LV.B, LV.U, LV.S, LV.nil, Nat.reduceEqDiff, Nat.reduceAdd, Nat.reduceMul, Nat.reduceSub, Nat.reduceLeDiff, Nat.reduceBEq, Nat.reduceDiv, Nat.reduceMod, Int.reduceToNat, Int.reduceLT, Int.reduceLE, Int.reduceAdd, Int.reduceSub, Int.reduceMul, Int.reduceEq, Int.reduceNeg, reduceCtorEq, resV, resAll, ARes.ev, LV.flat, ite_true, ite_false, exists_eq_left', exists_eq_left, keyOf, implies_true, fillC, capOf]
    exact hq1'.trans (hq2'.trans hq3')
  rintro fr M9 ⟨hp9, f3, f5⟩
  simp (disch := omega) only [f3, f5, (b3A.pre hp9).cells, ↓SXd, SXu, slBounds, ↓sop, ↓aop, ↓reduceIte, LV.cells, AOp.dst, LV.I, LV.B, LV.U, LV.S, LV.nil, Nat.reduceEqDiff, Nat.reduceAdd, Nat.reduceMul, Nat.reduceSub, Nat.reduceLeDiff, Nat.reduceBEq, Nat.reduceDiv, Nat.reduceMod, Int.reduceToNat, Int.reduceLT, Int.reduceLE, Int.reduceAdd, Int.reduceSub, Int.reduceMul, Int.reduceEq, Int.reduceNeg, reduceCtorEq, resV, resAll, ARes.ev, LV.flat, ite_true, ite_false, exists_eq_left', exists_eq_left, keyOf, implies_true, fillC, capOf]
  refine callK_of (g_SurfaceOf (T1A.pre hp9) hcn) ?_
  rw [show surfOf x y z cs = some (surfN cs) from if_pos hH]
  simp (disch := omega) only [f3, f5, (b5A.pre hp9).cells, Option.isSome_some, Option.getD_some, ↓SXd, SXu, slBounds, ↓sop, ↓aop, ↓reduceIte, LV.cells, AOp.dst, LV.I, LV.B, LV.U, LV.S, LV.nil, Nat.reduceEqDiff, Nat.reduceAdd, Nat.reduceMul, Nat.reduceSub, Nat.reduceLeDiff, Nat.reduceBEq, Nat.reduceDiv, Nat.reduceMod, Int.reduceToNat, Int.reduceLT, Int.reduceLE, Int.reduceAdd, Int.reduceSub, Int.reduceMul, Int.reduceEq, Int.reduceNeg, reduceCtorEq, resV, resAll, ARes.ev, LV.flat, ite_true, ite_false, exists_eq_left', exists_eq_left, keyOf, implies_true, fillC, capOf]
  refine callK_of (g_SurfaceOf (U5.pre hp9) (by omega)) ?_
  rw [show surfOf G.x G.y G.z G.cs = some (surfN G.cs) from if_pos hGok, hGs]
  simp (disch := omega) only [f3, f5, (b5A.pre hp9).cell, (b3A.pre hp9).cell, hGlen, Option.isSome_some, Option.getD_some, ↓SXd, SXu, slBounds, ↓sop, ↓aop, ↓reduceIte, LV.cells, AOp.dst, LV.I, LV.B, LV.U, LV.S, LV.nil, Nat.reduceEqDiff, Nat.reduceAdd, Nat.reduceMul, Nat.reduceSub, Nat.reduceLeDiff, Nat.reduceBEq, Nat.reduceDiv, Nat.reduceMod, Int.reduceToNat, Int.reduceLT, Int.reduceLE, Int.reduceAdd, Int.reduceSub, Int.reduceMul, Int.reduceEq, Int.reduceNeg, reduceCtorEq, resV, resAll, ARes.ev, LV.flat, ite_true, ite_false, exists_eq_left', exists_eq_left, keyOf, implies_true, fillC, capOf]
  rfl
end Go.Ab

/- Bytes that came in, opened. -/
namespace Go.Ab
open Go Go.RowKit Go.Joins Go.ChangeShapes Go.WideShapes Go.Deep Go.WideElems Go.Maps

/-- What the abstract machine is told of a slice of bytes that came in. -/
def RowOfB (w : World) (a : Option Addr) (len cap : Nat) (xs : List Nat) : Prop :=
  xs.length = len ∧ len ≤ cap ∧ cap ≤ maxLen ∧ (∀ b ∈ xs, b ≤ 255) ∧ (cap = 0 ∨ ∃ b o c e fz, a = some ⟨b, o, none⟩ ∧ w.heap[b]? = some (.cells c e fz) ∧ ∀ i, i < len → c[o + i]? = some (.int .u8 ((xs.getD i 0 : Nat) : Int)))

section
variable {H : Type} {enc : TypeId × Value → H} {P : Program} {w : World} {held : Bool}
theorem open_bytesB {ts ti : TypeId} {fuel : Nat} {cs : List Value} {x : DataW H × List MemPlace} (hts : P.underlying ts = some (.slice ti)) (hti : P.underlying ti = some (.int .u8)) (hci : P.cellsOf ti = 1)
    (h : DataW.trod enc P w 0 (fun _ => true) held fuel ts cs = some x) : ∃ a len cap xs, cs = [.slice a len cap] ∧ RowOfB w a len cap xs := by
  rcases Go.ChangeShapes.open_ints hts hti hci h with ⟨rfl, _⟩ | ⟨a, len, cap, zs, rfl, _, hl, hm, hz, _, hel, hwf⟩
  · exact ⟨none, 0, 0, [], rfl, rfl, Nat.le_refl _, Nat.zero_le _, by simp, .inl rfl⟩
  · have hzl : zs.length = cap := by simpa using hz
    have hby : ∀ n ∈ zs, 0 ≤ n ∧ n ≤ 255 := fun n hn => by
      have h1 := hwf n hn
      unfold Lit.wf at h1
      rw [Bool.and_eq_true, decide_eq_true_iff, decide_eq_true_iff] at h1
      exact h1
    refine ⟨some a, len, cap, (zs.take len).map Int.toNat, rfl, by simp; omega, hl, hm, fun b hb => ?_, ?_⟩
    · obtain ⟨n, hn, rfl⟩ := List.mem_map.1 hb
      have := hby n (List.mem_of_mem_take hn)
      omega
    rcases Nat.eq_zero_or_pos cap with h0 | h0
    · exact .inl h0
    · refine .inr ?_
      have hc0 := hel 0 (by omega)
      obtain ⟨b, o, c, e, fz, ha, hh, _⟩ := cell_heap hc0
      have ha' : a = ⟨b, o, none⟩ := by simpa [Addr.add] using ha
      subst ha'
      refine ⟨b, o, c, e, fz, rfl, hh, fun i hi => ?_⟩
      have hcell := hel i (by omega)
      have hadd : (⟨b, o, none⟩ : Addr).add i = ⟨b, o + i, none⟩ := addr_add _ _ _
      rw [hadd] at hcell
      unfold World.cell? at hcell
      simp only [hh] at hcell
      have hil : i < zs.length := by omega
      have hbi := hby _ (getD_mem' (d := 0) hil)
      have hg : ((((zs.take len).map Int.toNat).getD i 0 : Nat) : Int) = zs.getD i 0 := by
        have e1 : ((zs.take len).map Int.toNat).getD i 0 = (zs.getD i 0).toNat := by simp [hi, hil]
        rw [e1]; omega
      rw [hg]
      simpa using hcell
end
theorem byL_get {bs : List Nat} {i : Nat} (h : i < bs.length) : (byL bs)[i]? = some (.val (.int .u8 ((bs.getD i 0 : Nat) : Int))) := by simp [byL, h]
theorem Inv.addBytes' {G : Gh} {M : Mem} {w : World} (hi : Inv G M w) (hno : NoOwn M) {a : Option Addr} {len cap : Nat} {xs : List Nat} (h : RowOfB w a len cap xs) :
    ∃ (G' : Gh) (N : Mem) (t : Nat), Ext G G' ∧ Inv G' N w ∧ NoOwn N ∧ Pre M N ∧ VR1 G' (.ref t 0 len) (.slice a len cap) ∧ Bytes N t 0 xs := by
  obtain ⟨h1, h2, h3, _, h4⟩ := h
  have key : ∃ G', Ext G G' ∧ Inv G' (M ++ [some (.row (byL xs) false 1)]) w ∧ NoOwn (M ++ [some (.row (byL xs) false 1)]) ∧ VR1 G' (.ref M.length 0 len) (.slice a len cap) := by
    refine hi.addRow hno h2 (by rw [byL_len]; omega) ?_
    rcases h4 with h0 | ⟨b, o, c, e, fz, ha, hh, hc⟩
    · refine .inl ⟨h0, ?_⟩
      have : xs = [] := List.eq_nil_of_length_eq_zero (by omega)
      rw [this]; rfl
    · refine .inr ⟨b, o, c, e, fz, ha, hh, fun j l hj => ?_⟩
      have hjl : j < xs.length := by
        rw [← byL_len]
        rcases Nat.lt_or_ge j (byL xs).length with h | h
        · exact h
        · rw [List.getElem?_eq_none h] at hj; cases hj
      rw [byL_get hjl] at hj
      cases hj
      exact ⟨_, hc j (by omega), rfl, rfl⟩
  obtain ⟨G', k1, k2, k3, k4⟩ := key
  exact ⟨G', _, _, k1, k2, k3, Pre.app _ _, k4, Has.new⟩
theorem RowOfB.le {w : World} {a : Option Addr} {len cap : Nat} {xs : List Nat} (h : RowOfB w a len cap xs) : xs.length ≤ 9223372036854775807 ∧ ∀ b ∈ xs, b ≤ 255 := by
  obtain ⟨h0, h1, h2, h3, _⟩ := h
  have := max63
  exact ⟨by omega, h3⟩
end Go.Ab
