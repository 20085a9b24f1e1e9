/- Parts of the proof of FnExactFewestCubesSaid: Wl LFewestCubes Ra Rb Rc. -/
import Derived.Test.YtjpdjjeddagjlaaA8
import Derived.Test.YtjpdjjeddagjlaaA4
import Derived.Test.YtjpdjjeddagjlaaA5
import Derived.Test.YtjpdjjeddagjlaaA3
import Derived.Below
import Derived.Lib.SmallJoins
import Derived.Deep.Slices
import Derived.Laws.IdiomArrays
import Derived.ChangeSlices
set_option linter.all false
/- Contracts: FewestCubes and FirstFewest, the program's side. -/
namespace Go.Ab
open Go
set_option linter.unusedSimpArgs false
set_option linter.unusedVariables false
set_option maxRecDepth 20000

section
variable {x y z : Int} {t o t' o' t2 o2 : Nat} {tp fr sd : List Int} {M : Mem} (h1 : Ints M t o tp) (h2 : Ints M t' o' fr) (h3 : Ints M t2 o2 sd) (l1 : tp.length ≤ 1000000000) (l2 : fr.length ≤ 1000000000) (l3 : sd.length ≤ 1000000000)
include h1 h2 h3 l1 l2 l3
theorem g_fewest : CallsR PG F.impl_Shadow_fewest [.agg [.I x, .I y, .I z, .ref t o tp.length, .ref t' o' fr.length, .ref t2 o2 sd.length]] M fun v N => v = .tup [.I (fewOf x y z tp fr sd).1, .B (fewOf x y z tp fr sd).2] ∧ Pre M N := by
  refine callsR_run K.impl_Shadow_fewest rfl ?_
  simp (disch := omega) only [C.impl_Shadow_fewest, ↓SXd, SXu, slBounds, ↓sop, ↓aop, ↓reduceIte, LV.cells, AOp.dst, LV.I, LV.B, LV.U, LV.S, LV.nil, Nat.reduceEqDiff, Nat.reduceAdd, Nat.reduceMul, Nat.reduceSub, Nat.reduceLeDiff, Nat.reduceBEq, Nat.reduceDiv, Nat.reduceMod, Int.reduceToNat, Int.reduceLT, Int.reduceLE, Int.reduceAdd, Int.reduceSub, Int.reduceMul, Int.reduceEq, Int.reduceNeg, reduceCtorEq, resV, resAll, ARes.ev, LV.flat, ite_true, ite_false, exists_eq_left', exists_eq_left, keyOf, implies_true, fillC, capOf]
  refine callR_of (g_isFitting h1.app h2.app h3.app l1 l2 l3) ?_
  rintro _ N ⟨rfl, hp⟩
  have hM : Pre M N := (Pre.app _ _).trans hp
  have b1 : Live N M.length (.row [.I x, .I y, .I z, .ref t o tp.length, .ref t' o' fr.length, .ref t2 o2 sd.length] true 0) := Live.new.pre hp
  unfold fewOf
  by_cases hF : Fits x y z tp fr sd
  · rw [show decide (ShdOK x y z tp fr sd ∧ HasShd x y z tp fr sd (pick x y z (allowedB y z tp fr sd))) = true from decide_eq_true hF]
    have hok := hF.1
    have hS := hok.1
    have hv := vol_cast hS
    simp (disch := omega) only [b1.cells, ↓SXd, SXu, slBounds, ↓sop, ↓aop, ↓reduceIte, LV.cells, AOp.dst, LV.I, LV.B, LV.U, LV.S, LV.nil, Nat.reduceEqDiff, Nat.reduceAdd, Nat.reduceMul, Nat.reduceSub, Nat.reduceLeDiff, Nat.reduceBEq, Nat.reduceDiv, Nat.reduceMod, Int.reduceToNat, Int.reduceLT, Int.reduceLE, Int.reduceAdd, Int.reduceSub, Int.reduceMul, Int.reduceEq, Int.reduceNeg, reduceCtorEq, resV, resAll, ARes.ev, LV.flat, ite_true, ite_false, exists_eq_left', exists_eq_left, keyOf, implies_true, fillC, capOf]
    refine callK_of (g_Shadow_box) ?_
    simp (disch := omega) only [↓SXd, SXu, slBounds, ↓sop, ↓aop, ↓reduceIte, LV.cells, AOp.dst, LV.I, LV.B, LV.U, LV.S, LV.nil, Nat.reduceEqDiff, Nat.reduceAdd, Nat.reduceMul, Nat.reduceSub, Nat.reduceLeDiff, Nat.reduceBEq, Nat.reduceDiv, Nat.reduceMod, Int.reduceToNat, Int.reduceLT, Int.reduceLE, Int.reduceAdd, Int.reduceSub, Int.reduceMul, Int.reduceEq, Int.reduceNeg, reduceCtorEq, resV, resAll, ARes.ev, LV.flat, ite_true, ite_false, exists_eq_left', exists_eq_left, keyOf, implies_true, fillC, capOf]
    refine callK_of (g_size hS) ?_
    simp (disch := omega) only [↓SXd, SXu, slBounds, ↓sop, ↓aop, ↓reduceIte, LV.cells, AOp.dst, LV.I, LV.B, LV.U, LV.S, LV.nil, Nat.reduceEqDiff, Nat.reduceAdd, Nat.reduceMul, Nat.reduceSub, Nat.reduceLeDiff, Nat.reduceBEq, Nat.reduceDiv, Nat.reduceMod, Int.reduceToNat, Int.reduceLT, Int.reduceLE, Int.reduceAdd, Int.reduceSub, Int.reduceMul, Int.reduceEq, Int.reduceNeg, reduceCtorEq, resV, resAll, ARes.ev, LV.flat, ite_true, ite_false, exists_eq_left', exists_eq_left, keyOf, implies_true, fillC, capOf]
    by_cases hs : x * y * z ≤ 27
    · have hs' : ¬ (((vol x y z : Nat) : Int) > 27) := by omega
      rw [if_pos (show SmallS x y z tp fr sd from ⟨hF, hs⟩)]
      obtain ⟨k, r, hk, hr, hnone, hfr, hrl⟩ := few_ex hF
      have hfc : fewCells x y z tp fr sd = r := by unfold fewCells; rw [hfr]; rfl
      rw [hfc]
      have hcov := fun n => cov_few hF (n := n) hr hnone
      have hml := must_le hF hr
      have hUl : (pick x y z (mustTo x y z (allowedB y z tp fr sd) (lits tp fr sd))).length = (parted x y z tp fr sd false).length := by rw [parted_must hok]
      have hAl := pick_len hS (allowedB y z tp fr sd)
      have hLl := lits_len hok
      simp (disch := omega) only [hs', b1.cells, ↓SXd, SXu, slBounds, ↓sop, ↓aop, ↓reduceIte, LV.cells, AOp.dst, LV.I, LV.B, LV.U, LV.S, LV.nil, Nat.reduceEqDiff, Nat.reduceAdd, Nat.reduceMul, Nat.reduceSub, Nat.reduceLeDiff, Nat.reduceBEq, Nat.reduceDiv, Nat.reduceMod, Int.reduceToNat, Int.reduceLT, Int.reduceLE, Int.reduceAdd, Int.reduceSub, Int.reduceMul, Int.reduceEq, Int.reduceNeg, reduceCtorEq, resV, resAll, ARes.ev, LV.flat, ite_true, ite_false, exists_eq_left', exists_eq_left, keyOf, implies_true, fillC, capOf]
      refine callK_of (g_must (h1.pre hM) (h2.pre hM) (h3.pre hM) hok) ?_
      simp (disch := omega) only [↓SXd, SXu, slBounds, ↓sop, ↓aop, ↓reduceIte, LV.cells, AOp.dst, LV.I, LV.B, LV.U, LV.S, LV.nil, Nat.reduceEqDiff, Nat.reduceAdd, Nat.reduceMul, Nat.reduceSub, Nat.reduceLeDiff, Nat.reduceBEq, Nat.reduceDiv, Nat.reduceMod, Int.reduceToNat, Int.reduceLT, Int.reduceLE, Int.reduceAdd, Int.reduceSub, Int.reduceMul, Int.reduceEq, Int.reduceNeg, reduceCtorEq, resV, resAll, ARes.ev, LV.flat, ite_true, ite_false, exists_eq_left', exists_eq_left, keyOf, implies_true, fillC, capOf]
      refine callK_of (g_countB hS) ?_
      rw [hUl]
      simp (disch := omega) only [↓SXd, SXu, slBounds, ↓sop, ↓aop, ↓reduceIte, LV.cells, AOp.dst, LV.I, LV.B, LV.U, LV.S, LV.nil, Nat.reduceEqDiff, Nat.reduceAdd, Nat.reduceMul, Nat.reduceSub, Nat.reduceLeDiff, Nat.reduceBEq, Nat.reduceDiv, Nat.reduceMod, Int.reduceToNat, Int.reduceLT, Int.reduceLE, Int.reduceAdd, Int.reduceSub, Int.reduceMul, Int.reduceEq, Int.reduceNeg, reduceCtorEq, resV, resAll, ARes.ev, LV.flat, ite_true, ite_false, exists_eq_left', exists_eq_left, keyOf, implies_true, fillC, capOf]
      have hcnt : ∀ M', CallsTo PG F.impl_set_count [.W (bs x y z (mustTo x y z (allowedB y z tp fr sd) (lits tp fr sd)))] M' (.I ((parted x y z tp fr sd false).length : Nat)) M' := fun M' => by
        have := g_countB hS (p := mustTo x y z (allowedB y z tp fr sd) (lits tp fr sd)) (M := M')
        rwa [hUl] at this
      generalize (parted x y z tp fr sd false).length = U at hcov hml hcnt ⊢
      refine ev_loop (fun m fr1 M' => ∃ j : Nat, U + j + m = k + 1 ∧ U + j ≤ k ∧ Pre N M' ∧ fr1 1 = .ptr M.length 0 ∧ fr1 4 = .I (U + j : Nat)) (k + 1 - U)
        ⟨0, by omega, by omega, Pre.refl _, rfl, rfl⟩ ?_
      rintro m fr1 M' ⟨j, hj, hjk, hpr, f1, f4⟩
      have hpM := hM.trans hpr
      have b2 := b1.pre hpr
      have hsub : ((U + j : Nat) : Int) - ((U : Nat) : Int) = (j : Nat) := by omega
      simp (disch := omega) only [f1, f4, b2.cells, ↓SXd, SXu, slBounds, ↓sop, ↓aop, ↓reduceIte, LV.cells, AOp.dst, LV.I, LV.B, LV.U, LV.S, LV.nil, Nat.reduceEqDiff, Nat.reduceAdd, Nat.reduceMul, Nat.reduceSub, Nat.reduceLeDiff, Nat.reduceBEq, Nat.reduceDiv, Nat.reduceMod, Int.reduceToNat, Int.reduceLT, Int.reduceLE, Int.reduceAdd, Int.reduceSub, Int.reduceMul, Int.reduceEq, Int.reduceNeg, reduceCtorEq, resV, resAll, ARes.ev, LV.flat, ite_true, ite_false, exists_eq_left', exists_eq_left, keyOf, implies_true, fillC, capOf]
      refine callK_of (g_needs (h1.pre hpM) (h2.pre hpM) (h3.pre hpM) hok) ?_
      simp (disch := omega) only [f1, f4, ↓SXd, SXu, slBounds, ↓sop, ↓aop, ↓reduceIte, LV.cells, AOp.dst, LV.I, LV.B, LV.U, LV.S, LV.nil, Nat.reduceEqDiff, Nat.reduceAdd, Nat.reduceMul, Nat.reduceSub, Nat.reduceLeDiff, Nat.reduceBEq, Nat.reduceDiv, Nat.reduceMod, Int.reduceToNat, Int.reduceLT, Int.reduceLE, Int.reduceAdd, Int.reduceSub, Int.reduceMul, Int.reduceEq, Int.reduceNeg, reduceCtorEq, resV, resAll, ARes.ev, LV.flat, ite_true, ite_false, exists_eq_left', exists_eq_left, keyOf, implies_true, fillC, capOf]
      refine callK_of (g_must (h1.pre hpM).app (h2.pre hpM).app (h3.pre hpM).app hok) ?_
      simp (disch := omega) only [f1, f4, ↓SXd, SXu, slBounds, ↓sop, ↓aop, ↓reduceIte, LV.cells, AOp.dst, LV.I, LV.B, LV.U, LV.S, LV.nil, Nat.reduceEqDiff, Nat.reduceAdd, Nat.reduceMul, Nat.reduceSub, Nat.reduceLeDiff, Nat.reduceBEq, Nat.reduceDiv, Nat.reduceMod, Int.reduceToNat, Int.reduceLT, Int.reduceLE, Int.reduceAdd, Int.reduceSub, Int.reduceMul, Int.reduceEq, Int.reduceNeg, reduceCtorEq, resV, resAll, ARes.ev, LV.flat, ite_true, ite_false, exists_eq_left', exists_eq_left, keyOf, implies_true, fillC, capOf]
      refine callK_of (g_must (h1.pre hpM).app (h2.pre hpM).app (h3.pre hpM).app hok) ?_
      simp (disch := omega) only [f1, f4, ↓SXd, SXu, slBounds, ↓sop, ↓aop, ↓reduceIte, LV.cells, AOp.dst, LV.I, LV.B, LV.U, LV.S, LV.nil, Nat.reduceEqDiff, Nat.reduceAdd, Nat.reduceMul, Nat.reduceSub, Nat.reduceLeDiff, Nat.reduceBEq, Nat.reduceDiv, Nat.reduceMod, Int.reduceToNat, Int.reduceLT, Int.reduceLE, Int.reduceAdd, Int.reduceSub, Int.reduceMul, Int.reduceEq, Int.reduceNeg, reduceCtorEq, resV, resAll, ARes.ev, LV.flat, ite_true, ite_false, exists_eq_left', exists_eq_left, keyOf, implies_true, fillC, capOf]
      refine callK_of (hcnt _) ?_
      simp (disch := omega) only [f1, f4, hsub, ↓SXd, SXu, slBounds, ↓sop, ↓aop, ↓reduceIte, LV.cells, AOp.dst, LV.I, LV.B, LV.U, LV.S, LV.nil, Nat.reduceEqDiff, Nat.reduceAdd, Nat.reduceMul, Nat.reduceSub, Nat.reduceLeDiff, Nat.reduceBEq, Nat.reduceDiv, Nat.reduceMod, Int.reduceToNat, Int.reduceLT, Int.reduceLE, Int.reduceAdd, Int.reduceSub, Int.reduceMul, Int.reduceEq, Int.reduceNeg, reduceCtorEq, resV, resAll, ARes.ev, LV.flat, ite_true, ite_false, exists_eq_left', exists_eq_left, keyOf, implies_true, fillC, capOf]
      have hcm := g_canMeet hS (A := allowedB y z tp fr sd) hLl j (p := mustTo x y z (allowedB y z tp fr sd) (lits tp fr sd)) (w := fun _ => false) (u := M'.length) (M := M' ++ [some (.row (lineSets x y z (allowedB y z tp fr sd) (lits tp fr sd)) true 1)]) Live.new (by omega)
      rw [← bs_none hS] at hcm
      refine callK_of hcm ?_
      by_cases hC : Cov y z (lits tp fr sd) (pick x y z (allowedB y z tp fr sd)) (mustTo x y z (allowedB y z tp fr sd) (lits tp fr sd)) (fun _ => false) j
      · have := (hcov j).1 hC
        have hjk2 : U + j = k := by omega
        simp (disch := omega) only [f1, f4, hC, ↓SXd, SXu, slBounds, ↓sop, ↓aop, ↓reduceIte, LV.cells, AOp.dst, LV.I, LV.B, LV.U, LV.S, LV.nil, Nat.reduceEqDiff, Nat.reduceAdd, Nat.reduceMul, Nat.reduceSub, Nat.reduceLeDiff, Nat.reduceBEq, Nat.reduceDiv, Nat.reduceMod, Int.reduceToNat, Int.reduceLT, Int.reduceLE, Int.reduceAdd, Int.reduceSub, Int.reduceMul, Int.reduceEq, Int.reduceNeg, reduceCtorEq, resV, resAll, ARes.ev, LV.flat, ite_true, ite_false, exists_eq_left', exists_eq_left, keyOf, implies_true, fillC, capOf]
        rw [hrl, ← hjk2]
        exact ⟨rfl, hpM.app'⟩
      · have : ¬ k ≤ U + j := fun h => hC ((hcov j).2 h)
        simp (disch := omega) only [f1, f4, hC, ↓SXd, SXu, slBounds, ↓sop, ↓aop, ↓reduceIte, LV.cells, AOp.dst, LV.I, LV.B, LV.U, LV.S, LV.nil, Nat.reduceEqDiff, Nat.reduceAdd, Nat.reduceMul, Nat.reduceSub, Nat.reduceLeDiff, Nat.reduceBEq, Nat.reduceDiv, Nat.reduceMod, Int.reduceToNat, Int.reduceLT, Int.reduceLE, Int.reduceAdd, Int.reduceSub, Int.reduceMul, Int.reduceEq, Int.reduceNeg, reduceCtorEq, resV, resAll, ARes.ev, LV.flat, ite_true, ite_false, exists_eq_left', exists_eq_left, keyOf, implies_true, fillC, capOf]
        exact ⟨m - 1, by omega, j + 1, by omega, by omega, hpr.app', f1, eqI (by omega)⟩
    · have hs' : ((vol x y z : Nat) : Int) > 27 := by omega
      rw [if_neg (show ¬ SmallS x y z tp fr sd from fun h => hs h.2)]
      simp (disch := omega) only [hs', ↓SXd, SXu, slBounds, ↓sop, ↓aop, ↓reduceIte, LV.cells, AOp.dst, LV.I, LV.B, LV.U, LV.S, LV.nil, Nat.reduceEqDiff, Nat.reduceAdd, Nat.reduceMul, Nat.reduceSub, Nat.reduceLeDiff, Nat.reduceBEq, Nat.reduceDiv, Nat.reduceMod, Int.reduceToNat, Int.reduceLT, Int.reduceLE, Int.reduceAdd, Int.reduceSub, Int.reduceMul, Int.reduceEq, Int.reduceNeg, reduceCtorEq, resV, resAll, ARes.ev, LV.flat, ite_true, ite_false, exists_eq_left', exists_eq_left, keyOf, implies_true, fillC, capOf]
      exact ⟨rfl, hM⟩
  · rw [show decide (ShdOK x y z tp fr sd ∧ HasShd x y z tp fr sd (pick x y z (allowedB y z tp fr sd))) = false from decide_eq_false hF]
    rw [if_neg (show ¬ SmallS x y z tp fr sd from fun h => hF h.1)]
    simp (disch := omega) only [↓SXd, SXu, slBounds, ↓sop, ↓aop, ↓reduceIte, LV.cells, AOp.dst, LV.I, LV.B, LV.U, LV.S, LV.nil, Nat.reduceEqDiff, Nat.reduceAdd, Nat.reduceMul, Nat.reduceSub, Nat.reduceLeDiff, Nat.reduceBEq, Nat.reduceDiv, Nat.reduceMod, Int.reduceToNat, Int.reduceLT, Int.reduceLE, Int.reduceAdd, Int.reduceSub, Int.reduceMul, Int.reduceEq, Int.reduceNeg, reduceCtorEq, resV, resAll, ARes.ev, LV.flat, ite_true, ite_false, exists_eq_left', exists_eq_left, keyOf, implies_true, fillC, capOf]
    exact ⟨rfl, hM⟩
theorem g_FewestCubes : CallsR PG F.impl_FewestCubes [.agg [.I x, .I y, .I z, .ref t o tp.length, .ref t' o' fr.length, .ref t2 o2 sd.length]] M fun v N => v = .tup [.I (fewOf x y z tp fr sd).1, .B (fewOf x y z tp fr sd).2] ∧ Pre M N := by
  refine callsR_run K.impl_FewestCubes rfl ?_
  simp (disch := omega) only [C.impl_FewestCubes, ↓SXd, SXu, slBounds, ↓sop, ↓aop, ↓reduceIte, LV.cells, AOp.dst, LV.I, LV.B, LV.U, LV.S, LV.nil, Nat.reduceEqDiff, Nat.reduceAdd, Nat.reduceMul, Nat.reduceSub, Nat.reduceLeDiff, Nat.reduceBEq, Nat.reduceDiv, Nat.reduceMod, Int.reduceToNat, Int.reduceLT, Int.reduceLE, Int.reduceAdd, Int.reduceSub, Int.reduceMul, Int.reduceEq, Int.reduceNeg, reduceCtorEq, resV, resAll, ARes.ev, LV.flat, ite_true, ite_false, exists_eq_left', exists_eq_left, keyOf, implies_true, fillC, capOf]
  refine callR_of (g_fewest h1.app h2.app h3.app l1 l2 l3) ?_
  rintro _ N ⟨rfl, hp⟩
  simp (disch := omega) only [↓SXd, SXu, slBounds, ↓sop, ↓aop, ↓reduceIte, LV.cells, AOp.dst, LV.I, LV.B, LV.U, LV.S, LV.nil, Nat.reduceEqDiff, Nat.reduceAdd, Nat.reduceMul, Nat.reduceSub, Nat.reduceLeDiff, Nat.reduceBEq, Nat.reduceDiv, Nat.reduceMod, Int.reduceToNat, Int.reduceLT, Int.reduceLE, Int.reduceAdd, Int.reduceSub, Int.reduceMul, Int.reduceEq, Int.reduceNeg, reduceCtorEq, resV, resAll, ARes.ev, LV.flat, ite_true, ite_false, exists_eq_left', exists_eq_left, keyOf, implies_true, fillC, capOf]
  exact ⟨rfl, (Pre.app _ _).trans hp⟩
end
end Go.Ab

/- The law of FewestCubes. -/
namespace Go.Ab
open Go
set_option linter.unusedSimpArgs false
set_option linter.unusedVariables false
set_option maxRecDepth 20000

theorem l_FewestCubes {x y z : Int} {t o t' o' t2 o2 : Nat} {tp fr sd : List Int} {M : Mem} (h1 : Ints M t o tp) (n1 : tp.length ≤ 9223372036854775807) (h2 : Ints M t' o' fr) (n2 : fr.length ≤ 9223372036854775807) (h3 : Ints M t2 o2 sd) (n3 : sd.length ≤ 9223372036854775807) :
    CallsR PG F.laws_FnExactFewestCubes [.agg [.I x, .I y, .I z, .ref t o tp.length, .ref t' o' fr.length, .ref t2 o2 sd.length]] M fun v _ => v = .B true := by
  have ht := h1.lt
  have ht' := h2.lt
  have ht2 := h3.lt
  refine callsR_run K.laws_FnExactFewestCubes rfl ?_
  simp (disch := omega) only [C.laws_FnExactFewestCubes, ↓SXd, SXu, slBounds, ↓sop, ↓aop, ↓reduceIte, LV.cells, AOp.dst, LV.I, LV.B, LV.U, LV.S, LV.nil, Nat.reduceEqDiff, Nat.reduceAdd, Nat.reduceMul, Nat.reduceSub, Nat.reduceLeDiff, Nat.reduceBEq, Nat.reduceDiv, Nat.reduceMod, Int.reduceToNat, Int.reduceLT, Int.reduceLE, Int.reduceAdd, Int.reduceSub, Int.reduceMul, Int.reduceEq, Int.reduceNeg, reduceCtorEq, resV, resAll, ARes.ev, LV.flat, ite_true, ite_false, exists_eq_left', exists_eq_left, keyOf, implies_true, fillC, capOf]
  refine callK_of (h_szShadow (by omega) (by omega) n1 n2 n3) ?_
  simp (disch := omega) only [↓SXd, SXu, slBounds, ↓sop, ↓aop, ↓reduceIte, LV.cells, AOp.dst, LV.I, LV.B, LV.U, LV.S, LV.nil, Nat.reduceEqDiff, Nat.reduceAdd, Nat.reduceMul, Nat.reduceSub, Nat.reduceLeDiff, Nat.reduceBEq, Nat.reduceDiv, Nat.reduceMod, Int.reduceToNat, Int.reduceLT, Int.reduceLE, Int.reduceAdd, Int.reduceSub, Int.reduceMul, Int.reduceEq, Int.reduceNeg, reduceCtorEq, resV, resAll, ARes.ev, LV.flat, ite_true, ite_false, exists_eq_left', exists_eq_left, keyOf, implies_true, fillC, capOf]
  by_cases hl : (1048576 : Int) < tp.length + fr.length + sd.length
  · rw [if_pos hl]
    simp (disch := omega) only [Int.reduceLT, ↓SXd, SXu, slBounds, ↓sop, ↓aop, ↓reduceIte, LV.cells, AOp.dst, LV.I, LV.B, LV.U, LV.S, LV.nil, Nat.reduceEqDiff, Nat.reduceAdd, Nat.reduceMul, Nat.reduceSub, Nat.reduceLeDiff, Nat.reduceBEq, Nat.reduceDiv, Nat.reduceMod, Int.reduceToNat, Int.reduceLT, Int.reduceLE, Int.reduceAdd, Int.reduceSub, Int.reduceMul, Int.reduceEq, Int.reduceNeg, reduceCtorEq, resV, resAll, ARes.ev, LV.flat, ite_true, ite_false, exists_eq_left', exists_eq_left, keyOf, implies_true, fillC, capOf]
    rfl
  · rw [if_neg hl]
    have l1 : tp.length ≤ 1000000000 := by omega
    have l2 : fr.length ≤ 1000000000 := by omega
    have l3 : sd.length ≤ 1000000000 := by omega
    simp (disch := omega) only [↓SXd, SXu, slBounds, ↓sop, ↓aop, ↓reduceIte, LV.cells, AOp.dst, LV.I, LV.B, LV.U, LV.S, LV.nil, Nat.reduceEqDiff, Nat.reduceAdd, Nat.reduceMul, Nat.reduceSub, Nat.reduceLeDiff, Nat.reduceBEq, Nat.reduceDiv, Nat.reduceMod, Int.reduceToNat, Int.reduceLT, Int.reduceLE, Int.reduceAdd, Int.reduceSub, Int.reduceMul, Int.reduceEq, Int.reduceNeg, reduceCtorEq, resV, resAll, ARes.ev, LV.flat, ite_true, ite_false, exists_eq_left', exists_eq_left, keyOf, implies_true, fillC, capOf]
    refine callR_of (h_toShadow h1.app h2.app h3.app l1 l2 l3) ?_
    rintro _ N1 ⟨a, b, c, rfl, ha, hb, hc, _, _, _, la, lb, lc, hp1⟩
    have b1 : Live N1 M.length (.row [.I x, .I y, .I z, .ref t o tp.length, .ref t' o' fr.length, .ref t2 o2 sd.length] true 0) := Live.new.pre hp1
    have hM1 : Pre M N1 := (Pre.app _ _).trans hp1
    simp (disch := omega) only [↓SXd, SXu, slBounds, ↓sop, ↓aop, ↓reduceIte, LV.cells, AOp.dst, LV.I, LV.B, LV.U, LV.S, LV.nil, Nat.reduceEqDiff, Nat.reduceAdd, Nat.reduceMul, Nat.reduceSub, Nat.reduceLeDiff, Nat.reduceBEq, Nat.reduceDiv, Nat.reduceMod, Int.reduceToNat, Int.reduceLT, Int.reduceLE, Int.reduceAdd, Int.reduceSub, Int.reduceMul, Int.reduceEq, Int.reduceNeg, reduceCtorEq, resV, resAll, ARes.ev, LV.flat, ite_true, ite_false, exists_eq_left', exists_eq_left, keyOf, implies_true, fillC, capOf]
    refine callR_of (h_sFewestCubes la.has lb.has lc.has l1 l2 l3) ?_
    rintro _ N2 ⟨rfl, hp2⟩
    have b2 := b1.pre hp2
    have hM2 := hM1.trans hp2
    simp (disch := omega) only [b2.cells, ↓SXd, SXu, slBounds, ↓sop, ↓aop, ↓reduceIte, LV.cells, AOp.dst, LV.I, LV.B, LV.U, LV.S, LV.nil, Nat.reduceEqDiff, Nat.reduceAdd, Nat.reduceMul, Nat.reduceSub, Nat.reduceLeDiff, Nat.reduceBEq, Nat.reduceDiv, Nat.reduceMod, Int.reduceToNat, Int.reduceLT, Int.reduceLE, Int.reduceAdd, Int.reduceSub, Int.reduceMul, Int.reduceEq, Int.reduceNeg, reduceCtorEq, resV, resAll, ARes.ev, LV.flat, ite_true, ite_false, exists_eq_left', exists_eq_left, keyOf, implies_true, fillC, capOf]
    clear la lb lc
    refine callR_of (h_toShadow (h1.pre hM2) (h2.pre hM2) (h3.pre hM2) l1 l2 l3) ?_
    rintro _ N3 ⟨a, b, c, rfl, ha, hb, hc, _, _, _, la, lb, lc, hp3⟩
    have b3 := b2.pre hp3
    have hM3 := hM2.trans hp3
    simp (disch := omega) only [↓SXd, SXu, slBounds, ↓sop, ↓aop, ↓reduceIte, LV.cells, AOp.dst, LV.I, LV.B, LV.U, LV.S, LV.nil, Nat.reduceEqDiff, Nat.reduceAdd, Nat.reduceMul, Nat.reduceSub, Nat.reduceLeDiff, Nat.reduceBEq, Nat.reduceDiv, Nat.reduceMod, Int.reduceToNat, Int.reduceLT, Int.reduceLE, Int.reduceAdd, Int.reduceSub, Int.reduceMul, Int.reduceEq, Int.reduceNeg, reduceCtorEq, resV, resAll, ARes.ev, LV.flat, ite_true, ite_false, exists_eq_left', exists_eq_left, keyOf, implies_true, fillC, capOf]
    refine callR_of (g_FewestCubes la.app.has lb.app.has lc.app.has l1 l2 l3) ?_
    rintro _ N4 ⟨rfl, hp4⟩
    have b4 := (b3.app).pre hp4
    have hM4 := (hM3.app').trans hp4
    have x4 : Live N4 N3.length (.row [.I x, .I y, .I z, .ref a 0 tp.length, .ref b 0 fr.length, .ref c 0 sd.length] true 0) := Live.new.pre hp4
    have la4 := la.app.pre hp4
    have lb4 := lb.app.pre hp4
    have lc4 := lc.app.pre hp4
    simp (disch := omega) only [b4.cells, x4.cells, ↓SXd, SXu, slBounds, ↓sop, ↓aop, ↓reduceIte, LV.cells, AOp.dst, LV.I, LV.B, LV.U, LV.S, LV.nil, Nat.reduceEqDiff, Nat.reduceAdd, Nat.reduceMul, Nat.reduceSub, Nat.reduceLeDiff, Nat.reduceBEq, Nat.reduceDiv, Nat.reduceMod, Int.reduceToNat, Int.reduceLT, Int.reduceLE, Int.reduceAdd, Int.reduceSub, Int.reduceMul, Int.reduceEq, Int.reduceNeg, reduceCtorEq, resV, resAll, ARes.ev, LV.flat, ite_true, ite_false, exists_eq_left', exists_eq_left, keyOf, implies_true, fillC, capOf]
    refine callR_of (h_toShadow (h1.pre hM4) (h2.pre hM4) (h3.pre hM4) l1 l2 l3) ?_
    rintro _ N5 ⟨a', b', c', rfl, ha', hb', hc', _, _, _, la', lb', lc', hp5⟩
    have x5 := x4.pre hp5
    simp (disch := omega) only [x5.cells, ↓SXd, SXu, slBounds, ↓sop, ↓aop, ↓reduceIte, LV.cells, AOp.dst, LV.I, LV.B, LV.U, LV.S, LV.nil, Nat.reduceEqDiff, Nat.reduceAdd, Nat.reduceMul, Nat.reduceSub, Nat.reduceLeDiff, Nat.reduceBEq, Nat.reduceDiv, Nat.reduceMod, Int.reduceToNat, Int.reduceLT, Int.reduceLE, Int.reduceAdd, Int.reduceSub, Int.reduceMul, Int.reduceEq, Int.reduceNeg, reduceCtorEq, resV, resAll, ARes.ev, LV.flat, ite_true, ite_false, exists_eq_left', exists_eq_left, keyOf, implies_true, fillC, capOf]
    have he := h_eqShadow (x := x) (y := y) (z := z) (x' := x) (y' := y) (z' := z) (M := N5) (.inr ⟨_, _, rfl, (la4.pre hp5).has⟩) (.inr ⟨_, _, rfl, (lb4.pre hp5).has⟩) (.inr ⟨_, _, rfl, (lc4.pre hp5).has⟩) (.inr ⟨_, _, rfl, la'.has⟩) (.inr ⟨_, _, rfl, lb'.has⟩) (.inr ⟨_, _, rfl, lc'.has⟩) l1 l2 l3 l1 l2 l3
    rw [decide_eq_true (by simp)] at he
    refine ⟨fun q hq => (x5.trans x4.symm).trans hq, ?_⟩
    refine callK_of he ?_
    simp (disch := omega) only [↓SXd, SXu, slBounds, ↓sop, ↓aop, ↓reduceIte, LV.cells, AOp.dst, LV.I, LV.B, LV.U, LV.S, LV.nil, Nat.reduceEqDiff, Nat.reduceAdd, Nat.reduceMul, Nat.reduceSub, Nat.reduceLeDiff, Nat.reduceBEq, Nat.reduceDiv, Nat.reduceMod, Int.reduceToNat, Int.reduceLT, Int.reduceLE, Int.reduceAdd, Int.reduceSub, Int.reduceMul, Int.reduceEq, Int.reduceNeg, reduceCtorEq, resV, resAll, ARes.ev, LV.flat, ite_true, ite_false, exists_eq_left', exists_eq_left, keyOf, implies_true, fillC, capOf]
    rfl
end Go.Ab

/- From the abstract machine to a row: a law that is called with what came in. -/
namespace Go.Ab
open Go Go.RowKit

/-- A memory of which nothing is ours. -/
def NoOwn (M : Mem) : Prop := ∀ t b, Live M t b → b.isOwn = false

theorem law_callsR {P : Program} {f : FuncId} {args : List LV} {M : Mem} {b : Bool} {G : Gh} {w : World} {xs : List Value} (hc : CallsR P f args M fun v _ => v = .B b) (hi : Inv G M w) (hn : NoOwn M) (hx : All2 (VR G) args xs) :
    Calls P f xs.toArray w fun e w' => e = .returned (.bool b) ∧ Below w.heap.size w w' := by
  refine (hc.2 G w xs hi hx).mono ?_
  rintro e w' ⟨v, N, x, G', rfl, rfl, h1, h2, h3⟩
  refine ⟨by rw [(vr_val h1).1], h3.os, h3.tape, h3.output, h3.size, fun k hk => h3.keep k hk ?_⟩
  rintro ⟨t, blk, β, hl, ho, _⟩
  rw [hn t blk hl] at ho; cases ho
end Go.Ab

/- A heap that came in, opened. -/
namespace Go.Ab
open Go Go.RowKit

section
variable {H : Type} {enc : TypeId × Value → H} {P : Program} {w : World} {held : Bool}

/-- What the abstract machine is told of a slice of cells that came in. -/
def RowOf (w : World) (a : Option Addr) (len cap : Nat) (cs : List Cell) : Prop :=
  cs.length = len ∧ len ≤ cap ∧ cap ≤ maxLen ∧ (cap = 0 ∨ ∃ b o c e fz, a = some ⟨b, o, none⟩ ∧ w.heap[b]? = some (.cells c e fz) ∧ ∀ i, i < len → ∀ j v, (cs.getD i default).row[j]? = some (.I v) → c[o + (i * 3 + j)]? = some (.int .i64 v))

theorem cell_heap {a : Addr} {v : Value} (h : w.cell? a = some v) : ∃ b o c e fz, a = ⟨b, o, none⟩ ∧ w.heap[b]? = some (.cells c e fz) ∧ c[o]? = some v := by
  unfold World.cell? at h
  split at h
  · rename_i c e fz hh
    split at h
    · cases h
    · rename_i hs
      obtain ⟨b, o, s⟩ := a
      cases s with
      | some s => simp at hs
      | none => exact ⟨b, o, c, e, fz, rfl, hh, h⟩
  · cases h

end

/-- A row that came in is laid into the abstract memory, to be read. -/
theorem Inv.addRow {G : Gh} {M : Mem} {w : World} (hi : Inv G M w) (hno : NoOwn M) {a : Option Addr} {len cap esz : Nat} {ls : List LV} (hl : len ≤ cap) (hll : ls.length ≤ cap * esz)
    (h : (cap = 0 ∧ ls = []) ∨ ∃ b o c e fz, a = some ⟨b, o, none⟩ ∧ w.heap[b]? = some (.cells c e fz) ∧ ∀ j l, ls[j]? = some l → ∃ x, c[o + j]? = some x ∧ VR1 G l x) :
    ∃ G', Ext G G' ∧ Inv G' (M ++ [some (.row ls false esz)]) w ∧ NoOwn (M ++ [some (.row ls false esz)]) ∧ VR1 G' (.ref M.length 0 len) (.slice a len cap) := by
  obtain ⟨β, hβ, hv⟩ : ∃ β : Base, (∀ G' : Gh, Ext G G' → EmbB G' w (.row ls false esz) β) ∧ (∀ G' : Gh, G' M.length = some β → VR1 G' (.ref M.length 0 len) (.slice a len cap)) := by
    rcases h with ⟨rfl, rfl⟩ | ⟨b, o, c, e, fz, rfl, hh, hc⟩
    · refine ⟨⟨0, 0, esz, 0, true⟩, fun G' _ => ⟨rfl, .inl ⟨rfl, rfl⟩⟩, fun G' hg => ⟨_, hg, a, 0, rfl, .inl ⟨by omega, rfl⟩⟩⟩
    · refine ⟨⟨b, o, esz, cap * esz, false⟩, fun G' hx => ⟨rfl, .inr ⟨rfl, c, e, fz, hh, (fun h => by cases h), hll, fun j l hj => ?_⟩⟩, fun G' hg => ⟨_, hg, _, cap, rfl, .inr ⟨rfl, rfl, hl, by simp⟩⟩⟩
      obtain ⟨x, h1, h2⟩ := hc j l hj
      exact ⟨x, h1, h2.ext hx⟩
  have hx : Ext G (G.put M.length β) := Gh.put_ext (hi.top _ (Nat.le_refl _))
  have hat : (G.put M.length β) M.length = some β := by simp [Gh.put]
  have hno' : NoOwn (M ++ [some (.row ls false esz)]) := fun t b hb => by
    rcases live_push hb with ⟨_, h1⟩ | ⟨_, rfl⟩
    · exact hno t b h1
    · rfl
  refine ⟨G.put M.length β, hx, ⟨fun t b hb => ?_, fun t t' b b' γ γ' _ hb _ ho => ?_, fun t ht => ?_⟩, hno', hv _ hat⟩
  · rcases live_push hb with ⟨hlt, h1⟩ | ⟨rfl, rfl⟩
    · obtain ⟨γ, hg, he⟩ := hi.emb t b h1
      exact ⟨γ, hx _ _ hg, he.ext hx fun _ => rfl⟩
    · exact ⟨β, hat, hβ _ hx⟩
  · rw [hno' t b hb] at ho; cases ho
  · simp at ht
    unfold Gh.put
    rw [if_neg (by omega)]
    exact hi.top t (by omega)

theorem Inv.none (w : World) : Inv (fun _ => Option.none) [] w := ⟨fun t b h => by unfold Live at h; simp at h, fun t t' b b' _ _ _ h => by unfold Live at h; simp at h, fun _ _ => rfl⟩
theorem NoOwn.none : NoOwn [] := fun t b h => by unfold Live at h; simp at h

end Go.Ab

/- A list of numbers that came in, opened. -/
namespace Go.Ab
open Go Go.RowKit Go.Joins Go.ChangeShapes Go.WideShapes Go.Deep Go.WideElems Go.Maps

/-- What the abstract machine is told of a slice of numbers that came in. -/
def RowOfI (w : World) (a : Option Addr) (len cap : Nat) (xs : List Int) : Prop :=
  xs.length = len ∧ len ≤ cap ∧ cap ≤ maxLen ∧ (cap = 0 ∨ ∃ b o c e fz, a = some ⟨b, o, none⟩ ∧ w.heap[b]? = some (.cells c e fz) ∧ ∀ i, i < len → c[o + i]? = some (.int .i64 (xs.getD i 0)))

section
variable {H : Type} {enc : TypeId × Value → H} {P : Program} {w : World} {held : Bool}
theorem open_intsI {ts ti : TypeId} {fuel : Nat} {cs : List Value} {x : DataW H × List MemPlace} (hts : P.underlying ts = some (.slice ti)) (hti : P.underlying ti = some (.int .i64)) (hci : P.cellsOf ti = 1)
    (h : DataW.trod enc P w 0 (fun _ => true) held fuel ts cs = some x) : ∃ a len cap xs, cs = [.slice a len cap] ∧ RowOfI w a len cap xs := by
  rcases Go.ChangeShapes.open_ints hts hti hci h with ⟨rfl, _⟩ | ⟨a, len, cap, zs, rfl, _, hl, hm, hz, _, hel, _⟩
  · exact ⟨none, 0, 0, [], rfl, rfl, Nat.le_refl _, Nat.zero_le _, .inl rfl⟩
  · have hzl : zs.length = cap := by simpa using hz
    refine ⟨some a, len, cap, zs.take len, rfl, by simp; omega, hl, hm, ?_⟩
    rcases Nat.eq_zero_or_pos cap with h0 | h0
    · exact .inl h0
    · refine .inr ?_
      have hc0 := hel 0 (by omega)
      obtain ⟨b, o, c, e, fz, ha, hh, _⟩ := cell_heap hc0
      have ha' : a = ⟨b, o, none⟩ := by simpa [Addr.add] using ha
      subst ha'
      refine ⟨b, o, c, e, fz, rfl, hh, fun i hi => ?_⟩
      have hcell := hel i (by omega)
      have hadd : (⟨b, o, none⟩ : Addr).add i = ⟨b, o + i, none⟩ := addr_add _ _ _
      rw [hadd] at hcell
      unfold World.cell? at hcell
      simp only [hh] at hcell
      have hg : (zs.take len).getD i 0 = zs.getD i 0 := by simp [List.getElem?_take, hi]
      rw [hg]
      simpa using hcell
end

theorem Inv.addInts {G : Gh} {M : Mem} {w : World} (hi : Inv G M w) (hno : NoOwn M) {a : Option Addr} {len cap : Nat} {xs : List Int} (h : RowOfI w a len cap xs) :
    ∃ G', Ext G G' ∧ Inv G' (M ++ [some (.row (intL xs) false 1)]) w ∧ NoOwn (M ++ [some (.row (intL xs) false 1)]) ∧ VR1 G' (.ref M.length 0 len) (.slice a len cap) := by
  obtain ⟨h1, h2, h3, h4⟩ := h
  refine hi.addRow hno h2 (by rw [intL_len]; omega) ?_
  rcases h4 with h0 | ⟨b, o, c, e, fz, ha, hh, hc⟩
  · refine .inl ⟨h0, ?_⟩
    have : xs = [] := List.eq_nil_of_length_eq_zero (by omega)
    rw [this]; rfl
  · refine .inr ⟨b, o, c, e, fz, ha, hh, fun j l hj => ?_⟩
    have hjl : j < xs.length := by
      rw [← intL_len]
      rcases Nat.lt_or_ge j (intL xs).length with h | h
      · exact h
      · rw [List.getElem?_eq_none h] at hj; cases hj
    rw [intL_get hjl] at hj
    cases hj
    exact ⟨_, hc j (by omega), rfl, rfl⟩

theorem array6 {α : Type} {cs : Array α} (h : cs.size = 6) : ∃ c0 c1 c2 c3 c4 c5, cs = #[c0, c1, c2, c3, c4, c5] := by
  obtain ⟨l⟩ := cs
  match l, h with
  | [c0, c1, c2, c3, c4, c5], _ => exact ⟨c0, c1, c2, c3, c4, c5, rfl⟩
section
variable {H : Type} {enc : TypeId × Value → H} {P : Program} {w : World} {base : Nat} {spare : Nat → Bool} {held : Bool}
/-- A struct of six fields, read. -/
theorem trod_struct6 {t : TypeId} {f0 f1 f2 f3 f4 f5 : Field} {fuel : Nat} {cs : List Value} {x : DataW H × List MemPlace} (ht : P.underlying t = some (.struct #[f0, f1, f2, f3, f4, f5])) (h : DataW.trod enc P w base spare held fuel t cs = some x) :
    ∃ y0 y1 y2 y3 y4 y5 n, x = (.agg [y0.1, y1.1, y2.1, y3.1, y4.1, y5.1], y0.2 ++ (y1.2 ++ (y2.2 ++ (y3.2 ++ (y4.2 ++ (y5.2)))))) ∧ cs.length = P.cellsOf t ∧ DataW.trod enc P w base spare held n f0.type ((cs.drop f0.offset).take (P.cellsOf f0.type)) = some y0 ∧ DataW.trod enc P w base spare held n f1.type ((cs.drop f1.offset).take (P.cellsOf f1.type)) = some y1 ∧ DataW.trod enc P w base spare held n f2.type ((cs.drop f2.offset).take (P.cellsOf f2.type)) = some y2 ∧ DataW.trod enc P w base spare held n f3.type ((cs.drop f3.offset).take (P.cellsOf f3.type)) = some y3 ∧ DataW.trod enc P w base spare held n f4.type ((cs.drop f4.offset).take (P.cellsOf f4.type)) = some y4 ∧ DataW.trod enc P w base spare held n f5.type ((cs.drop f5.offset).take (P.cellsOf f5.type)) = some y5 := by
  obtain ⟨xs, n, _, rfl, hl, hlen, hf⟩ := DataW.trod_struct ht h
  match xs, hlen with
  | [y0, y1, y2, y3, y4, y5], _ => exact ⟨y0, y1, y2, y3, y4, y5, n, by simp, hl, by simpa using hf 0 f0 rfl, by simpa using hf 1 f1 rfl, by simpa using hf 2 f2 rfl, by simpa using hf 3 f3 rfl, by simpa using hf 4 f4 rfl, by simpa using hf 5 f5 rfl⟩
/-- A struct of six one-cell fields by value, opened. -/
theorem open_agg6 {r : Go.Reach} {b0 : Nat} {t : TypeId} {f0 f1 f2 f3 f4 f5 : Field} {v : Value} {d : DataW H} {p : List MemPlace} (hs : P.underlying t = some (.struct #[f0, f1, f2, f3, f4, f5])) (hone : oneCellFields P #[f0, f1, f2, f3, f4, f5] = true) (hC : P.cellsOf t = 6)
    (hv : Value.okWide P w r b0 t v) (h : DataW.Trod enc P w base spare held t v d p) :
    ∃ (v0 v1 v2 v3 v4 v5 : Value) (y0 y1 y2 y3 y4 y5 : DataW H × List MemPlace) (n : Nat), v = .agg #[v0, v1, v2, v3, v4, v5] ∧ d = .agg [y0.1, y1.1, y2.1, y3.1, y4.1, y5.1] ∧ p = y0.2 ++ (y1.2 ++ (y2.2 ++ (y3.2 ++ (y4.2 ++ (y5.2))))) ∧
      DataW.trod enc P w base spare held n f0.type [v0] = some y0 ∧ DataW.trod enc P w base spare held n f1.type [v1] = some y1 ∧ DataW.trod enc P w base spare held n f2.type [v2] = some y2 ∧ DataW.trod enc P w base spare held n f3.type [v3] = some y3 ∧ DataW.trod enc P w base spare held n f4.type [v4] = some y4 ∧ DataW.trod enc P w base spare held n f5.type [v5] = some y5 := by
  obtain ⟨cs, rfl, hsz⟩ := okWide_struct hs hv
  obtain ⟨c0, c1, c2, c3, c4, c5, rfl⟩ := array6 (hsz.trans hC)
  obtain ⟨fuel, hf⟩ := h
  obtain ⟨y0, y1, y2, y3, y4, y5, n, hx, _, h0, h1, h2, h3, h4, h5⟩ := trod_struct6 hs hf
  obtain ⟨o0, k0⟩ := hone_of hone 0 f0 rfl
  obtain ⟨o1, k1⟩ := hone_of hone 1 f1 rfl
  obtain ⟨o2, k2⟩ := hone_of hone 2 f2 rfl
  obtain ⟨o3, k3⟩ := hone_of hone 3 f3 rfl
  obtain ⟨o4, k4⟩ := hone_of hone 4 f4 rfl
  obtain ⟨o5, k5⟩ := hone_of hone 5 f5 rfl
  simp only [Prod.mk.injEq] at hx
  exact ⟨c0, c1, c2, c3, c4, c5, y0, y1, y2, y3, y4, y5, n, rfl, hx.1, hx.2, by simpa [Value.cells, o0, k0] using h0, by simpa [Value.cells, o1, k1] using h1, by simpa [Value.cells, o2, k2] using h2, by simpa [Value.cells, o3, k3] using h3, by simpa [Value.cells, o4, k4] using h4, by simpa [Value.cells, o5, k5] using h5⟩
end
end Go.Ab
