/- Parts of the proof of FnExactFewestCubesSaid: Ua C_Wk K_Wk C_Wi K_Wi C_Wh K_Wh C_Wb K_Wb C_Ug K_Ug C_Ud K_Ud C_Uc K_Uc C_Ub K_Ub C_Ea K_Ea Ma Ea C_Db K_Db Db Na Ub C_Nb K_Nb Nb. -/
import Derived.Test.YtjpdjjeddagjlaaA4
import Derived.Test.YtjpdjjeddagjlaaA3
import Derived.Test.YtjpdjjeddagjlaaProg
import Derived.KernelRfl
set_option linter.all false
/- Contracts: the laws' helpers on shadows. -/
namespace Go.Ab
open Go
set_option linter.unusedSimpArgs false
set_option linter.unusedVariables false

theorem h_szIntS {t o n : Nat} {left : Int} {M : Mem} (h : 0 ≤ left) (h' : left ≤ 10000000) (hn : n ≤ 9223372036854775807) :
    CallsTo PG F.laws_szIntS [.ref t o n, .I left] M (.I (if left < n then -1 else left - n)) M := by
  refine calls_run K.laws_szIntS rfl ?_
  simp (disch := omega) only [C.laws_szIntS, ↓SXd, SXu, slBounds, ↓sop, ↓aop, ↓reduceIte, LV.cells, AOp.dst, LV.I, LV.B, LV.U, LV.S, LV.nil, Nat.reduceEqDiff, Nat.reduceAdd, Nat.reduceMul, Nat.reduceSub, Nat.reduceLeDiff, Nat.reduceBEq, Nat.reduceDiv, Nat.reduceMod, Int.reduceToNat, Int.reduceLT, Int.reduceLE, Int.reduceAdd, Int.reduceSub, Int.reduceMul, Int.reduceEq, Int.reduceNeg, reduceCtorEq, resV, resAll, ARes.ev, LV.flat, ite_true, ite_false, exists_eq_left', exists_eq_left, keyOf, implies_true, fillC, capOf]
  refine condC_dec (fun h => ?_) (fun h => ?_)
  · simp (disch := omega) only [↓SXd, SXu, slBounds, ↓sop, ↓aop, ↓reduceIte, LV.cells, AOp.dst, LV.I, LV.B, LV.U, LV.S, LV.nil, Nat.reduceEqDiff, Nat.reduceAdd, Nat.reduceMul, Nat.reduceSub, Nat.reduceLeDiff, Nat.reduceBEq, Nat.reduceDiv, Nat.reduceMod, Int.reduceToNat, Int.reduceLT, Int.reduceLE, Int.reduceAdd, Int.reduceSub, Int.reduceMul, Int.reduceEq, Int.reduceNeg, reduceCtorEq, resV, resAll, ARes.ev, LV.flat, ite_true, ite_false, exists_eq_left', exists_eq_left, keyOf, implies_true, fillC, capOf]
    rw [if_pos (by omega)]; exact cmp_drop0 rfl
  · simp (disch := omega) only [↓SXd, SXu, slBounds, ↓sop, ↓aop, ↓reduceIte, LV.cells, AOp.dst, LV.I, LV.B, LV.U, LV.S, LV.nil, Nat.reduceEqDiff, Nat.reduceAdd, Nat.reduceMul, Nat.reduceSub, Nat.reduceLeDiff, Nat.reduceBEq, Nat.reduceDiv, Nat.reduceMod, Int.reduceToNat, Int.reduceLT, Int.reduceLE, Int.reduceAdd, Int.reduceSub, Int.reduceMul, Int.reduceEq, Int.reduceNeg, reduceCtorEq, resV, resAll, ARes.ev, LV.flat, ite_true, ite_false, exists_eq_left', exists_eq_left, keyOf, implies_true, fillC, capOf]
    rw [if_neg (by omega)]; exact cmp_drop0 rfl
theorem h_szShadow {x y z : Int} {t o n t' o' n' t2 o2 n2 : Nat} {left : Int} {M : Mem} (h : 0 ≤ left) (h' : left ≤ 10000000) (hn : n ≤ 9223372036854775807) (hn' : n' ≤ 9223372036854775807) (hn2 : n2 ≤ 9223372036854775807) :
    CallsTo PG F.laws_szShadow [.agg [.I x, .I y, .I z, .ref t o n, .ref t' o' n', .ref t2 o2 n2], .I left] M (.I (if left < n + n' + n2 then -1 else left - n - n' - n2)) M := by
  refine calls_run K.laws_szShadow rfl ?_
  simp (disch := omega) only [C.laws_szShadow, ↓SXd, SXu, slBounds, ↓sop, ↓aop, ↓reduceIte, LV.cells, AOp.dst, LV.I, LV.B, LV.U, LV.S, LV.nil, Nat.reduceEqDiff, Nat.reduceAdd, Nat.reduceMul, Nat.reduceSub, Nat.reduceLeDiff, Nat.reduceBEq, Nat.reduceDiv, Nat.reduceMod, Int.reduceToNat, Int.reduceLT, Int.reduceLE, Int.reduceAdd, Int.reduceSub, Int.reduceMul, Int.reduceEq, Int.reduceNeg, reduceCtorEq, resV, resAll, ARes.ev, LV.flat, ite_true, ite_false, exists_eq_left', exists_eq_left, keyOf, implies_true, fillC, capOf]
  refine callK_of (h_szIntS h h' hn) ?_
  simp (disch := omega) only [↓SXd, SXu, slBounds, ↓sop, ↓aop, ↓reduceIte, LV.cells, AOp.dst, LV.I, LV.B, LV.U, LV.S, LV.nil, Nat.reduceEqDiff, Nat.reduceAdd, Nat.reduceMul, Nat.reduceSub, Nat.reduceLeDiff, Nat.reduceBEq, Nat.reduceDiv, Nat.reduceMod, Int.reduceToNat, Int.reduceLT, Int.reduceLE, Int.reduceAdd, Int.reduceSub, Int.reduceMul, Int.reduceEq, Int.reduceNeg, reduceCtorEq, resV, resAll, ARes.ev, LV.flat, ite_true, ite_false, exists_eq_left', exists_eq_left, keyOf, implies_true, fillC, capOf]
  by_cases h1 : left < n
  · rw [if_pos h1, if_pos (by omega)]
    simp (disch := omega) only [Int.reduceLT, ↓SXd, SXu, slBounds, ↓sop, ↓aop, ↓reduceIte, LV.cells, AOp.dst, LV.I, LV.B, LV.U, LV.S, LV.nil, Nat.reduceEqDiff, Nat.reduceAdd, Nat.reduceMul, Nat.reduceSub, Nat.reduceLeDiff, Nat.reduceBEq, Nat.reduceDiv, Nat.reduceMod, Int.reduceToNat, Int.reduceLT, Int.reduceLE, Int.reduceAdd, Int.reduceSub, Int.reduceMul, Int.reduceEq, Int.reduceNeg, reduceCtorEq, resV, resAll, ARes.ev, LV.flat, ite_true, ite_false, exists_eq_left', exists_eq_left, keyOf, implies_true, fillC, capOf]
    exact cmp_drop rfl
  · rw [if_neg h1]
    simp (disch := omega) only [↓SXd, SXu, slBounds, ↓sop, ↓aop, ↓reduceIte, LV.cells, AOp.dst, LV.I, LV.B, LV.U, LV.S, LV.nil, Nat.reduceEqDiff, Nat.reduceAdd, Nat.reduceMul, Nat.reduceSub, Nat.reduceLeDiff, Nat.reduceBEq, Nat.reduceDiv, Nat.reduceMod, Int.reduceToNat, Int.reduceLT, Int.reduceLE, Int.reduceAdd, Int.reduceSub, Int.reduceMul, Int.reduceEq, Int.reduceNeg, reduceCtorEq, resV, resAll, ARes.ev, LV.flat, ite_true, ite_false, exists_eq_left', exists_eq_left, keyOf, implies_true, fillC, capOf]
    refine callK_of (h_szIntS (by omega) (by omega) hn') ?_
    simp (disch := omega) only [↓SXd, SXu, slBounds, ↓sop, ↓aop, ↓reduceIte, LV.cells, AOp.dst, LV.I, LV.B, LV.U, LV.S, LV.nil, Nat.reduceEqDiff, Nat.reduceAdd, Nat.reduceMul, Nat.reduceSub, Nat.reduceLeDiff, Nat.reduceBEq, Nat.reduceDiv, Nat.reduceMod, Int.reduceToNat, Int.reduceLT, Int.reduceLE, Int.reduceAdd, Int.reduceSub, Int.reduceMul, Int.reduceEq, Int.reduceNeg, reduceCtorEq, resV, resAll, ARes.ev, LV.flat, ite_true, ite_false, exists_eq_left', exists_eq_left, keyOf, implies_true, fillC, capOf]
    by_cases h2 : left - n < n'
    · rw [if_pos h2, if_pos (by omega)]
      simp (disch := omega) only [Int.reduceLT, ↓SXd, SXu, slBounds, ↓sop, ↓aop, ↓reduceIte, LV.cells, AOp.dst, LV.I, LV.B, LV.U, LV.S, LV.nil, Nat.reduceEqDiff, Nat.reduceAdd, Nat.reduceMul, Nat.reduceSub, Nat.reduceLeDiff, Nat.reduceBEq, Nat.reduceDiv, Nat.reduceMod, Int.reduceToNat, Int.reduceLT, Int.reduceLE, Int.reduceAdd, Int.reduceSub, Int.reduceMul, Int.reduceEq, Int.reduceNeg, reduceCtorEq, resV, resAll, ARes.ev, LV.flat, ite_true, ite_false, exists_eq_left', exists_eq_left, keyOf, implies_true, fillC, capOf]
      exact cmp_drop rfl
    · rw [if_neg h2]
      simp (disch := omega) only [↓SXd, SXu, slBounds, ↓sop, ↓aop, ↓reduceIte, LV.cells, AOp.dst, LV.I, LV.B, LV.U, LV.S, LV.nil, Nat.reduceEqDiff, Nat.reduceAdd, Nat.reduceMul, Nat.reduceSub, Nat.reduceLeDiff, Nat.reduceBEq, Nat.reduceDiv, Nat.reduceMod, Int.reduceToNat, Int.reduceLT, Int.reduceLE, Int.reduceAdd, Int.reduceSub, Int.reduceMul, Int.reduceEq, Int.reduceNeg, reduceCtorEq, resV, resAll, ARes.ev, LV.flat, ite_true, ite_false, exists_eq_left', exists_eq_left, keyOf, implies_true, fillC, capOf]
      refine callK_of (h_szIntS (by omega) (by omega) hn2) ?_
      simp (disch := omega) only [↓SXd, SXu, slBounds, ↓sop, ↓aop, ↓reduceIte, LV.cells, AOp.dst, LV.I, LV.B, LV.U, LV.S, LV.nil, Nat.reduceEqDiff, Nat.reduceAdd, Nat.reduceMul, Nat.reduceSub, Nat.reduceLeDiff, Nat.reduceBEq, Nat.reduceDiv, Nat.reduceMod, Int.reduceToNat, Int.reduceLT, Int.reduceLE, Int.reduceAdd, Int.reduceSub, Int.reduceMul, Int.reduceEq, Int.reduceNeg, reduceCtorEq, resV, resAll, ARes.ev, LV.flat, ite_true, ite_false, exists_eq_left', exists_eq_left, keyOf, implies_true, fillC, capOf]
      by_cases h3 : left - n - n' < n2
      · rw [if_pos h3, if_pos (by omega)]
        simp (disch := omega) only [Int.reduceLT, ↓SXd, SXu, slBounds, ↓sop, ↓aop, ↓reduceIte, LV.cells, AOp.dst, LV.I, LV.B, LV.U, LV.S, LV.nil, Nat.reduceEqDiff, Nat.reduceAdd, Nat.reduceMul, Nat.reduceSub, Nat.reduceLeDiff, Nat.reduceBEq, Nat.reduceDiv, Nat.reduceMod, Int.reduceToNat, Int.reduceLT, Int.reduceLE, Int.reduceAdd, Int.reduceSub, Int.reduceMul, Int.reduceEq, Int.reduceNeg, reduceCtorEq, resV, resAll, ARes.ev, LV.flat, ite_true, ite_false, exists_eq_left', exists_eq_left, keyOf, implies_true, fillC, capOf]
        exact cmp_drop rfl
      · rw [if_neg h3, if_neg (by omega)]
        simp (disch := omega) only [↓SXd, SXu, slBounds, ↓sop, ↓aop, ↓reduceIte, LV.cells, AOp.dst, LV.I, LV.B, LV.U, LV.S, LV.nil, Nat.reduceEqDiff, Nat.reduceAdd, Nat.reduceMul, Nat.reduceSub, Nat.reduceLeDiff, Nat.reduceBEq, Nat.reduceDiv, Nat.reduceMod, Int.reduceToNat, Int.reduceLT, Int.reduceLE, Int.reduceAdd, Int.reduceSub, Int.reduceMul, Int.reduceEq, Int.reduceNeg, reduceCtorEq, resV, resAll, ARes.ev, LV.flat, ite_true, ite_false, exists_eq_left', exists_eq_left, keyOf, implies_true, fillC, capOf]
        exact cmp_drop rfl

theorem h_eqShadow {x y z : Int} {a b c a' b' c' : LV} {tp fr sd tp' fr' sd' : List Int} {x' y' z' : Int} {M : Mem} (h1 : IntsV M a tp) (h2 : IntsV M b fr) (h3 : IntsV M c sd) (k1 : IntsV M a' tp') (k2 : IntsV M b' fr') (k3 : IntsV M c' sd')
    (l1 : tp.length ≤ 1000000000) (l2 : fr.length ≤ 1000000000) (l3 : sd.length ≤ 1000000000) (m1 : tp'.length ≤ 1000000000) (m2 : fr'.length ≤ 1000000000) (m3 : sd'.length ≤ 1000000000) :
    CallsTo PG F.laws_eqShadow [.agg [.I x, .I y, .I z, a, b, c], .agg [.I x', .I y', .I z', a', b', c']] M (.B (decide (x = x' ∧ y = y' ∧ z = z' ∧ tp = tp' ∧ fr = fr' ∧ sd = sd'))) M := by
  have hv : ∀ {v : LV} {l : List Int}, IntsV M v l → v.one = true ∧ v.cells = some [v] ∧ v.lo1 M.length = true := fun {v l} h => by
    rcases h with ⟨rfl, rfl⟩ | ⟨t, o, rfl, h⟩
    · exact ⟨rfl, rfl, rfl⟩
    · exact ⟨rfl, rfl, decide_eq_true h.lt⟩
  refine calls_run K.laws_eqShadow rfl ?_
  simp (disch := omega) only [C.laws_eqShadow, ↓SXd, SXu, slBounds, ↓sop, ↓aop, ↓reduceIte, LV.cells, AOp.dst, LV.I, LV.B, LV.U, LV.S, LV.nil, Nat.reduceEqDiff, Nat.reduceAdd, Nat.reduceMul, Nat.reduceSub, Nat.reduceLeDiff, Nat.reduceBEq, Nat.reduceDiv, Nat.reduceMod, Int.reduceToNat, Int.reduceLT, Int.reduceLE, Int.reduceAdd, Int.reduceSub, Int.reduceMul, Int.reduceEq, Int.reduceNeg, reduceCtorEq, resV, resAll, ARes.ev, LV.flat, ite_true, ite_false, exists_eq_left', exists_eq_left, keyOf, implies_true, fillC, capOf]
  by_cases e1 : x = x'
  · by_cases e2 : y = y'
    · by_cases e3 : z = z'
      · simp (disch := omega) only [e1, e2, e3, true_and, ↓SXd, SXu, slBounds, ↓sop, ↓aop, ↓reduceIte, LV.cells, AOp.dst, LV.I, LV.B, LV.U, LV.S, LV.nil, Nat.reduceEqDiff, Nat.reduceAdd, Nat.reduceMul, Nat.reduceSub, Nat.reduceLeDiff, Nat.reduceBEq, Nat.reduceDiv, Nat.reduceMod, Int.reduceToNat, Int.reduceLT, Int.reduceLE, Int.reduceAdd, Int.reduceSub, Int.reduceMul, Int.reduceEq, Int.reduceNeg, reduceCtorEq, resV, resAll, ARes.ev, LV.flat, ite_true, ite_false, exists_eq_left', exists_eq_left, keyOf, implies_true, fillC, capOf]
        refine callK_of (h_eqIntS (h1.pre (Pre.app _ _)) (k1.pre (Pre.app _ _)) l1 m1) ?_
        simp (disch := omega) only [↓SXd, SXu, slBounds, ↓sop, ↓aop, ↓reduceIte, LV.cells, AOp.dst, LV.I, LV.B, LV.U, LV.S, LV.nil, Nat.reduceEqDiff, Nat.reduceAdd, Nat.reduceMul, Nat.reduceSub, Nat.reduceLeDiff, Nat.reduceBEq, Nat.reduceDiv, Nat.reduceMod, Int.reduceToNat, Int.reduceLT, Int.reduceLE, Int.reduceAdd, Int.reduceSub, Int.reduceMul, Int.reduceEq, Int.reduceNeg, reduceCtorEq, resV, resAll, ARes.ev, LV.flat, ite_true, ite_false, exists_eq_left', exists_eq_left, keyOf, implies_true, fillC, capOf]
        by_cases e4 : tp = tp'
        · simp (disch := omega) only [e4, true_and, ↓SXd, SXu, slBounds, ↓sop, ↓aop, ↓reduceIte, LV.cells, AOp.dst, LV.I, LV.B, LV.U, LV.S, LV.nil, Nat.reduceEqDiff, Nat.reduceAdd, Nat.reduceMul, Nat.reduceSub, Nat.reduceLeDiff, Nat.reduceBEq, Nat.reduceDiv, Nat.reduceMod, Int.reduceToNat, Int.reduceLT, Int.reduceLE, Int.reduceAdd, Int.reduceSub, Int.reduceMul, Int.reduceEq, Int.reduceNeg, reduceCtorEq, resV, resAll, ARes.ev, LV.flat, ite_true, ite_false, exists_eq_left', exists_eq_left, keyOf, implies_true, fillC, capOf]
          refine callK_of (h_eqIntS (h2.pre (Pre.app _ _)) (k2.pre (Pre.app _ _)) l2 m2) ?_
          simp (disch := omega) only [↓SXd, SXu, slBounds, ↓sop, ↓aop, ↓reduceIte, LV.cells, AOp.dst, LV.I, LV.B, LV.U, LV.S, LV.nil, Nat.reduceEqDiff, Nat.reduceAdd, Nat.reduceMul, Nat.reduceSub, Nat.reduceLeDiff, Nat.reduceBEq, Nat.reduceDiv, Nat.reduceMod, Int.reduceToNat, Int.reduceLT, Int.reduceLE, Int.reduceAdd, Int.reduceSub, Int.reduceMul, Int.reduceEq, Int.reduceNeg, reduceCtorEq, resV, resAll, ARes.ev, LV.flat, ite_true, ite_false, exists_eq_left', exists_eq_left, keyOf, implies_true, fillC, capOf]
          by_cases e5 : fr = fr'
          · simp (disch := omega) only [e5, true_and, ↓SXd, SXu, slBounds, ↓sop, ↓aop, ↓reduceIte, LV.cells, AOp.dst, LV.I, LV.B, LV.U, LV.S, LV.nil, Nat.reduceEqDiff, Nat.reduceAdd, Nat.reduceMul, Nat.reduceSub, Nat.reduceLeDiff, Nat.reduceBEq, Nat.reduceDiv, Nat.reduceMod, Int.reduceToNat, Int.reduceLT, Int.reduceLE, Int.reduceAdd, Int.reduceSub, Int.reduceMul, Int.reduceEq, Int.reduceNeg, reduceCtorEq, resV, resAll, ARes.ev, LV.flat, ite_true, ite_false, exists_eq_left', exists_eq_left, keyOf, implies_true, fillC, capOf]
            refine callK_of (h_eqIntS (h3.pre (Pre.app _ _)) (k3.pre (Pre.app _ _)) l3 m3) ?_
            simp (disch := omega) only [↓SXd, SXu, slBounds, ↓sop, ↓aop, ↓reduceIte, LV.cells, AOp.dst, LV.I, LV.B, LV.U, LV.S, LV.nil, Nat.reduceEqDiff, Nat.reduceAdd, Nat.reduceMul, Nat.reduceSub, Nat.reduceLeDiff, Nat.reduceBEq, Nat.reduceDiv, Nat.reduceMod, Int.reduceToNat, Int.reduceLT, Int.reduceLE, Int.reduceAdd, Int.reduceSub, Int.reduceMul, Int.reduceEq, Int.reduceNeg, reduceCtorEq, resV, resAll, ARes.ev, LV.flat, ite_true, ite_false, exists_eq_left', exists_eq_left, keyOf, implies_true, fillC, capOf]
            by_cases e6 : sd = sd'
            · simp (disch := omega) only [e6, ↓SXd, SXu, slBounds, ↓sop, ↓aop, ↓reduceIte, LV.cells, AOp.dst, LV.I, LV.B, LV.U, LV.S, LV.nil, Nat.reduceEqDiff, Nat.reduceAdd, Nat.reduceMul, Nat.reduceSub, Nat.reduceLeDiff, Nat.reduceBEq, Nat.reduceDiv, Nat.reduceMod, Int.reduceToNat, Int.reduceLT, Int.reduceLE, Int.reduceAdd, Int.reduceSub, Int.reduceMul, Int.reduceEq, Int.reduceNeg, reduceCtorEq, resV, resAll, ARes.ev, LV.flat, ite_true, ite_false, exists_eq_left', exists_eq_left, keyOf, implies_true, fillC, capOf]
              exact cmp_drop rfl
            · simp (disch := omega) only [e6, ↓SXd, SXu, slBounds, ↓sop, ↓aop, ↓reduceIte, LV.cells, AOp.dst, LV.I, LV.B, LV.U, LV.S, LV.nil, Nat.reduceEqDiff, Nat.reduceAdd, Nat.reduceMul, Nat.reduceSub, Nat.reduceLeDiff, Nat.reduceBEq, Nat.reduceDiv, Nat.reduceMod, Int.reduceToNat, Int.reduceLT, Int.reduceLE, Int.reduceAdd, Int.reduceSub, Int.reduceMul, Int.reduceEq, Int.reduceNeg, reduceCtorEq, resV, resAll, ARes.ev, LV.flat, ite_true, ite_false, exists_eq_left', exists_eq_left, keyOf, implies_true, fillC, capOf]
              exact cmp_drop rfl
          · simp (disch := omega) only [e5, false_and, ↓SXd, SXu, slBounds, ↓sop, ↓aop, ↓reduceIte, LV.cells, AOp.dst, LV.I, LV.B, LV.U, LV.S, LV.nil, Nat.reduceEqDiff, Nat.reduceAdd, Nat.reduceMul, Nat.reduceSub, Nat.reduceLeDiff, Nat.reduceBEq, Nat.reduceDiv, Nat.reduceMod, Int.reduceToNat, Int.reduceLT, Int.reduceLE, Int.reduceAdd, Int.reduceSub, Int.reduceMul, Int.reduceEq, Int.reduceNeg, reduceCtorEq, resV, resAll, ARes.ev, LV.flat, ite_true, ite_false, exists_eq_left', exists_eq_left, keyOf, implies_true, fillC, capOf]
            exact cmp_drop rfl
        · simp (disch := omega) only [e4, false_and, ↓SXd, SXu, slBounds, ↓sop, ↓aop, ↓reduceIte, LV.cells, AOp.dst, LV.I, LV.B, LV.U, LV.S, LV.nil, Nat.reduceEqDiff, Nat.reduceAdd, Nat.reduceMul, Nat.reduceSub, Nat.reduceLeDiff, Nat.reduceBEq, Nat.reduceDiv, Nat.reduceMod, Int.reduceToNat, Int.reduceLT, Int.reduceLE, Int.reduceAdd, Int.reduceSub, Int.reduceMul, Int.reduceEq, Int.reduceNeg, reduceCtorEq, resV, resAll, ARes.ev, LV.flat, ite_true, ite_false, exists_eq_left', exists_eq_left, keyOf, implies_true, fillC, capOf]
          exact cmp_drop rfl
      · simp (disch := omega) only [e1, e2, e3, true_and, false_and, ↓SXd, SXu, slBounds, ↓sop, ↓aop, ↓reduceIte, LV.cells, AOp.dst, LV.I, LV.B, LV.U, LV.S, LV.nil, Nat.reduceEqDiff, Nat.reduceAdd, Nat.reduceMul, Nat.reduceSub, Nat.reduceLeDiff, Nat.reduceBEq, Nat.reduceDiv, Nat.reduceMod, Int.reduceToNat, Int.reduceLT, Int.reduceLE, Int.reduceAdd, Int.reduceSub, Int.reduceMul, Int.reduceEq, Int.reduceNeg, reduceCtorEq, resV, resAll, ARes.ev, LV.flat, ite_true, ite_false, exists_eq_left', exists_eq_left, keyOf, implies_true, fillC, capOf]
        exact cmp_drop rfl
    · simp (disch := omega) only [e1, e2, true_and, false_and, ↓SXd, SXu, slBounds, ↓sop, ↓aop, ↓reduceIte, LV.cells, AOp.dst, LV.I, LV.B, LV.U, LV.S, LV.nil, Nat.reduceEqDiff, Nat.reduceAdd, Nat.reduceMul, Nat.reduceSub, Nat.reduceLeDiff, Nat.reduceBEq, Nat.reduceDiv, Nat.reduceMod, Int.reduceToNat, Int.reduceLT, Int.reduceLE, Int.reduceAdd, Int.reduceSub, Int.reduceMul, Int.reduceEq, Int.reduceNeg, reduceCtorEq, resV, resAll, ARes.ev, LV.flat, ite_true, ite_false, exists_eq_left', exists_eq_left, keyOf, implies_true, fillC, capOf]
      exact cmp_drop rfl
  · simp (disch := omega) only [e1, false_and, ↓SXd, SXu, slBounds, ↓sop, ↓aop, ↓reduceIte, LV.cells, AOp.dst, LV.I, LV.B, LV.U, LV.S, LV.nil, Nat.reduceEqDiff, Nat.reduceAdd, Nat.reduceMul, Nat.reduceSub, Nat.reduceLeDiff, Nat.reduceBEq, Nat.reduceDiv, Nat.reduceMod, Int.reduceToNat, Int.reduceLT, Int.reduceLE, Int.reduceAdd, Int.reduceSub, Int.reduceMul, Int.reduceEq, Int.reduceNeg, reduceCtorEq, resV, resAll, ARes.ev, LV.flat, ite_true, ite_false, exists_eq_left', exists_eq_left, keyOf, implies_true, fillC, capOf]
    exact cmp_drop rfl

theorem h_toIntS {t o : Nat} {xs : List Int} {M : Mem} (h : Ints M t o xs) (hn : xs.length ≤ 1000000000) :
    CallsTo PG F.laws_toIntS [.ref t o xs.length] M (.ref M.length 0 xs.length) (M ++ [some (.row (intL xs) true 1)]) := by
  have ht := h.lt
  refine calls_run K.laws_toIntS rfl ?_
  simp (disch := omega) only [C.laws_toIntS, made_int, ↓SXd, SXu, slBounds, ↓sop, ↓aop, ↓reduceIte, LV.cells, AOp.dst, LV.I, LV.B, LV.U, LV.S, LV.nil, Nat.reduceEqDiff, Nat.reduceAdd, Nat.reduceMul, Nat.reduceSub, Nat.reduceLeDiff, Nat.reduceBEq, Nat.reduceDiv, Nat.reduceMod, Int.reduceToNat, Int.reduceLT, Int.reduceLE, Int.reduceAdd, Int.reduceSub, Int.reduceMul, Int.reduceEq, Int.reduceNeg, reduceCtorEq, resV, resAll, ARes.ev, LV.flat, ite_true, ite_false, exists_eq_left', exists_eq_left, keyOf, implies_true, fillC, capOf]
  refine ev_loop (fun m fr M' => ∃ k : Nat, k + m = xs.length ∧ Pre M M' ∧ Live M' M.length (.row (intL (xs.take k ++ List.replicate (xs.length - k) 0)) true 1) ∧ fr 0 = .ref t o xs.length ∧ fr 3 = .ref M.length 0 xs.length ∧ fr 4 = .I k) xs.length
    ⟨0, by omega, Pre.app _ _, by simpa using Live.new, rfl, rfl, rfl⟩ ?_
  rintro m fr M' ⟨k, hk, hpre, hout, f0, f3, f4⟩
  simp (disch := omega) only [f0, f3, f4, ↓SXd, SXu, slBounds, ↓sop, ↓aop, ↓reduceIte, LV.cells, AOp.dst, LV.I, LV.B, LV.U, LV.S, LV.nil, Nat.reduceEqDiff, Nat.reduceAdd, Nat.reduceMul, Nat.reduceSub, Nat.reduceLeDiff, Nat.reduceBEq, Nat.reduceDiv, Nat.reduceMod, Int.reduceToNat, Int.reduceLT, Int.reduceLE, Int.reduceAdd, Int.reduceSub, Int.reduceMul, Int.reduceEq, Int.reduceNeg, reduceCtorEq, resV, resAll, ARes.ev, LV.flat, ite_true, ite_false, exists_eq_left', exists_eq_left, keyOf, implies_true, fillC, capOf]
  refine condC_dec (fun hlt => ?_) (fun hlt => ?_)
  · have hkl : k < xs.length := by omega
    have hg := Ints.get (h.pre hpre) hkl
    simp (disch := omega) only [f0, f3, f4, hg, Nat.mul_one, ↓SXd, SXu, slBounds, ↓sop, ↓aop, ↓reduceIte, LV.cells, AOp.dst, LV.I, LV.B, LV.U, LV.S, LV.nil, Nat.reduceEqDiff, Nat.reduceAdd, Nat.reduceMul, Nat.reduceSub, Nat.reduceLeDiff, Nat.reduceBEq, Nat.reduceDiv, Nat.reduceMod, Int.reduceToNat, Int.reduceLT, Int.reduceLE, Int.reduceAdd, Int.reduceSub, Int.reduceMul, Int.reduceEq, Int.reduceNeg, reduceCtorEq, resV, resAll, ARes.ev, LV.flat, ite_true, ite_false, exists_eq_left', exists_eq_left, keyOf, implies_true, fillC, capOf]
    refine memK_int hout (by simp; omega) fun N l1 l2 l3 => ?_
    simp (disch := omega) only [f0, f3, f4, ↓SXd, SXu, slBounds, ↓sop, ↓aop, ↓reduceIte, LV.cells, AOp.dst, LV.I, LV.B, LV.U, LV.S, LV.nil, Nat.reduceEqDiff, Nat.reduceAdd, Nat.reduceMul, Nat.reduceSub, Nat.reduceLeDiff, Nat.reduceBEq, Nat.reduceDiv, Nat.reduceMod, Int.reduceToNat, Int.reduceLT, Int.reduceLE, Int.reduceAdd, Int.reduceSub, Int.reduceMul, Int.reduceEq, Int.reduceNeg, reduceCtorEq, resV, resAll, ARes.ev, LV.flat, ite_true, ite_false, exists_eq_left', exists_eq_left, keyOf, implies_true, fillC, capOf]
    refine ⟨m - 1, by omega, k + 1, by omega, pre_step hpre (by omega) (j := 0) l1 l3, ?_, f0, f3, eqI (natI _)⟩
    have e : (xs.take k ++ List.replicate (xs.length - k) 0).set k (xs.getD k 0) = xs.take (k + 1) ++ List.replicate (xs.length - (k + 1)) 0 := by
      have hl : (xs.take k).length = k := by simp; omega
      rw [List.set_append_right _ _ (by omega), hl, Nat.sub_self, show xs.length - k = (xs.length - (k + 1)) + 1 by omega, List.replicate_succ, List.set_cons_zero, List.take_succ, List.getElem?_eq_getElem hkl, List.append_assoc]
      simp [hkl]
    rw [e] at l2; exact l2
  · simp (disch := omega) only [f0, f3, f4, ↓SXd, SXu, slBounds, ↓sop, ↓aop, ↓reduceIte, LV.cells, AOp.dst, LV.I, LV.B, LV.U, LV.S, LV.nil, Nat.reduceEqDiff, Nat.reduceAdd, Nat.reduceMul, Nat.reduceSub, Nat.reduceLeDiff, Nat.reduceBEq, Nat.reduceDiv, Nat.reduceMod, Int.reduceToNat, Int.reduceLT, Int.reduceLE, Int.reduceAdd, Int.reduceSub, Int.reduceMul, Int.reduceEq, Int.reduceNeg, reduceCtorEq, resV, resAll, ARes.ev, LV.flat, ite_true, ite_false, exists_eq_left', exists_eq_left, keyOf, implies_true, fillC, capOf]
    have : k = xs.length := by omega
    subst this
    rw [List.take_length, Nat.sub_self, List.replicate_zero, List.append_nil] at hout
    exact cmp_keepL hpre (by omega) hout (intL_lo _) (by simp [rn, rn0, rn1])

/-- A shadow as a value, its lists in three blocks behind M. -/
def ShdRes (M : Mem) (x y z : Int) (tp fr sd : List Int) (v : LV) (N : Mem) : Prop := ∃ a b c : Nat, v = .agg [.I x, .I y, .I z, .ref a 0 tp.length, .ref b 0 fr.length, .ref c 0 sd.length] ∧ M.length ≤ a ∧ M.length ≤ b ∧ M.length ≤ c ∧ a ≠ b ∧ a ≠ c ∧ b ≠ c ∧
  Live N a (.row (intL tp) true 1) ∧ Live N b (.row (intL fr) true 1) ∧ Live N c (.row (intL sd) true 1) ∧ Pre M N
theorem h_toShadow {x y z : Int} {t o t' o' t2 o2 : Nat} {tp fr sd : List Int} {M : Mem} (h1 : Ints M t o tp) (h2 : Ints M t' o' fr) (h3 : Ints M t2 o2 sd) (l1 : tp.length ≤ 1000000000) (l2 : fr.length ≤ 1000000000) (l3 : sd.length ≤ 1000000000) :
    CallsR PG F.laws_toShadow [.agg [.I x, .I y, .I z, .ref t o tp.length, .ref t' o' fr.length, .ref t2 o2 sd.length]] M (ShdRes M x y z tp fr sd) := by
  refine callsR_run K.laws_toShadow rfl ?_
  simp (disch := omega) only [C.laws_toShadow, splice, ↓SXd, SXu, slBounds, ↓sop, ↓aop, ↓reduceIte, LV.cells, AOp.dst, LV.I, LV.B, LV.U, LV.S, LV.nil, Nat.reduceEqDiff, Nat.reduceAdd, Nat.reduceMul, Nat.reduceSub, Nat.reduceLeDiff, Nat.reduceBEq, Nat.reduceDiv, Nat.reduceMod, Int.reduceToNat, Int.reduceLT, Int.reduceLE, Int.reduceAdd, Int.reduceSub, Int.reduceMul, Int.reduceEq, Int.reduceNeg, reduceCtorEq, resV, resAll, ARes.ev, LV.flat, ite_true, ite_false, exists_eq_left', exists_eq_left, keyOf, implies_true, fillC, capOf]
  refine callK_of (h_toIntS h1.app l1) ?_
  simp (disch := omega) only [splice, ↓SXd, SXu, slBounds, ↓sop, ↓aop, ↓reduceIte, LV.cells, AOp.dst, LV.I, LV.B, LV.U, LV.S, LV.nil, Nat.reduceEqDiff, Nat.reduceAdd, Nat.reduceMul, Nat.reduceSub, Nat.reduceLeDiff, Nat.reduceBEq, Nat.reduceDiv, Nat.reduceMod, Int.reduceToNat, Int.reduceLT, Int.reduceLE, Int.reduceAdd, Int.reduceSub, Int.reduceMul, Int.reduceEq, Int.reduceNeg, reduceCtorEq, resV, resAll, ARes.ev, LV.flat, ite_true, ite_false, exists_eq_left', exists_eq_left, keyOf, implies_true, fillC, capOf]
  refine callK_of (h_toIntS h2.app l2) ?_
  simp (disch := omega) only [splice, ↓SXd, SXu, slBounds, ↓sop, ↓aop, ↓reduceIte, LV.cells, AOp.dst, LV.I, LV.B, LV.U, LV.S, LV.nil, Nat.reduceEqDiff, Nat.reduceAdd, Nat.reduceMul, Nat.reduceSub, Nat.reduceLeDiff, Nat.reduceBEq, Nat.reduceDiv, Nat.reduceMod, Int.reduceToNat, Int.reduceLT, Int.reduceLE, Int.reduceAdd, Int.reduceSub, Int.reduceMul, Int.reduceEq, Int.reduceNeg, reduceCtorEq, resV, resAll, ARes.ev, LV.flat, ite_true, ite_false, exists_eq_left', exists_eq_left, keyOf, implies_true, fillC, capOf]
  refine callK_of (h_toIntS h3.app l3) ?_
  simp (disch := omega) only [splice, ↓SXd, SXu, slBounds, ↓sop, ↓aop, ↓reduceIte, LV.cells, AOp.dst, LV.I, LV.B, LV.U, LV.S, LV.nil, Nat.reduceEqDiff, Nat.reduceAdd, Nat.reduceMul, Nat.reduceSub, Nat.reduceLeDiff, Nat.reduceBEq, Nat.reduceDiv, Nat.reduceMod, Int.reduceToNat, Int.reduceLT, Int.reduceLE, Int.reduceAdd, Int.reduceSub, Int.reduceMul, Int.reduceEq, Int.reduceNeg, reduceCtorEq, resV, resAll, ARes.ev, LV.flat, ite_true, ite_false, exists_eq_left', exists_eq_left, keyOf, implies_true, fillC, capOf]
  exact ⟨M.length + 3, M.length + 4, M.length + 5, rfl, by omega, by omega, by omega, by omega, by omega, by omega, Live.newj rfl, Live.newj rfl, Live.newj rfl, Pre.app _ _⟩
end Go.Ab

/- The abstract code of some functions (written by a program of mine from the translation, by way of prepF). -/
namespace Go.Ab.C
open Go.Ab
def spec_l3Fewest : AFn :=
  ⟨1, 36, [.cellN 2 4],
    .seq (.ops [(none, .box 1 (.t 0)),
       (none, .alloc 2 [(.I 0), (.I 0), (.I 0), .nil])])
    (.seq (.ops [(none, .loadN 7 6 (.t 1)),
        (none, .call (some 8) F.spec_l3Allowed [(.t 7)]),
        (none, .field 9 (.t 8) 3 none),
        (none, .mv 3 (.t 9))])
     (.seq (.seq (.ops [(none, .mv 4 (.c (.I 0)))])
       (.block 0 (.loop (.seq (.seq (.ops [(none, .mv 10 (.t 4)),
              (none, .mv 11 (.t 3)),
              (none, .len 12 (.t 11)),
              (none, .bin 13 .leq (.t 10) (.t 12))])
           (.cond (.t 13) (.skip)
            (.exit 0)))
          (.seq (.block 1 (.seq (.ops [(none, .loadN 17 6 (.t 1)),
                (none, .mv 18 (.t 3)),
                (none, .buildSl 19 0 3 [] []),
                (none, .mv 20 (.t 4)),
                (none, .call (some 21) F.spec_l3Search [(.t 17), (.t 18), (.c (.I 0)), (.t 19), (.t 20)]),
                (none, .mv 16 (.t 21)),
                (none, .extract 22 (.t 16) 0),
                (none, .extract 23 (.t 16) 1),
                (none, .mv 5 (.t 22)),
                (none, .mv 6 (.t 23))])
             (.seq (.ops [(none, .mv 24 (.t 6))])
              (.cond (.t 24) (.seq (.ops [(none, .fieldAddr 25 (.t 1) 0),
                   (none, .load1 26 (.t 25)),
                   (none, .fieldAddr 27 (.t 1) 1),
                   (none, .load1 28 (.t 27)),
                   (none, .fieldAddr 29 (.t 1) 2),
                   (none, .load1 30 (.t 29)),
                   (none, .call (some 31) F.spec_l2Empty [(.t 26), (.t 28), (.t 30)]),
                   (none, .mv 32 (.t 5)),
                   (none, .call (some 33) F.spec_l2Made [(.t 31), (.t 32)]),
                   (none, .store 4 (.t 2) (.t 33))])
                (.ret))
               (.skip)))))
           (.ops [(none, .mv 14 (.t 4)),
              (none, .bin 15 .add (.t 14) (.c (.I 1))),
              (none, .mv 4 (.t 15))]))))))
      (.seq (.ops [(none, .loadN 34 6 (.t 1)),
          (none, .call (some 35) F.spec_l3Allowed [(.t 34)]),
          (none, .store 4 (.t 2) (.t 35))])
       (.ret))))⟩
def spec_l3Small : AFn :=
  ⟨1, 16, [.tmp 2],
    .seq (.ops [(none, .box 1 (.t 0)),
       (none, .mv 2 (.c (.B false)))])
    (.seq (.ops [(none, .loadN 3 6 (.t 1)),
        (none, .call (some 4) F.spec_l3Fit [(.t 3)]),
        (none, .mv 5 (.t 4)),
        (some (5, true), .fieldAddr 6 (.t 1) 0),
        (some (5, true), .load1 7 (.t 6)),
        (some (5, true), .fieldAddr 8 (.t 1) 1),
        (some (5, true), .load1 9 (.t 8)),
        (some (5, true), .bin 10 .mul (.t 7) (.t 9)),
        (some (5, true), .fieldAddr 11 (.t 1) 2),
        (some (5, true), .load1 12 (.t 11)),
        (some (5, true), .bin 13 .mul (.t 10) (.t 12)),
        (some (5, true), .bin 14 .leq (.t 13) (.c (.I 27))),
        (none, .pick 15 (.t 5) (.t 14) (.c (.B false))),
        (none, .mv 2 (.t 15))])
     (.ret))⟩
def spec_FewestCubes : AFn :=
  ⟨1, 11, [.tmp 2, .tmp 3],
    .seq (.ops [(none, .box 1 (.t 0)),
       (none, .mv 2 (.c (.I 0))),
       (none, .mv 3 (.c (.B false)))])
    (.seq (.seq (.ops [(none, .loadN 4 6 (.t 1)),
         (none, .call (some 5) F.spec_l3Small [(.t 4)]),
         (none, .un 6 .not (.t 5))])
      (.cond (.t 6) (.seq (.ops [(none, .mv 2 (.c (.I 0))),
           (none, .mv 3 (.c (.B false)))])
        (.ret))
       (.skip)))
     (.seq (.ops [(none, .loadN 7 6 (.t 1)),
         (none, .call (some 8) F.spec_l3Fewest [(.t 7)]),
         (none, .field 9 (.t 8) 3 none),
         (none, .len 10 (.t 9)),
         (none, .mv 2 (.t 10)),
         (none, .mv 3 (.c (.B true)))])
      (.ret)))⟩
end Go.Ab.C

/- That the program has this code. -/
namespace Go.Ab.K
open Go Go.Ab
theorem spec_l3Fewest : prepF Go.Proofs.Try.prog F.spec_l3Fewest = some C.spec_l3Fewest := by kernel_rfl
theorem spec_l3Small : prepF Go.Proofs.Try.prog F.spec_l3Small = some C.spec_l3Small := by kernel_rfl
theorem spec_FewestCubes : prepF Go.Proofs.Try.prog F.spec_FewestCubes = some C.spec_FewestCubes := by kernel_rfl
end Go.Ab.K

/- The abstract code of some functions (written by a program of mine from the translation, by way of prepF). -/
namespace Go.Ab.C
open Go.Ab
def spec_l3Search : AFn :=
  ⟨5, 107, [.tmp 10, .tmp 11],
    .seq (.ops [(none, .box 5 (.t 0)),
       (none, .mv 10 (.c .nil)),
       (none, .mv 11 (.c (.B false)))])
    (.seq (.ops [(none, .loadN 18 6 (.t 5)),
        (none, .mv 19 (.t 3)),
        (none, .call (some 20) F.spec_l3Dark [(.t 18), (.t 19)]),
        (none, .mv 12 (.t 20))])
     (.seq (.ops [(none, .mv 13 (.c (.I 0)))])
      (.seq (.seq (.ops [(none, .mv 14 (.c (.I 0)))])
        (.block 0 (.loop (.seq (.seq (.ops [(none, .mv 21 (.t 14)),
               (none, .mv 22 (.t 12)),
               (none, .len 23 (.t 22)),
               (none, .bin 24 .lss (.t 21) (.t 23))])
            (.cond (.t 24) (.skip)
             (.exit 0)))
           (.seq (.block 1 (.seq (.ops [(none, .mv 27 (.t 12)),
                 (none, .mv 28 (.t 14)),
                 (none, .idxS 29 1 (.t 27) (.t 28)),
                 (none, .load1 30 (.t 29))])
              (.cond (.t 30) (.ops [(none, .mv 31 (.t 13)),
                  (none, .bin 32 .add (.t 31) (.c (.I 1))),
                  (none, .mv 13 (.t 32))])
               (.skip))))
            (.ops [(none, .mv 25 (.t 14)),
               (none, .bin 26 .add (.t 25) (.c (.I 1))),
               (none, .mv 14 (.t 26))]))))))
       (.seq (.seq (.ops [(none, .mv 33 (.t 13)),
            (none, .bin 34 .eql (.t 33) (.c (.I 0))),
            (none, .mv 35 (.t 34)),
            (some (35, true), .mv 36 (.t 3)),
            (some (35, true), .len 37 (.t 36)),
            (some (35, true), .mv 38 (.t 4)),
            (some (35, true), .bin 39 .eql (.t 37) (.t 38)),
            (none, .pick 40 (.t 35) (.t 39) (.c (.B false)))])
         (.cond (.t 40) (.seq (.ops [(none, .mv 41 (.t 3)),
              (none, .mv 10 (.t 41)),
              (none, .mv 11 (.c (.B true)))])
           (.ret))
          (.skip)))
        (.seq (.seq (.draw [⟨(none, .mv 42 (.t 13)), [], []⟩,
             ⟨(none, .mv 43 (.t 4)), [], []⟩,
             ⟨(none, .mv 44 (.t 3)), [], []⟩,
             ⟨(none, .len 45 (.t 44)), [], []⟩,
             ⟨(none, .bin 46 .sub (.t 43) (.t 45)), [], []⟩,
             ⟨(none, .bin 47 .mul (.c (.I 3)) (.t 46)), [], []⟩,
             ⟨(none, .bin 48 .gtr (.t 42) (.t 47)), [], []⟩,
             ⟨(none, .mv 49 (.t 48)), [], []⟩,
             ⟨(some (49, false), .mv 50 (.t 1)), [], []⟩,
             ⟨(some (49, false), .len 51 (.t 50)), [], []⟩,
             ⟨(some (49, false), .mv 52 (.t 2)), [], []⟩,
             ⟨(some (49, false), .bin 53 .sub (.t 51) (.t 52)), [], []⟩,
             ⟨(some (49, false), .mv 54 (.t 4)), [], []⟩,
             ⟨(some (49, false), .mv 55 (.t 3)), [], []⟩,
             ⟨(some (49, false), .len 56 (.t 55)), [], []⟩,
             ⟨(some (49, false), .bin 57 .sub (.t 54) (.t 56)), [], []⟩,
             ⟨(some (49, false), .bin 58 .lss (.t 53) (.t 57)), [], []⟩,
             ⟨(none, .pick 59 (.t 49) (.c (.B true)) (.t 58)), [], []⟩,
             ⟨(none, .mv 60 (.t 59)), [], []⟩,
             ⟨(some (60, false), .loadN 61 6 (.t 5)), [], []⟩,
             ⟨(some (60, false), .mv 62 (.t 1)), [], []⟩,
             ⟨(some (60, false), .mv 63 (.t 2)), [], []⟩,
             ⟨(some (60, false), .slS 64 3 (.t 62) (some (.t 63)) none), [], []⟩,
             ⟨(some (60, false), .mv 65 (.t 12)), [], []⟩,
             ⟨(some (60, false), .call (some 66) F.spec_l3Can [(.t 61), (.t 64), (.t 65)]), [], []⟩,
             ⟨(some (60, false), .un 67 .not (.t 66)), [], []⟩,
             ⟨(none, .pick 68 (.t 60) (.c (.B true)) (.t 67)), [], []⟩])
          (.cond (.t 68) (.seq (.ops [(none, .buildSl 69 0 3 [] []),
               (none, .mv 10 (.t 69)),
               (none, .mv 11 (.c (.B false)))])
            (.ret))
           (.skip)))
         (.seq (.seq (.ops [(none, .mv 70 (.t 2)),
              (none, .mv 15 (.t 70))])
           (.block 2 (.loop (.seq (.seq (.ops [(none, .mv 71 (.t 15)),
                  (none, .mv 72 (.t 1)),
                  (none, .len 73 (.t 72)),
                  (none, .bin 74 .lss (.t 71) (.t 73))])
               (.cond (.t 74) (.skip)
                (.exit 2)))
              (.seq (.block 3 (.seq (.seq (.draw [⟨(none, .loadN 78 6 (.t 5)), [], []⟩,
                     ⟨(none, .mv 79 (.t 1)), [], []⟩,
                     ⟨(none, .mv 80 (.t 15)), [], []⟩,
                     ⟨(none, .bin 81 .add (.t 80) (.c (.I 1))), [], []⟩,
                     ⟨(none, .mv 83 (.t 3)), [], []⟩,
                     ⟨(none, .mv 85 (.t 1)), [], []⟩,
                     ⟨(none, .mv 86 (.t 15)), [], []⟩,
                     ⟨(none, .idxS 87 3 (.t 85) (.t 86)), [], []⟩,
                     ⟨(none, .loadN 88 3 (.t 87)), [], []⟩,
                     ⟨(none, .mv 91 (.t 4)), [], []⟩,
                     ⟨(none, .buildSl 82 0 3 [] []), [], []⟩,
                     ⟨(none, .buildSl 89 1 3 [(.I 0), (.I 0), (.I 0)] [(0, 3, (.t 88))]), [], []⟩,
                     ⟨(none, .append 84 3 24 (.t 82) (.t 83)), [11], [0, 1, 2, 3, 5, 6, 7, 8, 9]⟩,
                     ⟨(none, .append 90 3 24 (.t 84) (.t 89)), [], [0, 1, 2, 3, 9]⟩,
                     ⟨(none, .call (some 92) F.spec_l3Search [(.t 78), (.t 79), (.t 81), (.t 90), (.t 91)]), [], []⟩,
                     ⟨(none, .mv 77 (.t 92)), [], []⟩,
                     ⟨(none, .extract 93 (.t 77) 0), [], []⟩,
                     ⟨(none, .extract 94 (.t 77) 1), [], []⟩,
                     ⟨(none, .mv 16 (.t 93)), [], []⟩,
                     ⟨(none, .mv 17 (.t 94)), [], []⟩])
                  (.seq (.ops [(none, .mv 95 (.t 17))])
                   (.cond (.t 95) (.seq (.ops [(none, .mv 96 (.t 16)),
                        (none, .mv 10 (.t 96)),
                        (none, .mv 11 (.c (.B true)))])
                     (.ret))
                    (.skip))))
                 (.seq (.draw [⟨(none, .loadN 97 6 (.t 5)), [], []⟩,
                     ⟨(none, .mv 98 (.t 1)), [], []⟩,
                     ⟨(none, .mv 99 (.t 15)), [], []⟩,
                     ⟨(none, .bin 100 .add (.t 99) (.c (.I 1))), [], []⟩,
                     ⟨(none, .slS 101 3 (.t 98) (some (.t 100)) none), [], []⟩,
                     ⟨(none, .mv 102 (.t 12)), [], []⟩,
                     ⟨(none, .call (some 103) F.spec_l3Can [(.t 97), (.t 101), (.t 102)]), [], []⟩,
                     ⟨(none, .un 104 .not (.t 103)), [], []⟩])
                  (.cond (.t 104) (.seq (.ops [(none, .buildSl 105 0 3 [] []),
                       (none, .mv 10 (.t 105)),
                       (none, .mv 11 (.c (.B false)))])
                    (.ret))
                   (.skip)))))
               (.ops [(none, .mv 75 (.t 15)),
                  (none, .bin 76 .add (.t 75) (.c (.I 1))),
                  (none, .mv 15 (.t 76))]))))))
          (.seq (.ops [(none, .buildSl 106 0 3 [] []),
              (none, .mv 10 (.t 106)),
              (none, .mv 11 (.c (.B false)))])
           (.ret))))))))⟩
end Go.Ab.C

/- That the program has this code. -/
namespace Go.Ab.K
open Go Go.Ab
theorem spec_l3Search : prepF Go.Proofs.Try.prog F.spec_l3Search = some C.spec_l3Search := by kernel_rfl
end Go.Ab.K

/- The abstract code of some functions (written by a program of mine from the translation, by way of prepF). -/
namespace Go.Ab.C
open Go.Ab
def spec_l3Can : AFn :=
  ⟨3, 53, [.tmp 6],
    .seq (.ops [(none, .box 3 (.t 0)),
       (none, .mv 6 (.c (.B false)))])
    (.seq (.ops [(none, .mv 12 (.t 2)),
        (none, .len 13 (.t 12)),
        (none, .mksl 14 1 1 [(.B false)] (.t 13) (.t 13)),
        (none, .mv 7 (.t 14))])
     (.seq (.seq (.ops [(none, .mv 8 (.c (.I 0)))])
       (.block 0 (.loop (.seq (.seq (.ops [(none, .mv 15 (.t 8)),
              (none, .mv 16 (.t 1)),
              (none, .len 17 (.t 16)),
              (none, .bin 18 .lss (.t 15) (.t 17))])
           (.cond (.t 18) (.skip)
            (.exit 0)))
          (.seq (.block 1 (.seq (.draw [⟨(none, .loadN 21 6 (.t 3)), [], []⟩,
                ⟨(none, .mv 22 (.t 1)), [], []⟩,
                ⟨(none, .mv 23 (.t 8)), [], []⟩,
                ⟨(none, .idxS 24 3 (.t 22) (.t 23)), [], []⟩,
                ⟨(none, .loadN 25 3 (.t 24)), [], []⟩,
                ⟨(none, .alloc 9 [(.I 0), (.I 0), (.I 0)]), [], []⟩,
                ⟨(none, .call (some 26) F.spec_l3Lines [(.t 21), (.t 25)]), [5], []⟩,
                ⟨(none, .store 3 (.t 9) (.t 26)), [], []⟩])
             (.seq (.ops [(none, .mv 10 (.c (.I 0)))])
              (.block 2 (.loop (.seq (.seq (.ops [(none, .mv 27 (.t 10)),
                     (none, .bin 28 .lss (.t 27) (.c (.I 3)))])
                  (.cond (.t 28) (.skip)
                   (.exit 2)))
                 (.seq (.block 3 (.ops [(none, .mv 31 (.t 7)),
                      (none, .mv 32 (.t 10)),
                      (none, .idxA 33 3 1 (.t 9) (.t 32)),
                      (none, .load1 34 (.t 33)),
                      (none, .idxS 35 1 (.t 31) (.t 34)),
                      (none, .store 1 (.t 35) (.c (.B true)))]))
                  (.ops [(none, .mv 29 (.t 10)),
                     (none, .bin 30 .add (.t 29) (.c (.I 1))),
                     (none, .mv 10 (.t 30))]))))))))
           (.ops [(none, .mv 19 (.t 8)),
              (none, .bin 20 .add (.t 19) (.c (.I 1))),
              (none, .mv 8 (.t 20))]))))))
      (.seq (.seq (.ops [(none, .mv 11 (.c (.I 0)))])
        (.block 4 (.loop (.seq (.seq (.ops [(none, .mv 36 (.t 11)),
               (none, .mv 37 (.t 2)),
               (none, .len 38 (.t 37)),
               (none, .bin 39 .lss (.t 36) (.t 38))])
            (.cond (.t 39) (.skip)
             (.exit 4)))
           (.seq (.block 5 (.seq (.ops [(none, .mv 42 (.t 2)),
                 (none, .mv 43 (.t 11)),
                 (none, .idxS 44 1 (.t 42) (.t 43)),
                 (none, .load1 45 (.t 44)),
                 (none, .mv 46 (.t 45)),
                 (some (46, true), .mv 47 (.t 7)),
                 (some (46, true), .mv 48 (.t 11)),
                 (some (46, true), .idxS 49 1 (.t 47) (.t 48)),
                 (some (46, true), .load1 50 (.t 49)),
                 (some (46, true), .un 51 .not (.t 50)),
                 (none, .pick 52 (.t 46) (.t 51) (.c (.B false)))])
              (.cond (.t 52) (.seq (.ops [(none, .mv 6 (.c (.B false)))])
                (.ret))
               (.skip))))
            (.ops [(none, .mv 40 (.t 11)),
               (none, .bin 41 .add (.t 40) (.c (.I 1))),
               (none, .mv 11 (.t 41))]))))))
       (.seq (.ops [(none, .mv 6 (.c (.B true)))])
        (.ret)))))⟩
end Go.Ab.C

/- That the program has this code. -/
namespace Go.Ab.K
open Go Go.Ab
theorem spec_l3Can : prepF Go.Proofs.Try.prog F.spec_l3Can = some C.spec_l3Can := by kernel_rfl
end Go.Ab.K

/- The abstract code of some functions (written by a program of mine from the translation, by way of prepF). -/
namespace Go.Ab.C
open Go.Ab
def spec_l1Own : AFn :=
  ⟨1, 6, [.tmp 2],
    .seq (.ops [(none, .mv 2 (.c .nil))])
    (.seq (.ops [(none, .buildSl 3 0 1 [] []),
        (none, .mv 4 (.t 0)),
        (none, .append 5 1 8 (.t 3) (.t 4)),
        (none, .mv 2 (.t 5))])
     (.ret))⟩
def spec_l3Lines : AFn :=
  ⟨2, 48, [.cellN 4 3],
    .seq (.ops [(none, .box 2 (.t 0)),
       (none, .box 3 (.t 1)),
       (none, .alloc 4 [(.I 0), (.I 0), (.I 0)])])
    (.seq (.ops [(none, .fieldAddr 7 (.t 2) 0),
        (none, .load1 8 (.t 7)),
        (none, .fieldAddr 9 (.t 2) 1),
        (none, .load1 10 (.t 9)),
        (none, .bin 11 .mul (.t 8) (.t 10)),
        (none, .mv 5 (.t 11))])
     (.seq (.ops [(none, .mv 12 (.t 5)),
         (none, .fieldAddr 13 (.t 2) 0),
         (none, .load1 14 (.t 13)),
         (none, .fieldAddr 15 (.t 2) 2),
         (none, .load1 16 (.t 15)),
         (none, .bin 17 .mul (.t 14) (.t 16)),
         (none, .bin 18 .add (.t 12) (.t 17)),
         (none, .mv 6 (.t 18))])
      (.seq (.ops [(none, .idxA 19 3 1 (.t 3) (.c (.I 0))),
          (none, .load1 20 (.t 19)),
          (none, .fieldAddr 21 (.t 2) 1),
          (none, .load1 22 (.t 21)),
          (none, .bin 23 .mul (.t 20) (.t 22)),
          (none, .idxA 24 3 1 (.t 3) (.c (.I 1))),
          (none, .load1 25 (.t 24)),
          (none, .bin 26 .add (.t 23) (.t 25)),
          (none, .mv 27 (.t 5)),
          (none, .idxA 28 3 1 (.t 3) (.c (.I 0))),
          (none, .load1 29 (.t 28)),
          (none, .fieldAddr 30 (.t 2) 2),
          (none, .load1 31 (.t 30)),
          (none, .bin 32 .mul (.t 29) (.t 31)),
          (none, .bin 33 .add (.t 27) (.t 32)),
          (none, .idxA 34 3 1 (.t 3) (.c (.I 2))),
          (none, .load1 35 (.t 34)),
          (none, .bin 36 .add (.t 33) (.t 35)),
          (none, .mv 37 (.t 6)),
          (none, .idxA 38 3 1 (.t 3) (.c (.I 1))),
          (none, .load1 39 (.t 38)),
          (none, .fieldAddr 40 (.t 2) 2),
          (none, .load1 41 (.t 40)),
          (none, .bin 42 .mul (.t 39) (.t 41)),
          (none, .bin 43 .add (.t 37) (.t 42)),
          (none, .idxA 44 3 1 (.t 3) (.c (.I 2))),
          (none, .load1 45 (.t 44)),
          (none, .bin 46 .add (.t 43) (.t 45)),
          (none, .build 47 [(.I 0), (.I 0), (.I 0)] [(0, 1, (.t 26)), (1, 1, (.t 36)), (2, 1, (.t 46))]),
          (none, .store 3 (.t 4) (.t 47))])
       (.ret))))⟩
def spec_l3Dark : AFn :=
  ⟨2, 57, [.tmp 4],
    .seq (.ops [(none, .box 2 (.t 0)),
       (none, .mv 4 (.c .nil))])
    (.seq (.ops [(none, .buildSl 11 0 1 [] []),
        (none, .mv 5 (.t 11))])
     (.seq (.draw [⟨(none, .fieldAddr 12 (.t 2) 3), [], []⟩,
         ⟨(none, .load1 13 (.t 12)), [], []⟩,
         ⟨(none, .fieldAddr 15 (.t 2) 4), [], []⟩,
         ⟨(none, .load1 16 (.t 15)), [], []⟩,
         ⟨(none, .fieldAddr 18 (.t 2) 5), [], []⟩,
         ⟨(none, .load1 19 (.t 18)), [], []⟩,
         ⟨(none, .call (some 14) F.spec_l1Own [(.t 13)]), [], [2, 3, 4, 5]⟩,
         ⟨(none, .append 17 1 8 (.t 14) (.t 16)), [], [4, 5]⟩,
         ⟨(none, .append 20 1 8 (.t 17) (.t 19)), [], []⟩,
         ⟨(none, .mv 6 (.t 20)), [], []⟩])
      (.seq (.seq (.ops [(none, .mv 7 (.c (.I 0)))])
        (.block 0 (.loop (.seq (.seq (.ops [(none, .mv 21 (.t 7)),
               (none, .mv 22 (.t 6)),
               (none, .len 23 (.t 22)),
               (none, .bin 24 .lss (.t 21) (.t 23))])
            (.cond (.t 24) (.skip)
             (.exit 0)))
           (.seq (.block 1 (.ops [(none, .mv 27 (.t 5)),
                (none, .mv 28 (.t 6)),
                (none, .mv 29 (.t 7)),
                (none, .idxS 30 1 (.t 28) (.t 29)),
                (none, .load1 31 (.t 30)),
                (none, .bin 32 .eql (.t 31) (.c (.I 1))),
                (none, .buildSl 33 1 1 [(.B false)] [(0, 1, (.t 32))]),
                (none, .append 34 1 1 (.t 27) (.t 33)),
                (none, .mv 5 (.t 34))]))
            (.ops [(none, .mv 25 (.t 7)),
               (none, .bin 26 .add (.t 25) (.c (.I 1))),
               (none, .mv 7 (.t 26))]))))))
       (.seq (.seq (.ops [(none, .mv 8 (.c (.I 0)))])
         (.block 2 (.loop (.seq (.seq (.ops [(none, .mv 35 (.t 8)),
                (none, .mv 36 (.t 1)),
                (none, .len 37 (.t 36)),
                (none, .bin 38 .lss (.t 35) (.t 37))])
             (.cond (.t 38) (.skip)
              (.exit 2)))
            (.seq (.block 3 (.seq (.draw [⟨(none, .loadN 41 6 (.t 2)), [], []⟩,
                  ⟨(none, .mv 42 (.t 1)), [], []⟩,
                  ⟨(none, .mv 43 (.t 8)), [], []⟩,
                  ⟨(none, .idxS 44 3 (.t 42) (.t 43)), [], []⟩,
                  ⟨(none, .loadN 45 3 (.t 44)), [], []⟩,
                  ⟨(none, .alloc 9 [(.I 0), (.I 0), (.I 0)]), [], []⟩,
                  ⟨(none, .call (some 46) F.spec_l3Lines [(.t 41), (.t 45)]), [5], []⟩,
                  ⟨(none, .store 3 (.t 9) (.t 46)), [], []⟩])
               (.seq (.ops [(none, .mv 10 (.c (.I 0)))])
                (.block 4 (.loop (.seq (.seq (.ops [(none, .mv 47 (.t 10)),
                       (none, .bin 48 .lss (.t 47) (.c (.I 3)))])
                    (.cond (.t 48) (.skip)
                     (.exit 4)))
                   (.seq (.block 5 (.ops [(none, .mv 51 (.t 5)),
                        (none, .mv 52 (.t 10)),
                        (none, .idxA 53 3 1 (.t 9) (.t 52)),
                        (none, .load1 54 (.t 53)),
                        (none, .idxS 55 1 (.t 51) (.t 54)),
                        (none, .store 1 (.t 55) (.c (.B false)))]))
                    (.ops [(none, .mv 49 (.t 10)),
                       (none, .bin 50 .add (.t 49) (.c (.I 1))),
                       (none, .mv 10 (.t 50))]))))))))
             (.ops [(none, .mv 39 (.t 8)),
                (none, .bin 40 .add (.t 39) (.c (.I 1))),
                (none, .mv 8 (.t 40))]))))))
        (.seq (.ops [(none, .mv 56 (.t 5)),
            (none, .mv 4 (.t 56))])
         (.ret))))))⟩
end Go.Ab.C

/- That the program has this code. -/
namespace Go.Ab.K
open Go Go.Ab
theorem spec_l1Own : prepF Go.Proofs.Try.prog F.spec_l1Own = some C.spec_l1Own := by kernel_rfl
theorem spec_l3Lines : prepF Go.Proofs.Try.prog F.spec_l3Lines = some C.spec_l3Lines := by kernel_rfl
theorem spec_l3Dark : prepF Go.Proofs.Try.prog F.spec_l3Dark = some C.spec_l3Dark := by kernel_rfl
end Go.Ab.K

/- The abstract code of some functions (written by a program of mine from the translation, by way of prepF). -/
namespace Go.Ab.C
open Go.Ab
def impl_box_view : AFn :=
  ⟨3, 33, [.tmp 6],
    .seq (.ops [(none, .box 3 (.t 0)),
       (none, .mv 6 (.c .nil))])
    (.seq (.ops [(none, .loadN 10 3 (.t 3)),
        (none, .mv 11 (.t 2)),
        (none, .call (some 12) F.impl_box_lines [(.t 10), (.t 11)]),
        (none, .mksl 13 1 8 [(.I 0)] (.t 12) (.t 12)),
        (none, .mv 7 (.t 13))])
     (.seq (.seq (.ops [(none, .loadN 14 3 (.t 3)),
          (none, .mv 15 (.t 1)),
          (none, .call (some 16) F.impl_box_list [(.t 14), (.t 15)]),
          (none, .len 17 (.t 16)),
          (none, .mv 18 (.c (.I 0)))])
       (.block 0 (.loop (.seq (.ops [(none, .bin 19 .lss (.t 18) (.t 17))])
          (.seq (.cond (.t 19) (.skip)
            (.exit 0))
           (.seq (.block 1 (.seq (.ops [(none, .idxS 20 3 (.t 16) (.t 18)),
                 (none, .loadN 21 3 (.t 20)),
                 (none, .alloc 9 [(.I 0), (.I 0), (.I 0)]),
                 (none, .store 3 (.t 9) (.t 21))])
              (.ops [(none, .mv 22 (.t 7)),
                 (none, .loadN 23 3 (.t 3)),
                 (none, .loadN 24 3 (.t 9)),
                 (none, .mv 25 (.t 2)),
                 (none, .call (some 26) F.impl_box_line [(.t 23), (.t 24), (.t 25)]),
                 (none, .idxS 27 1 (.t 22) (.t 26)),
                 (none, .load1 28 (.t 27)),
                 (none, .bin 29 .add (.t 28) (.c (.I 1))),
                 (none, .idxS 30 1 (.t 22) (.t 26)),
                 (none, .store 1 (.t 30) (.t 29))])))
            (.ops [(none, .bin 31 .add (.t 18) (.c (.I 1))),
               (none, .mv 18 (.t 31))])))))))
      (.seq (.ops [(none, .mv 32 (.t 7)),
          (none, .mv 6 (.t 32))])
       (.ret))))⟩
end Go.Ab.C

/- That the program has this code. -/
namespace Go.Ab.K
open Go Go.Ab
theorem impl_box_view : prepF Go.Proofs.Try.prog F.impl_box_view = some C.impl_box_view := by kernel_rfl
end Go.Ab.K

/- The abstract code of some functions (written by a program of mine from the translation, by way of prepF). -/
namespace Go.Ab.C
open Go.Ab
def impl_others : AFn :=
  ⟨1, 9, [.tmp 2, .tmp 3],
    .seq (.ops [(none, .mv 2 (.c (.I 0))),
       (none, .mv 3 (.c (.I 0)))])
    (.seq (.seq (.ops [(none, .mv 4 (.t 0))])
      (.block 0 (.seq (.ops [(none, .bin 6 .eql (.t 4) (.c (.I 0))),
           (none, .mv 5 (.t 6))])
        (.cond (.t 5) (.seq (.ops [(none, .mv 2 (.c (.I 1))),
             (none, .mv 3 (.c (.I 2)))])
          (.ret))
         (.seq (.ops [(none, .bin 8 .eql (.t 4) (.c (.I 1))),
             (none, .mv 7 (.t 8))])
          (.cond (.t 7) (.seq (.ops [(none, .mv 2 (.c (.I 0))),
               (none, .mv 3 (.c (.I 2)))])
            (.ret))
           (.skip)))))))
     (.seq (.ops [(none, .mv 2 (.c (.I 0))),
         (none, .mv 3 (.c (.I 1)))])
      (.ret)))⟩
def impl_box_line : AFn :=
  ⟨3, 25, [.tmp 6],
    .seq (.ops [(none, .box 3 (.t 0)),
       (none, .box 4 (.t 1)),
       (none, .mv 6 (.c (.I 0)))])
    (.seq (.ops [(none, .mv 10 (.t 2)),
        (none, .call (some 11) F.impl_others [(.t 10)]),
        (none, .mv 9 (.t 11)),
        (none, .extract 12 (.t 9) 0),
        (none, .extract 13 (.t 9) 1),
        (none, .mv 7 (.t 12)),
        (none, .mv 8 (.t 13))])
     (.seq (.draw [⟨(none, .mv 14 (.t 7)), [], []⟩,
         ⟨(none, .idxA 15 3 1 (.t 4) (.t 14)), [], []⟩,
         ⟨(none, .load1 16 (.t 15)), [], []⟩,
         ⟨(none, .mv 17 (.t 8)), [], []⟩,
         ⟨(none, .idxA 18 3 1 (.t 3) (.t 17)), [], []⟩,
         ⟨(none, .load1 19 (.t 18)), [], []⟩,
         ⟨(none, .bin 20 .mul (.t 16) (.t 19)), [], []⟩,
         ⟨(none, .mv 21 (.t 8)), [], []⟩,
         ⟨(none, .idxA 22 3 1 (.t 4) (.t 21)), [], []⟩,
         ⟨(none, .load1 23 (.t 22)), [], []⟩,
         ⟨(none, .bin 24 .add (.t 20) (.t 23)), [], []⟩,
         ⟨(none, .mv 6 (.t 24)), [], []⟩])
      (.ret)))⟩
end Go.Ab.C

/- That the program has this code. -/
namespace Go.Ab.K
open Go Go.Ab
theorem impl_others : prepF Go.Proofs.Try.prog F.impl_others = some C.impl_others := by kernel_rfl
theorem impl_box_line : prepF Go.Proofs.Try.prog F.impl_box_line = some C.impl_box_line := by kernel_rfl
end Go.Ab.K

/- The abstract code of some functions (written by a program of mine from the translation, by way of prepF). -/
namespace Go.Ab.C
open Go.Ab
def impl_IsShadow : AFn :=
  ⟨1, 28, [.tmp 2],
    .seq (.ops [(none, .box 1 (.t 0)),
       (none, .mv 2 (.c (.B false)))])
    (.seq (.seq (.ops [(none, .loadN 5 6 (.t 1)),
         (none, .call (some 6) F.impl_Shadow_box [(.t 5)]),
         (none, .call (some 7) F.impl_box_valid [(.t 6)]),
         (none, .un 8 .not (.t 7))])
      (.cond (.t 8) (.seq (.ops [(none, .mv 2 (.c (.B false)))])
        (.ret))
       (.skip)))
     (.seq (.seq (.ops [(none, .mv 9 (.c (.I 0)))])
       (.block 0 (.loop (.seq (.ops [(none, .bin 10 .lss (.t 9) (.c (.I 3)))])
          (.seq (.cond (.t 10) (.skip)
            (.exit 0))
           (.seq (.block 1 (.seq (.ops [(none, .mv 11 (.t 9)),
                 (none, .mv 3 (.t 11))])
              (.seq (.ops [(none, .loadN 12 6 (.t 1)),
                  (none, .mv 13 (.t 3)),
                  (none, .call (some 14) F.impl_Shadow_list [(.t 12), (.t 13)]),
                  (none, .mv 4 (.t 14))])
               (.seq (.ops [(none, .mv 15 (.t 4)),
                   (none, .len 16 (.t 15)),
                   (none, .loadN 17 6 (.t 1)),
                   (none, .call (some 18) F.impl_Shadow_box [(.t 17)]),
                   (none, .mv 19 (.t 3)),
                   (none, .call (some 20) F.impl_box_lines [(.t 18), (.t 19)]),
                   (none, .bin 21 .neq (.t 16) (.t 20)),
                   (none, .mv 22 (.t 21)),
                   (some (22, false), .mv 23 (.t 4)),
                   (some (22, false), .call (some 24) F.impl_allWithin [(.t 23), (.c (.I 0)), (.c (.I 1))]),
                   (some (22, false), .un 25 .not (.t 24)),
                   (none, .pick 26 (.t 22) (.c (.B true)) (.t 25))])
                (.cond (.t 26) (.seq (.ops [(none, .mv 2 (.c (.B false)))])
                  (.ret))
                 (.skip))))))
            (.ops [(none, .bin 27 .add (.t 9) (.c (.I 1))),
               (none, .mv 9 (.t 27))])))))))
      (.seq (.ops [(none, .mv 2 (.c (.B true)))])
       (.ret))))⟩
def impl_box_lines : AFn :=
  ⟨2, 11, [.tmp 4],
    .seq (.ops [(none, .box 2 (.t 0)),
       (none, .mv 4 (.c (.I 0)))])
    (.seq (.draw [⟨(none, .loadN 5 3 (.t 2)), [], []⟩,
        ⟨(none, .mv 7 (.t 1)), [], []⟩,
        ⟨(none, .idxA 8 3 1 (.t 2) (.t 7)), [], []⟩,
        ⟨(none, .load1 9 (.t 8)), [], []⟩,
        ⟨(none, .call (some 6) F.impl_box_size [(.t 5)]), [], [1, 2, 3]⟩,
        ⟨(none, .bin 10 .quo (.t 6) (.t 9)), [], []⟩,
        ⟨(none, .mv 4 (.t 10)), [], []⟩])
     (.ret))⟩
def impl_Shadow_box : AFn :=
  ⟨1, 10, [.cellN 2 3],
    .seq (.ops [(none, .box 1 (.t 0)),
       (none, .alloc 2 [(.I 0), (.I 0), (.I 0)])])
    (.seq (.ops [(none, .fieldAddr 3 (.t 1) 0),
        (none, .load1 4 (.t 3)),
        (none, .fieldAddr 5 (.t 1) 1),
        (none, .load1 6 (.t 5)),
        (none, .fieldAddr 7 (.t 1) 2),
        (none, .load1 8 (.t 7)),
        (none, .build 9 [(.I 0), (.I 0), (.I 0)] [(0, 1, (.t 4)), (1, 1, (.t 6)), (2, 1, (.t 8))]),
        (none, .store 3 (.t 2) (.t 9))])
     (.ret))⟩
def impl_Shadow_list : AFn :=
  ⟨2, 14, [.tmp 4],
    .seq (.ops [(none, .box 2 (.t 0)),
       (none, .mv 4 (.c .nil))])
    (.seq (.ops [(none, .fieldAddr 5 (.t 2) 5),
        (none, .load1 6 (.t 5)),
        (none, .fieldAddr 7 (.t 2) 4),
        (none, .load1 8 (.t 7)),
        (none, .fieldAddr 9 (.t 2) 3),
        (none, .load1 10 (.t 9)),
        (none, .build 11 [.nil, .nil, .nil] [(0, 1, (.t 6)), (1, 1, (.t 8)), (2, 1, (.t 10))]),
        (none, .mv 12 (.t 1)),
        (none, .index 13 3 1 false (.t 11) (.t 12)),
        (none, .mv 4 (.t 13))])
     (.ret))⟩
end Go.Ab.C

/- That the program has this code. -/
namespace Go.Ab.K
open Go Go.Ab
theorem impl_IsShadow : prepF Go.Proofs.Try.prog F.impl_IsShadow = some C.impl_IsShadow := by kernel_rfl
theorem impl_box_lines : prepF Go.Proofs.Try.prog F.impl_box_lines = some C.impl_box_lines := by kernel_rfl
theorem impl_Shadow_box : prepF Go.Proofs.Try.prog F.impl_Shadow_box = some C.impl_Shadow_box := by kernel_rfl
theorem impl_Shadow_list : prepF Go.Proofs.Try.prog F.impl_Shadow_list = some C.impl_Shadow_list := by kernel_rfl
end Go.Ab.K

/- The abstract code of some functions (written by a program of mine from the translation, by way of prepF). -/
namespace Go.Ab.C
open Go.Ab
def spec_l3Ones : AFn :=
  ⟨2, 22, [.tmp 4],
    .seq (.ops [(none, .mv 4 (.c (.B false)))])
    (.seq (.seq (.ops [(none, .mv 5 (.c (.I 0)))])
      (.block 0 (.loop (.seq (.seq (.ops [(none, .mv 6 (.t 5)),
             (none, .mv 7 (.t 0)),
             (none, .len 8 (.t 7)),
             (none, .bin 9 .lss (.t 6) (.t 8))])
          (.cond (.t 9) (.skip)
           (.exit 0)))
         (.seq (.block 1 (.seq (.ops [(none, .mv 12 (.t 0)),
               (none, .mv 13 (.t 5)),
               (none, .idxS 14 1 (.t 12) (.t 13)),
               (none, .load1 15 (.t 14)),
               (none, .call (some 16) F.spec_l1In [(.t 15), (.c (.I 0)), (.c (.I 1))]),
               (none, .un 17 .not (.t 16))])
            (.cond (.t 17) (.seq (.ops [(none, .mv 4 (.c (.B false)))])
              (.ret))
             (.skip))))
          (.ops [(none, .mv 10 (.t 5)),
             (none, .bin 11 .add (.t 10) (.c (.I 1))),
             (none, .mv 5 (.t 11))]))))))
     (.seq (.ops [(none, .mv 18 (.t 0)),
         (none, .len 19 (.t 18)),
         (none, .mv 20 (.t 1)),
         (none, .bin 21 .eql (.t 19) (.t 20)),
         (none, .mv 4 (.t 21))])
      (.ret)))⟩
def spec_l3Shadow : AFn :=
  ⟨1, 40, [.tmp 2],
    .seq (.ops [(none, .box 1 (.t 0)),
       (none, .mv 2 (.c (.B false)))])
    (.seq (.ops [(none, .fieldAddr 3 (.t 1) 0),
        (none, .load1 4 (.t 3)),
        (none, .fieldAddr 5 (.t 1) 1),
        (none, .load1 6 (.t 5)),
        (none, .fieldAddr 7 (.t 1) 2),
        (none, .load1 8 (.t 7)),
        (none, .call (some 9) F.spec_l2Sides [(.t 4), (.t 6), (.t 8)]),
        (none, .mv 10 (.t 9)),
        (some (10, true), .fieldAddr 11 (.t 1) 3),
        (some (10, true), .load1 12 (.t 11)),
        (some (10, true), .fieldAddr 13 (.t 1) 0),
        (some (10, true), .load1 14 (.t 13)),
        (some (10, true), .fieldAddr 15 (.t 1) 1),
        (some (10, true), .load1 16 (.t 15)),
        (some (10, true), .bin 17 .mul (.t 14) (.t 16)),
        (some (10, true), .call (some 18) F.spec_l3Ones [(.t 12), (.t 17)]),
        (none, .pick 19 (.t 10) (.t 18) (.c (.B false))),
        (none, .mv 20 (.t 19)),
        (some (20, true), .fieldAddr 21 (.t 1) 4),
        (some (20, true), .load1 22 (.t 21)),
        (some (20, true), .fieldAddr 23 (.t 1) 0),
        (some (20, true), .load1 24 (.t 23)),
        (some (20, true), .fieldAddr 25 (.t 1) 2),
        (some (20, true), .load1 26 (.t 25)),
        (some (20, true), .bin 27 .mul (.t 24) (.t 26)),
        (some (20, true), .call (some 28) F.spec_l3Ones [(.t 22), (.t 27)]),
        (none, .pick 29 (.t 20) (.t 28) (.c (.B false))),
        (none, .mv 30 (.t 29)),
        (some (30, true), .fieldAddr 31 (.t 1) 5),
        (some (30, true), .load1 32 (.t 31)),
        (some (30, true), .fieldAddr 33 (.t 1) 1),
        (some (30, true), .load1 34 (.t 33)),
        (some (30, true), .fieldAddr 35 (.t 1) 2),
        (some (30, true), .load1 36 (.t 35)),
        (some (30, true), .bin 37 .mul (.t 34) (.t 36)),
        (some (30, true), .call (some 38) F.spec_l3Ones [(.t 32), (.t 37)]),
        (none, .pick 39 (.t 30) (.t 38) (.c (.B false))),
        (none, .mv 2 (.t 39))])
     (.ret))⟩
def impl_allWithin : AFn :=
  ⟨3, 21, [.tmp 6],
    .seq (.ops [(none, .mv 6 (.c (.B false)))])
    (.seq (.seq (.ops [(none, .mv 9 (.t 0)),
         (none, .len 10 (.t 9)),
         (none, .mv 11 (.c (.I 0)))])
      (.block 0 (.loop (.seq (.ops [(none, .bin 12 .lss (.t 11) (.t 10))])
         (.seq (.cond (.t 12) (.skip)
           (.exit 0))
          (.seq (.block 1 (.seq (.ops [(none, .idxS 13 1 (.t 9) (.t 11)),
                (none, .load1 14 (.t 13)),
                (none, .mv 8 (.t 14))])
             (.seq (.ops [(none, .mv 15 (.t 8)),
                 (none, .mv 16 (.t 1)),
                 (none, .mv 17 (.t 2)),
                 (none, .call (some 18) F.impl_within [(.t 15), (.t 16), (.t 17)]),
                 (none, .un 19 .not (.t 18))])
              (.cond (.t 19) (.seq (.ops [(none, .mv 6 (.c (.B false)))])
                (.ret))
               (.skip)))))
           (.ops [(none, .bin 20 .add (.t 11) (.c (.I 1))),
              (none, .mv 11 (.t 20))])))))))
     (.seq (.ops [(none, .mv 6 (.c (.B true)))])
      (.ret)))⟩
end Go.Ab.C

/- That the program has this code. -/
namespace Go.Ab.K
open Go Go.Ab
theorem spec_l3Ones : prepF Go.Proofs.Try.prog F.spec_l3Ones = some C.spec_l3Ones := by kernel_rfl
theorem spec_l3Shadow : prepF Go.Proofs.Try.prog F.spec_l3Shadow = some C.spec_l3Shadow := by kernel_rfl
theorem impl_allWithin : prepF Go.Proofs.Try.prog F.impl_allWithin = some C.impl_allWithin := by kernel_rfl
end Go.Ab.K

/- The abstract code of some functions (written by a program of mine from the translation, by way of prepF). -/
namespace Go.Ab.C
open Go.Ab
def impl_within : AFn :=
  ⟨3, 15, [.tmp 6],
    .seq (.ops [(none, .mv 6 (.c (.B false)))])
    (.seq (.ops [(none, .mv 7 (.t 0)),
        (none, .mv 8 (.t 1)),
        (none, .bin 9 .geq (.t 7) (.t 8)),
        (none, .mv 10 (.t 9)),
        (some (10, true), .mv 11 (.t 0)),
        (some (10, true), .mv 12 (.t 2)),
        (some (10, true), .bin 13 .leq (.t 11) (.t 12)),
        (none, .pick 14 (.t 10) (.t 13) (.c (.B false))),
        (none, .mv 6 (.t 14))])
     (.ret))⟩
def impl_box_valid : AFn :=
  ⟨1, 16, [.tmp 2],
    .seq (.ops [(none, .box 1 (.t 0)),
       (none, .mv 2 (.c (.B false)))])
    (.seq (.ops [(none, .idxA 3 3 1 (.t 1) (.c (.I 0))),
        (none, .load1 4 (.t 3)),
        (none, .call (some 5) F.impl_within [(.t 4), (.c (.I 1)), (.c (.I 4))]),
        (none, .mv 6 (.t 5)),
        (some (6, true), .idxA 7 3 1 (.t 1) (.c (.I 1))),
        (some (6, true), .load1 8 (.t 7)),
        (some (6, true), .call (some 9) F.impl_within [(.t 8), (.c (.I 1)), (.c (.I 4))]),
        (none, .pick 10 (.t 6) (.t 9) (.c (.B false))),
        (none, .mv 11 (.t 10)),
        (some (11, true), .idxA 12 3 1 (.t 1) (.c (.I 2))),
        (some (11, true), .load1 13 (.t 12)),
        (some (11, true), .call (some 14) F.impl_within [(.t 13), (.c (.I 1)), (.c (.I 4))]),
        (none, .pick 15 (.t 11) (.t 14) (.c (.B false))),
        (none, .mv 2 (.t 15))])
     (.ret))⟩
end Go.Ab.C

/- That the program has this code. -/
namespace Go.Ab.K
open Go Go.Ab
theorem impl_within : prepF Go.Proofs.Try.prog F.impl_within = some C.impl_within := by kernel_rfl
theorem impl_box_valid : prepF Go.Proofs.Try.prog F.impl_box_valid = some C.impl_box_valid := by kernel_rfl
end Go.Ab.K

/- Plain words for heaps: sides, cells, order, heights of columns. -/
namespace Go.Ab

def Sides (x y z : Int) : Prop := (1 ≤ x ∧ x ≤ 4) ∧ (1 ≤ y ∧ y ≤ 4) ∧ (1 ≤ z ∧ z ≤ 4)
instance (x y z : Int) : Decidable (Sides x y z) := by unfold Sides; infer_instance
def Cell.lt (p q : Cell) : Prop := p.a < q.a ∨ (p.a = q.a ∧ (p.b < q.b ∨ (p.b = q.b ∧ p.c < q.c)))
instance (p q : Cell) : Decidable (p.lt q) := by unfold Cell.lt; infer_instance
def Cell.inBox (x y z : Int) (c : Cell) : Prop := (0 ≤ c.a ∧ c.a ≤ x - 1) ∧ (0 ≤ c.b ∧ c.b ≤ y - 1) ∧ (0 ≤ c.c ∧ c.c ≤ z - 1)
instance (x y z : Int) (c : Cell) : Decidable (c.inBox x y z) := by unfold Cell.inBox; infer_instance
/-- A valid heap. -/
def HeapOK (x y z : Int) (cs : List Cell) : Prop :=
  Sides x y z ∧ ∀ k, k < cs.length → (cs.getD k default).inBox x y z ∧ (0 < k → (cs.getD (k - 1) default).lt (cs.getD k default))
noncomputable instance (x y z : Int) (cs : List Cell) : Decidable (HeapOK x y z cs) := Classical.propDecidable _

/-- The heights of columns. -/
def topStep (y : Int) (out : List Int) (c : Cell) : List Int := out.set (c.a * y + c.b).toNat (max (out.getD (c.a * y + c.b).toNat 0) (c.c + 1))
def topsOf (x y : Int) (cs : List Cell) : List Int := cs.foldl (topStep y) (List.replicate (x * y).toNat 0)

def apart (p q : Cell) : Int := max (p.a - q.a) (q.a - p.a) + max (p.b - q.b) (q.b - p.b) + max (p.c - q.c) (q.c - p.c)
def colOf (y p : Int) : Cell := ⟨p.tdiv y, p.tmod y, 0⟩
def nums (n : Nat) : List Int := (List.range n).map Int.ofNat
def nexts (x y p : Int) : List Int := (nums (x * y).toNat).filter fun q => decide (apart (colOf y p) (colOf y q) = 1)
def gap (a b : Int) : Int := max (a - b) (b - a)
def stepsOf (x y : Int) (ts : List Int) (p s : Int) : List Int := (nexts x y p).filter fun q => decide (gap (ts.getD q.toNat 0) (ts.getD p.toNat 0) ≤ s)

end Go.Ab

/- Contracts: the program's boxes, cells, valid heaps. -/
namespace Go.Ab
open Go
set_option linter.unusedSimpArgs false
set_option linter.unusedVariables false

theorem g_within {n lo hi : Int} {M : Mem} : CallsTo PG F.impl_within [.I n, .I lo, .I hi] M (.B (decide (lo ≤ n ∧ n ≤ hi))) M := by
  refine calls_run K.impl_within rfl ?_
  simp (disch := omega) only [C.impl_within, ↓SXd, SXu, slBounds, ↓sop, ↓aop, ↓reduceIte, LV.cells, AOp.dst, LV.I, LV.B, LV.U, LV.S, LV.nil, Nat.reduceEqDiff, Nat.reduceAdd, Nat.reduceMul, Nat.reduceSub, Nat.reduceLeDiff, Nat.reduceBEq, Nat.reduceDiv, Nat.reduceMod, Int.reduceToNat, Int.reduceLT, Int.reduceLE, Int.reduceAdd, Int.reduceSub, Int.reduceMul, Int.reduceEq, Int.reduceNeg, reduceCtorEq, resV, resAll, ARes.ev, LV.flat, ite_true, ite_false, exists_eq_left', exists_eq_left, keyOf, implies_true, fillC, capOf]
  by_cases h1 : lo ≤ n
  · simp (disch := omega) only [h1, ↓SXd, SXu, slBounds, ↓sop, ↓aop, ↓reduceIte, LV.cells, AOp.dst, LV.I, LV.B, LV.U, LV.S, LV.nil, Nat.reduceEqDiff, Nat.reduceAdd, Nat.reduceMul, Nat.reduceSub, Nat.reduceLeDiff, Nat.reduceBEq, Nat.reduceDiv, Nat.reduceMod, Int.reduceToNat, Int.reduceLT, Int.reduceLE, Int.reduceAdd, Int.reduceSub, Int.reduceMul, Int.reduceEq, Int.reduceNeg, reduceCtorEq, resV, resAll, ARes.ev, LV.flat, ite_true, ite_false, exists_eq_left', exists_eq_left, keyOf, implies_true, fillC, capOf]
    exact cmp_drop0 rfl
  · simp (disch := omega) only [h1, ↓SXd, SXu, slBounds, ↓sop, ↓aop, ↓reduceIte, LV.cells, AOp.dst, LV.I, LV.B, LV.U, LV.S, LV.nil, Nat.reduceEqDiff, Nat.reduceAdd, Nat.reduceMul, Nat.reduceSub, Nat.reduceLeDiff, Nat.reduceBEq, Nat.reduceDiv, Nat.reduceMod, Int.reduceToNat, Int.reduceLT, Int.reduceLE, Int.reduceAdd, Int.reduceSub, Int.reduceMul, Int.reduceEq, Int.reduceNeg, reduceCtorEq, resV, resAll, ARes.ev, LV.flat, ite_true, ite_false, exists_eq_left', exists_eq_left, keyOf, implies_true, fillC, capOf]
    exact cmp_drop0 rfl

theorem g_valid {x y z : Int} {M : Mem} : CallsTo PG F.impl_box_valid [.agg [.I x, .I y, .I z]] M (.B (decide (Sides x y z))) M := by
  refine calls_run K.impl_box_valid rfl ?_
  simp (disch := omega) only [C.impl_box_valid, ↓SXd, SXu, slBounds, ↓sop, ↓aop, ↓reduceIte, LV.cells, AOp.dst, LV.I, LV.B, LV.U, LV.S, LV.nil, Nat.reduceEqDiff, Nat.reduceAdd, Nat.reduceMul, Nat.reduceSub, Nat.reduceLeDiff, Nat.reduceBEq, Nat.reduceDiv, Nat.reduceMod, Int.reduceToNat, Int.reduceLT, Int.reduceLE, Int.reduceAdd, Int.reduceSub, Int.reduceMul, Int.reduceEq, Int.reduceNeg, reduceCtorEq, resV, resAll, ARes.ev, LV.flat, ite_true, ite_false, exists_eq_left', exists_eq_left, keyOf, implies_true, fillC, capOf]
  refine callK_of g_within ?_
  simp (disch := omega) only [↓SXd, SXu, slBounds, ↓sop, ↓aop, ↓reduceIte, LV.cells, AOp.dst, LV.I, LV.B, LV.U, LV.S, LV.nil, Nat.reduceEqDiff, Nat.reduceAdd, Nat.reduceMul, Nat.reduceSub, Nat.reduceLeDiff, Nat.reduceBEq, Nat.reduceDiv, Nat.reduceMod, Int.reduceToNat, Int.reduceLT, Int.reduceLE, Int.reduceAdd, Int.reduceSub, Int.reduceMul, Int.reduceEq, Int.reduceNeg, reduceCtorEq, resV, resAll, ARes.ev, LV.flat, ite_true, ite_false, exists_eq_left', exists_eq_left, keyOf, implies_true, fillC, capOf]
  unfold Sides
  by_cases h1 : 1 ≤ x ∧ x ≤ 4
  · simp (disch := omega) only [h1, ↓SXd, SXu, slBounds, ↓sop, ↓aop, ↓reduceIte, LV.cells, AOp.dst, LV.I, LV.B, LV.U, LV.S, LV.nil, Nat.reduceEqDiff, Nat.reduceAdd, Nat.reduceMul, Nat.reduceSub, Nat.reduceLeDiff, Nat.reduceBEq, Nat.reduceDiv, Nat.reduceMod, Int.reduceToNat, Int.reduceLT, Int.reduceLE, Int.reduceAdd, Int.reduceSub, Int.reduceMul, Int.reduceEq, Int.reduceNeg, reduceCtorEq, resV, resAll, ARes.ev, LV.flat, ite_true, ite_false, exists_eq_left', exists_eq_left, keyOf, implies_true, fillC, capOf]
    refine callK_of g_within ?_
    simp (disch := omega) only [↓SXd, SXu, slBounds, ↓sop, ↓aop, ↓reduceIte, LV.cells, AOp.dst, LV.I, LV.B, LV.U, LV.S, LV.nil, Nat.reduceEqDiff, Nat.reduceAdd, Nat.reduceMul, Nat.reduceSub, Nat.reduceLeDiff, Nat.reduceBEq, Nat.reduceDiv, Nat.reduceMod, Int.reduceToNat, Int.reduceLT, Int.reduceLE, Int.reduceAdd, Int.reduceSub, Int.reduceMul, Int.reduceEq, Int.reduceNeg, reduceCtorEq, resV, resAll, ARes.ev, LV.flat, ite_true, ite_false, exists_eq_left', exists_eq_left, keyOf, implies_true, fillC, capOf]
    by_cases h2 : 1 ≤ y ∧ y ≤ 4
    · simp (disch := omega) only [h2, ↓SXd, SXu, slBounds, ↓sop, ↓aop, ↓reduceIte, LV.cells, AOp.dst, LV.I, LV.B, LV.U, LV.S, LV.nil, Nat.reduceEqDiff, Nat.reduceAdd, Nat.reduceMul, Nat.reduceSub, Nat.reduceLeDiff, Nat.reduceBEq, Nat.reduceDiv, Nat.reduceMod, Int.reduceToNat, Int.reduceLT, Int.reduceLE, Int.reduceAdd, Int.reduceSub, Int.reduceMul, Int.reduceEq, Int.reduceNeg, reduceCtorEq, resV, resAll, ARes.ev, LV.flat, ite_true, ite_false, exists_eq_left', exists_eq_left, keyOf, implies_true, fillC, capOf]
      refine callK_of g_within ?_
      simp (disch := omega) only [↓SXd, SXu, slBounds, ↓sop, ↓aop, ↓reduceIte, LV.cells, AOp.dst, LV.I, LV.B, LV.U, LV.S, LV.nil, Nat.reduceEqDiff, Nat.reduceAdd, Nat.reduceMul, Nat.reduceSub, Nat.reduceLeDiff, Nat.reduceBEq, Nat.reduceDiv, Nat.reduceMod, Int.reduceToNat, Int.reduceLT, Int.reduceLE, Int.reduceAdd, Int.reduceSub, Int.reduceMul, Int.reduceEq, Int.reduceNeg, reduceCtorEq, resV, resAll, ARes.ev, LV.flat, ite_true, ite_false, exists_eq_left', exists_eq_left, keyOf, implies_true, fillC, capOf]
      exact cmp_drop rfl
    · simp (disch := omega) only [h2, false_and, ↓SXd, SXu, slBounds, ↓sop, ↓aop, ↓reduceIte, LV.cells, AOp.dst, LV.I, LV.B, LV.U, LV.S, LV.nil, Nat.reduceEqDiff, Nat.reduceAdd, Nat.reduceMul, Nat.reduceSub, Nat.reduceLeDiff, Nat.reduceBEq, Nat.reduceDiv, Nat.reduceMod, Int.reduceToNat, Int.reduceLT, Int.reduceLE, Int.reduceAdd, Int.reduceSub, Int.reduceMul, Int.reduceEq, Int.reduceNeg, reduceCtorEq, resV, resAll, ARes.ev, LV.flat, ite_true, ite_false, exists_eq_left', exists_eq_left, keyOf, implies_true, fillC, capOf]
      exact cmp_drop rfl
  · simp (disch := omega) only [h1, false_and, ↓SXd, SXu, slBounds, ↓sop, ↓aop, ↓reduceIte, LV.cells, AOp.dst, LV.I, LV.B, LV.U, LV.S, LV.nil, Nat.reduceEqDiff, Nat.reduceAdd, Nat.reduceMul, Nat.reduceSub, Nat.reduceLeDiff, Nat.reduceBEq, Nat.reduceDiv, Nat.reduceMod, Int.reduceToNat, Int.reduceLT, Int.reduceLE, Int.reduceAdd, Int.reduceSub, Int.reduceMul, Int.reduceEq, Int.reduceNeg, reduceCtorEq, resV, resAll, ARes.ev, LV.flat, ite_true, ite_false, exists_eq_left', exists_eq_left, keyOf, implies_true, fillC, capOf]
    exact cmp_drop rfl

def cmpI (a b : Int) : Int := if a < b then -1 else if b < a then 1 else 0
/-- Two lists of numbers, compared. -/
def cmpL : List Int → List Int → Int
  | [], [] => 0
  | [], _ :: _ => -1
  | _ :: _, [] => 1
  | a :: r, b :: r' => if cmpI a b = 0 then cmpL r r' else cmpI a b

end Go.Ab

/- The abstract code of some functions (written by a program of mine from the translation, by way of prepF). -/
namespace Go.Ab.C
open Go.Ab
def spec_l1In : AFn :=
  ⟨3, 15, [.tmp 6],
    .seq (.ops [(none, .mv 6 (.c (.B false)))])
    (.seq (.ops [(none, .mv 7 (.t 0)),
        (none, .mv 8 (.t 1)),
        (none, .bin 9 .geq (.t 7) (.t 8)),
        (none, .mv 10 (.t 9)),
        (some (10, true), .mv 11 (.t 0)),
        (some (10, true), .mv 12 (.t 2)),
        (some (10, true), .bin 13 .leq (.t 11) (.t 12)),
        (none, .pick 14 (.t 10) (.t 13) (.c (.B false))),
        (none, .mv 6 (.t 14))])
     (.ret))⟩
def spec_l2Sides : AFn :=
  ⟨3, 17, [.tmp 6],
    .seq (.ops [(none, .mv 6 (.c (.B false)))])
    (.seq (.ops [(none, .mv 7 (.t 0)),
        (none, .call (some 8) F.spec_l1In [(.t 7), (.c (.I 1)), (.c (.I 4))]),
        (none, .mv 9 (.t 8)),
        (some (9, true), .mv 10 (.t 1)),
        (some (9, true), .call (some 11) F.spec_l1In [(.t 10), (.c (.I 1)), (.c (.I 4))]),
        (none, .pick 12 (.t 9) (.t 11) (.c (.B false))),
        (none, .mv 13 (.t 12)),
        (some (13, true), .mv 14 (.t 2)),
        (some (13, true), .call (some 15) F.spec_l1In [(.t 14), (.c (.I 1)), (.c (.I 4))]),
        (none, .pick 16 (.t 13) (.t 15) (.c (.B false))),
        (none, .mv 6 (.t 16))])
     (.ret))⟩
end Go.Ab.C

/- That the program has this code. -/
namespace Go.Ab.K
open Go Go.Ab
theorem spec_l1In : prepF Go.Proofs.Try.prog F.spec_l1In = some C.spec_l1In := by kernel_rfl
theorem spec_l2Sides : prepF Go.Proofs.Try.prog F.spec_l2Sides = some C.spec_l2Sides := by kernel_rfl
end Go.Ab.K

/- Contracts: the reference's heaps and columns. -/
namespace Go.Ab
open Go
set_option linter.unusedSimpArgs false
set_option linter.unusedVariables false

theorem h_l1In {n lo hi : Int} {M : Mem} : CallsTo PG F.spec_l1In [.I n, .I lo, .I hi] M (.B (decide (lo ≤ n ∧ n ≤ hi))) M := by
  refine calls_run K.spec_l1In rfl ?_
  simp (disch := omega) only [C.spec_l1In, ↓SXd, SXu, slBounds, ↓sop, ↓aop, ↓reduceIte, LV.cells, AOp.dst, LV.I, LV.B, LV.U, LV.S, LV.nil, Nat.reduceEqDiff, Nat.reduceAdd, Nat.reduceMul, Nat.reduceSub, Nat.reduceLeDiff, Nat.reduceBEq, Nat.reduceDiv, Nat.reduceMod, Int.reduceToNat, Int.reduceLT, Int.reduceLE, Int.reduceAdd, Int.reduceSub, Int.reduceMul, Int.reduceEq, Int.reduceNeg, reduceCtorEq, resV, resAll, ARes.ev, LV.flat, ite_true, ite_false, exists_eq_left', exists_eq_left, keyOf, implies_true, fillC, capOf]
  by_cases h1 : lo ≤ n
  · simp (disch := omega) only [h1, ↓SXd, SXu, slBounds, ↓sop, ↓aop, ↓reduceIte, LV.cells, AOp.dst, LV.I, LV.B, LV.U, LV.S, LV.nil, Nat.reduceEqDiff, Nat.reduceAdd, Nat.reduceMul, Nat.reduceSub, Nat.reduceLeDiff, Nat.reduceBEq, Nat.reduceDiv, Nat.reduceMod, Int.reduceToNat, Int.reduceLT, Int.reduceLE, Int.reduceAdd, Int.reduceSub, Int.reduceMul, Int.reduceEq, Int.reduceNeg, reduceCtorEq, resV, resAll, ARes.ev, LV.flat, ite_true, ite_false, exists_eq_left', exists_eq_left, keyOf, implies_true, fillC, capOf]
    exact cmp_drop0 rfl
  · simp (disch := omega) only [h1, ↓SXd, SXu, slBounds, ↓sop, ↓aop, ↓reduceIte, LV.cells, AOp.dst, LV.I, LV.B, LV.U, LV.S, LV.nil, Nat.reduceEqDiff, Nat.reduceAdd, Nat.reduceMul, Nat.reduceSub, Nat.reduceLeDiff, Nat.reduceBEq, Nat.reduceDiv, Nat.reduceMod, Int.reduceToNat, Int.reduceLT, Int.reduceLE, Int.reduceAdd, Int.reduceSub, Int.reduceMul, Int.reduceEq, Int.reduceNeg, reduceCtorEq, resV, resAll, ARes.ev, LV.flat, ite_true, ite_false, exists_eq_left', exists_eq_left, keyOf, implies_true, fillC, capOf]
    exact cmp_drop0 rfl

theorem h_l2Sides {x y z : Int} {M : Mem} : CallsTo PG F.spec_l2Sides [.I x, .I y, .I z] M (.B (decide (Sides x y z))) M := by
  refine calls_run K.spec_l2Sides rfl ?_
  simp (disch := omega) only [C.spec_l2Sides, ↓SXd, SXu, slBounds, ↓sop, ↓aop, ↓reduceIte, LV.cells, AOp.dst, LV.I, LV.B, LV.U, LV.S, LV.nil, Nat.reduceEqDiff, Nat.reduceAdd, Nat.reduceMul, Nat.reduceSub, Nat.reduceLeDiff, Nat.reduceBEq, Nat.reduceDiv, Nat.reduceMod, Int.reduceToNat, Int.reduceLT, Int.reduceLE, Int.reduceAdd, Int.reduceSub, Int.reduceMul, Int.reduceEq, Int.reduceNeg, reduceCtorEq, resV, resAll, ARes.ev, LV.flat, ite_true, ite_false, exists_eq_left', exists_eq_left, keyOf, implies_true, fillC, capOf]
  refine callK_of h_l1In ?_
  simp (disch := omega) only [↓SXd, SXu, slBounds, ↓sop, ↓aop, ↓reduceIte, LV.cells, AOp.dst, LV.I, LV.B, LV.U, LV.S, LV.nil, Nat.reduceEqDiff, Nat.reduceAdd, Nat.reduceMul, Nat.reduceSub, Nat.reduceLeDiff, Nat.reduceBEq, Nat.reduceDiv, Nat.reduceMod, Int.reduceToNat, Int.reduceLT, Int.reduceLE, Int.reduceAdd, Int.reduceSub, Int.reduceMul, Int.reduceEq, Int.reduceNeg, reduceCtorEq, resV, resAll, ARes.ev, LV.flat, ite_true, ite_false, exists_eq_left', exists_eq_left, keyOf, implies_true, fillC, capOf]
  unfold Sides
  by_cases h1 : 1 ≤ x ∧ x ≤ 4
  · simp (disch := omega) only [h1, ↓SXd, SXu, slBounds, ↓sop, ↓aop, ↓reduceIte, LV.cells, AOp.dst, LV.I, LV.B, LV.U, LV.S, LV.nil, Nat.reduceEqDiff, Nat.reduceAdd, Nat.reduceMul, Nat.reduceSub, Nat.reduceLeDiff, Nat.reduceBEq, Nat.reduceDiv, Nat.reduceMod, Int.reduceToNat, Int.reduceLT, Int.reduceLE, Int.reduceAdd, Int.reduceSub, Int.reduceMul, Int.reduceEq, Int.reduceNeg, reduceCtorEq, resV, resAll, ARes.ev, LV.flat, ite_true, ite_false, exists_eq_left', exists_eq_left, keyOf, implies_true, fillC, capOf]
    refine callK_of h_l1In ?_
    simp (disch := omega) only [↓SXd, SXu, slBounds, ↓sop, ↓aop, ↓reduceIte, LV.cells, AOp.dst, LV.I, LV.B, LV.U, LV.S, LV.nil, Nat.reduceEqDiff, Nat.reduceAdd, Nat.reduceMul, Nat.reduceSub, Nat.reduceLeDiff, Nat.reduceBEq, Nat.reduceDiv, Nat.reduceMod, Int.reduceToNat, Int.reduceLT, Int.reduceLE, Int.reduceAdd, Int.reduceSub, Int.reduceMul, Int.reduceEq, Int.reduceNeg, reduceCtorEq, resV, resAll, ARes.ev, LV.flat, ite_true, ite_false, exists_eq_left', exists_eq_left, keyOf, implies_true, fillC, capOf]
    by_cases h2 : 1 ≤ y ∧ y ≤ 4
    · simp (disch := omega) only [h2, ↓SXd, SXu, slBounds, ↓sop, ↓aop, ↓reduceIte, LV.cells, AOp.dst, LV.I, LV.B, LV.U, LV.S, LV.nil, Nat.reduceEqDiff, Nat.reduceAdd, Nat.reduceMul, Nat.reduceSub, Nat.reduceLeDiff, Nat.reduceBEq, Nat.reduceDiv, Nat.reduceMod, Int.reduceToNat, Int.reduceLT, Int.reduceLE, Int.reduceAdd, Int.reduceSub, Int.reduceMul, Int.reduceEq, Int.reduceNeg, reduceCtorEq, resV, resAll, ARes.ev, LV.flat, ite_true, ite_false, exists_eq_left', exists_eq_left, keyOf, implies_true, fillC, capOf]
      refine callK_of h_l1In ?_
      simp (disch := omega) only [↓SXd, SXu, slBounds, ↓sop, ↓aop, ↓reduceIte, LV.cells, AOp.dst, LV.I, LV.B, LV.U, LV.S, LV.nil, Nat.reduceEqDiff, Nat.reduceAdd, Nat.reduceMul, Nat.reduceSub, Nat.reduceLeDiff, Nat.reduceBEq, Nat.reduceDiv, Nat.reduceMod, Int.reduceToNat, Int.reduceLT, Int.reduceLE, Int.reduceAdd, Int.reduceSub, Int.reduceMul, Int.reduceEq, Int.reduceNeg, reduceCtorEq, resV, resAll, ARes.ev, LV.flat, ite_true, ite_false, exists_eq_left', exists_eq_left, keyOf, implies_true, fillC, capOf]
      exact cmp_drop0 rfl
    · simp (disch := omega) only [h2, false_and, ↓SXd, SXu, slBounds, ↓sop, ↓aop, ↓reduceIte, LV.cells, AOp.dst, LV.I, LV.B, LV.U, LV.S, LV.nil, Nat.reduceEqDiff, Nat.reduceAdd, Nat.reduceMul, Nat.reduceSub, Nat.reduceLeDiff, Nat.reduceBEq, Nat.reduceDiv, Nat.reduceMod, Int.reduceToNat, Int.reduceLT, Int.reduceLE, Int.reduceAdd, Int.reduceSub, Int.reduceMul, Int.reduceEq, Int.reduceNeg, reduceCtorEq, resV, resAll, ARes.ev, LV.flat, ite_true, ite_false, exists_eq_left', exists_eq_left, keyOf, implies_true, fillC, capOf]
      exact cmp_drop0 rfl
  · simp (disch := omega) only [h1, false_and, ↓SXd, SXu, slBounds, ↓sop, ↓aop, ↓reduceIte, LV.cells, AOp.dst, LV.I, LV.B, LV.U, LV.S, LV.nil, Nat.reduceEqDiff, Nat.reduceAdd, Nat.reduceMul, Nat.reduceSub, Nat.reduceLeDiff, Nat.reduceBEq, Nat.reduceDiv, Nat.reduceMod, Int.reduceToNat, Int.reduceLT, Int.reduceLE, Int.reduceAdd, Int.reduceSub, Int.reduceMul, Int.reduceEq, Int.reduceNeg, reduceCtorEq, resV, resAll, ARes.ev, LV.flat, ite_true, ite_false, exists_eq_left', exists_eq_left, keyOf, implies_true, fillC, capOf]
    exact cmp_drop0 rfl

end Go.Ab

/- Plain words: the cells of a box in their order; sets of them as 64 bits. -/
namespace Go.Ab

def idx (y z : Int) (c : Cell) : Int := (c.a * y + c.b) * z + c.c
def cellAt (y z i : Int) : Cell := ⟨(i.tdiv z).tdiv y, (i.tdiv z).tmod y, i.tmod z⟩
def vol (x y z : Int) : Nat := (x * y * z).toNat
def cellsOf (x y z : Int) : List Cell := (List.range (vol x y z)).map fun (i : Nat) => cellAt y z i
/-- The cells of a box of which p holds, in order. -/
def pick (x y z : Int) (p : Cell → Bool) : List Cell := (cellsOf x y z).filter p

section
variable {x y z : Int} (hS : Sides x y z)
include hS
omit hS in
theorem getD_mem' {α : Type} {l : List α} {k : Nat} {d : α} (h : k < l.length) : l.getD k d ∈ l := by simp [h]
theorem vol_bound : 1 ≤ x * y * z ∧ x * y * z ≤ 64 ∧ 1 ≤ y * z ∧ y * z ≤ 16 ∧ 1 ≤ x * y ∧ x * y ≤ 16 := by
  obtain ⟨hx, hy, hz⟩ := hS
  have h2 : y = 1 ∨ y = 2 ∨ y = 3 ∨ y = 4 := by omega
  have h3 : z = 1 ∨ z = 2 ∨ z = 3 ∨ z = 4 := by omega
  rcases h2 with rfl | rfl | rfl | rfl <;> rcases h3 with rfl | rfl | rfl | rfl <;> omega
theorem vol_cast : ((vol x y z : Nat) : Int) = x * y * z ∧ 1 ≤ vol x y z ∧ vol x y z ≤ 64 := by
  have := vol_bound hS
  unfold vol; omega
theorem idx_in {c : Cell} (hc : c.inBox x y z) : 0 ≤ idx y z c ∧ idx y z c < x * y * z ∧ cellAt y z (idx y z c) = c := by
  obtain ⟨hx, hy, hz⟩ := hS
  obtain ⟨a, b, d⟩ := c
  obtain ⟨h1, h2, h3⟩ := hc
  simp only at h1 h2 h3
  have e2 : y = 1 ∨ y = 2 ∨ y = 3 ∨ y = 4 := by omega
  have e3 : z = 1 ∨ z = 2 ∨ z = 3 ∨ z = 4 := by omega
  unfold idx cellAt
  simp only
  have hn : 0 ≤ (a * y + b) * z + d := by rcases e2 with rfl | rfl | rfl | rfl <;> rcases e3 with rfl | rfl | rfl | rfl <;> omega
  refine ⟨hn, by rcases e2 with rfl | rfl | rfl | rfl <;> rcases e3 with rfl | rfl | rfl | rfl <;> omega, ?_⟩
  rw [Int.tdiv_eq_ediv_of_nonneg hn, Int.tmod_eq_emod_of_nonneg hn]
  have hq : 0 ≤ ((a * y + b) * z + d) / z := Int.ediv_nonneg hn (by omega)
  rw [Int.tdiv_eq_ediv_of_nonneg hq, Int.tmod_eq_emod_of_nonneg hq]
  rw [cell_eq]
  rcases e2 with rfl | rfl | rfl | rfl <;> rcases e3 with rfl | rfl | rfl | rfl <;> simp only <;> omega
theorem cellAt_in {i : Int} (h0 : 0 ≤ i) (hi : i < x * y * z) : (cellAt y z i).inBox x y z ∧ idx y z (cellAt y z i) = i := by
  obtain ⟨hx, hy, hz⟩ := hS
  have e1 : x = 1 ∨ x = 2 ∨ x = 3 ∨ x = 4 := by omega
  have e2 : y = 1 ∨ y = 2 ∨ y = 3 ∨ y = 4 := by omega
  have e3 : z = 1 ∨ z = 2 ∨ z = 3 ∨ z = 4 := by omega
  unfold idx cellAt Cell.inBox
  simp only
  rw [Int.tdiv_eq_ediv_of_nonneg h0, Int.tmod_eq_emod_of_nonneg h0]
  have hq : 0 ≤ i / z := Int.ediv_nonneg h0 (by omega)
  rw [Int.tdiv_eq_ediv_of_nonneg hq, Int.tmod_eq_emod_of_nonneg hq]
  rcases e2 with rfl | rfl | rfl | rfl <;> rcases e3 with rfl | rfl | rfl | rfl <;> (refine ⟨⟨⟨?_, ?_⟩, ⟨?_, ?_⟩, ⟨?_, ?_⟩⟩, ?_⟩ <;> omega)
theorem lt_iff {c d : Cell} (hc : c.inBox x y z) (hd : d.inBox x y z) : c.lt d ↔ idx y z c < idx y z d := by
  obtain ⟨hx, hy, hz⟩ := hS
  obtain ⟨a, b, e⟩ := c
  obtain ⟨a', b', e'⟩ := d
  obtain ⟨h1, h2, h3⟩ := hc
  obtain ⟨k1, k2, k3⟩ := hd
  simp only at h1 h2 h3 k1 k2 k3
  unfold idx Cell.lt
  simp only
  have e2 : y = 1 ∨ y = 2 ∨ y = 3 ∨ y = 4 := by omega
  have e3 : z = 1 ∨ z = 2 ∨ z = 3 ∨ z = 4 := by omega
  rcases e2 with rfl | rfl | rfl | rfl <;> rcases e3 with rfl | rfl | rfl | rfl <;> omega

theorem mem_cellsOf {c : Cell} : c ∈ cellsOf x y z ↔ c.inBox x y z := by
  unfold cellsOf
  rw [List.mem_map]
  have hv := vol_cast hS
  constructor
  · rintro ⟨i, hi, rfl⟩
    exact (cellAt_in hS (by omega) (by have := List.mem_range.1 hi; omega)).1
  · intro hc
    obtain ⟨h1, h2, h3⟩ := idx_in hS hc
    refine ⟨(idx y z c).toNat, List.mem_range.2 (by omega), ?_⟩
    rw [Int.toNat_of_nonneg h1, h3]
theorem mem_pick {p : Cell → Bool} {c : Cell} : c ∈ pick x y z p ↔ c.inBox x y z ∧ p c = true := by
  unfold pick
  rw [List.mem_filter, mem_cellsOf hS]
theorem cellsOf_sorted : (cellsOf x y z).Pairwise Cell.lt := by
  unfold cellsOf
  rw [List.pairwise_map]
  have hv := vol_cast hS
  refine List.Pairwise.imp_of_mem (R := fun a b => a < b) ?_ (List.pairwise_lt_range)
  intro i j hi hj hij
  have hi := List.mem_range.1 hi
  have hj := List.mem_range.1 hj
  obtain ⟨h1, h2⟩ := cellAt_in hS (i := (i : Int)) (by omega) (by omega)
  obtain ⟨h3, h4⟩ := cellAt_in hS (i := (j : Int)) (by omega) (by omega)
  rw [lt_iff hS h1 h3, h2, h4]; omega
theorem pick_sorted (p : Cell → Bool) : (pick x y z p).Pairwise Cell.lt := (cellsOf_sorted hS).filter p
end

theorem Cell.lt_irrefl (c : Cell) : ¬ c.lt c := by unfold Cell.lt; omega
theorem Cell.lt_trans {a b c : Cell} (h : a.lt b) (k : b.lt c) : a.lt c := by unfold Cell.lt at *; omega
/-- Sorted lists with the same members are the same. -/
theorem sorted_ext : ∀ {l m : List Cell}, l.Pairwise Cell.lt → m.Pairwise Cell.lt → (∀ c, c ∈ l ↔ c ∈ m) → l = m
  | [], [], _, _, _ => rfl
  | [], b :: m, _, _, h => by have := (h b).2 (by simp); simp at this
  | a :: l, [], _, _, h => by have := (h a).1 (by simp); simp at this
  | a :: l, b :: m, hl, hm, h => by
    rw [List.pairwise_cons] at hl hm
    have hab : a = b := by
      rcases List.mem_cons.1 ((h a).1 (by simp)) with h1 | h1
      · exact h1
      · rcases List.mem_cons.1 ((h b).2 (by simp)) with h2 | h2
        · exact h2.symm
        · exact absurd (Cell.lt_trans (hm.1 a h1) (hl.1 b h2)) (Cell.lt_irrefl b)
    subst hab
    congr 1
    refine sorted_ext hl.2 hm.2 fun c => ?_
    have h1 : ∀ {c}, c ∈ l → a ≠ c := fun hc e => Cell.lt_irrefl a (by have := hl.1 _ hc; rw [← e] at this; exact this)
    have h2 : ∀ {c}, c ∈ m → a ≠ c := fun hc e => Cell.lt_irrefl a (by have := hm.1 _ hc; rw [← e] at this; exact this)
    have := h c
    simp only [List.mem_cons] at this
    constructor
    · intro hc; exact (this.1 (.inr hc)).resolve_left fun e => h1 hc e.symm
    · intro hc; exact (this.2 (.inr hc)).resolve_left fun e => h2 hc e.symm

theorem HeapOK.sorted {x y z : Int} {cs : List Cell} (h : HeapOK x y z cs) : cs.Pairwise Cell.lt := by
  rw [List.pairwise_iff_getElem]
  have key : ∀ (d i : Nat) (h1 : i < cs.length) (h2 : i + d + 1 < cs.length), (cs.getD i default).lt (cs.getD (i + d + 1) default) := by
    intro d
    induction d with
    | zero => intro i h1 h2; have := (h.2 (i + 1) h2).2 (by omega); simpa using this
    | succ d ih =>
      intro i h1 h2
      have h3 := ih i h1 (by omega)
      have h4 := (h.2 (i + (d + 1) + 1) h2).2 (by omega)
      rw [show i + (d + 1) + 1 - 1 = i + d + 1 by omega] at h4
      exact Cell.lt_trans h3 h4
  intro i j hi hj hij
  have := key (j - i - 1) i hi (by omega)
  rw [show i + (j - i - 1) + 1 = j by omega] at this
  simpa [hi, hj] using this
theorem HeapOK.mem {x y z : Int} {cs : List Cell} (h : HeapOK x y z cs) {c : Cell} (hc : c ∈ cs) : c.inBox x y z := by
  obtain ⟨i, hi, rfl⟩ := List.getElem_of_mem hc
  have := (h.2 i hi).1
  simpa [hi] using this
theorem HeapOK.of {x y z : Int} {cs : List Cell} (hS : Sides x y z) (hs : cs.Pairwise Cell.lt) (hm : ∀ c ∈ cs, c.inBox x y z) : HeapOK x y z cs := by
  refine ⟨hS, fun k hk => ⟨hm _ (by simp [hk]), fun h0 => ?_⟩⟩
  rw [List.pairwise_iff_getElem] at hs
  have := hs (k - 1) k (by omega) hk (by omega)
  have h1 : k - 1 < cs.length := by omega
  simpa [hk, h1] using this
theorem pick_ok {x y z : Int} (hS : Sides x y z) (p : Cell → Bool) : HeapOK x y z (pick x y z p) := HeapOK.of hS (pick_sorted hS p) fun c hc => ((mem_pick hS).1 hc).1
/-- A valid heap's cells are those of its box that it has, in order. -/
theorem HeapOK.pick {x y z : Int} {cs : List Cell} (h : HeapOK x y z cs) : cs = pick x y z fun c => decide (c ∈ cs) := by
  refine sorted_ext h.sorted (pick_sorted h.1 _) fun c => ?_
  rw [mem_pick h.1]
  simp only [decide_eq_true_eq]
  exact ⟨fun hc => ⟨h.mem hc, hc⟩, fun hc => hc.2⟩
theorem pick_len {x y z : Int} (hS : Sides x y z) (p : Cell → Bool) : (pick x y z p).length ≤ 64 := by
  have h1 := List.length_filter_le p (cellsOf x y z)
  have h2 : (cellsOf x y z).length = vol x y z := by simp [cellsOf]
  have h3 := vol_cast hS
  unfold Go.Ab.pick
  omega
theorem HeapOK.len {x y z : Int} {cs : List Cell} (h : HeapOK x y z cs) : cs.length ≤ 64 := by rw [h.pick]; exact pick_len h.1 _
theorem pick_congr {x y z : Int} (hS : Sides x y z) {p q : Cell → Bool} (h : ∀ c, c.inBox x y z → p c = q c) : pick x y z p = pick x y z q :=
  List.filter_congr fun c hc => h c ((mem_cellsOf hS).1 hc)
theorem HeapOK.nodup {x y z : Int} {cs : List Cell} (h : HeapOK x y z cs) : cs.Nodup := h.sorted.imp fun {a b} hab e => by subst e; exact Cell.lt_irrefl _ hab

/-! ### Bits -/
def bsN (n : Nat) (f : Nat → Bool) : BitVec 64 := (List.range n).foldl (fun s i => if f i then s ||| (1#64 <<< i) else s) 0#64
theorem bsN_succ (n : Nat) (f : Nat → Bool) : bsN (n + 1) f = if f n then bsN n f ||| (1#64 <<< n) else bsN n f := by
  simp [bsN, List.range_succ, List.foldl_append]
theorem bit_one {n i : Nat} (hn : n < 64) : (1#64 <<< n).getLsbD i = decide (i = n) := by
  rw [BitVec.getLsbD_shiftLeft, BitVec.getLsbD_one]
  by_cases h1 : i < 64
  · by_cases h2 : i < n
    · simp [h1, h2]; omega
    · simp [h1, h2]; omega
  · simp [h1]; omega
theorem bsN_bit {f : Nat → Bool} : ∀ {n : Nat}, n ≤ 64 → ∀ i, (bsN n f).getLsbD i = (decide (i < n) && f i)
  | 0, _, i => by simp [bsN]
  | n + 1, hn, i => by
    rw [bsN_succ]
    have ih := bsN_bit (f := f) (n := n) (by omega) i
    by_cases hf : f n = true
    · rw [if_pos hf, BitVec.getLsbD_or, ih, bit_one (by omega)]
      by_cases h1 : i = n
      · subst h1; simp [hf]
      · have : decide (i < n + 1) = decide (i < n) := decide_eq_decide.2 (by omega)
        rw [this]; simp [h1]
    · rw [if_neg hf, ih]
      by_cases h1 : i = n
      · subst h1; simp [hf]
      · have : decide (i < n + 1) = decide (i < n) := decide_eq_decide.2 (by omega)
        rw [this]

/-- The set of the cells of a box of which p holds. -/
def bs (x y z : Int) (p : Cell → Bool) : BitVec 64 := bsN (vol x y z) fun i => p (cellAt y z i)

section
variable {x y z : Int} (hS : Sides x y z)
include hS
theorem bs_bit (p : Cell → Bool) (i : Nat) : (bs x y z p).getLsbD i = (decide (i < vol x y z) && p (cellAt y z i)) := bsN_bit (vol_cast hS).2.2 i
theorem bs_has {p : Cell → Bool} {c : Cell} (hc : c.inBox x y z) : (bs x y z p).getLsbD (idx y z c).toNat = p c := by
  obtain ⟨h1, h2, h3⟩ := idx_in hS hc
  have hv := vol_cast hS
  rw [bs_bit hS, Int.toNat_of_nonneg h1, h3, decide_eq_true (by omega)]; rfl
theorem bs_ext {p : Cell → Bool} {s : BitVec 64} (h : ∀ i : Nat, i < vol x y z → s.getLsbD i = p (cellAt y z i)) (h' : ∀ i, vol x y z ≤ i → s.getLsbD i = false) : s = bs x y z p := by
  apply BitVec.eq_of_getLsbD_eq
  intro i _
  rw [bs_bit hS]
  by_cases hi : i < vol x y z
  · rw [h i hi, decide_eq_true hi]; rfl
  · rw [h' i (by omega), decide_eq_false hi]; rfl
theorem bs_eq {p q : Cell → Bool} : bs x y z p = bs x y z q ↔ ∀ c, c.inBox x y z → p c = q c := by
  constructor
  · intro h c hc; rw [← bs_has (p := p) hS hc, h, bs_has hS hc]
  · intro h
    have hv := vol_cast hS
    refine bs_ext hS (fun i hi => ?_) fun i hi => ?_
    · rw [bs_bit hS, decide_eq_true hi]; exact h _ (cellAt_in hS (by omega) (by omega)).1
    · rw [bs_bit hS, decide_eq_false (by omega)]; rfl
theorem bs_or (p q : Cell → Bool) : bs x y z p ||| bs x y z q = bs x y z fun c => p c || q c :=
  bs_ext hS (fun i hi => by rw [BitVec.getLsbD_or, bs_bit hS, bs_bit hS, decide_eq_true hi]; rfl) fun i hi => by rw [BitVec.getLsbD_or, bs_bit hS, bs_bit hS, decide_eq_false (by omega)]; rfl
theorem bs_and (p q : Cell → Bool) : bs x y z p &&& bs x y z q = bs x y z fun c => p c && q c :=
  bs_ext hS (fun i hi => by rw [BitVec.getLsbD_and, bs_bit hS, bs_bit hS, decide_eq_true hi]; rfl) fun i hi => by rw [BitVec.getLsbD_and, bs_bit hS, bs_bit hS, decide_eq_false (by omega)]; rfl
theorem bs_diff (p q : Cell → Bool) : bs x y z p &&& ~~~bs x y z q = bs x y z fun c => p c && !q c :=
  bs_ext hS (fun i hi => by
    have := vol_cast hS
    rw [BitVec.getLsbD_and, BitVec.getLsbD_not, bs_bit hS, bs_bit hS, decide_eq_true hi, decide_eq_true (show i < 64 by omega)]; rfl) fun i hi => by rw [BitVec.getLsbD_and, bs_bit hS, decide_eq_false (by omega)]; rfl
theorem bs_none : (0#64) = bs x y z fun _ => false := bs_ext hS (fun i _ => by simp) fun i _ => by simp
theorem bs_zero {p : Cell → Bool} : bs x y z p = 0#64 ↔ ∀ c, c.inBox x y z → p c = false := by rw [bs_none hS, bs_eq hS]
/-- The first cell of a set. -/
theorem bs_low {p : Cell → Bool} {c : Cell} (hc : c.inBox x y z) (hp : p c = true) (hl : ∀ d, d.inBox x y z → p d = true → ¬ d.lt c) : bs x y z p &&& -bs x y z p = bs x y z fun d => decide (d = c) := by
  obtain ⟨h1, h2, h3⟩ := idx_in hS hc
  have hv := vol_cast hS
  refine bs_ext hS (fun i hi => ?_) fun i hi => ?_
  · rw [BitVec.getLsbD_and, BitVec.getLsbD_neg]
    have hb := bs_bit hS p
    have hin := cellAt_in hS (i := (i : Int)) (by omega) (by omega)
    by_cases hpi : p (cellAt y z i) = true
    · have hbi : (bs x y z p).getLsbD i = true := by rw [hb, decide_eq_true hi, hpi]; rfl
      rw [hbi]
      have hge : (idx y z c).toNat ≤ i := by
        have := hl _ hin.1 hpi
        rw [lt_iff hS hin.1 hc, hin.2] at this
        omega
      by_cases e : cellAt y z i = c
      · have hi' : i = (idx y z c).toNat := by have := hin.2; rw [e] at this; omega
        have hno : ¬ ∃ j, j < i ∧ (bs x y z p).getLsbD j = true := by
          rintro ⟨j, hj, hbj⟩
          rw [hb, decide_eq_true (by omega)] at hbj
          have hjn := cellAt_in hS (i := (j : Int)) (by omega) (by omega)
          have := hl _ hjn.1 (by simpa using hbj)
          rw [lt_iff hS hjn.1 hc, hjn.2] at this
          omega
        simp [e, hno]
      · have hyes : ∃ j, j < i ∧ (bs x y z p).getLsbD j = true := by
          refine ⟨(idx y z c).toNat, ?_, by rw [bs_has hS hc]; exact hp⟩
          rcases Nat.lt_or_ge (idx y z c).toNat i with h | h
          · exact h
          · exfalso; apply e; rw [← h3]; congr 1; omega
        simp [e, hyes]; omega
    · have hbi : (bs x y z p).getLsbD i = false := by rw [hb, decide_eq_true hi]; simpa using hpi
      rw [hbi]
      have : cellAt y z i ≠ c := fun e => hpi (by rw [e]; exact hp)
      simp [this]
  · rw [BitVec.getLsbD_and, bs_bit hS, decide_eq_false (by omega)]; rfl
end
end Go.Ab

/- Contracts: valid shadows, both sides. -/
namespace Go.Ab
open Go
set_option linter.unusedSimpArgs false
set_option linter.unusedVariables false

/-- All numbers are 0 or 1. -/
def Ones (xs : List Int) : Prop := ∀ v ∈ xs, 0 ≤ v ∧ v ≤ 1
instance (xs : List Int) : Decidable (Ones xs) := by unfold Ones; exact inferInstance
theorem ones_of {xs : List Int} (h : ∀ j, j < xs.length → 0 ≤ xs.getD j 0 ∧ xs.getD j 0 ≤ 1) : Ones xs := fun v hv => by
  obtain ⟨i, hi, rfl⟩ := List.getElem_of_mem hv
  have := h i hi
  simpa [hi] using this
theorem ones_not {xs : List Int} {k : Nat} (hk : k < xs.length) (h : ¬ (0 ≤ xs.getD k 0 ∧ xs.getD k 0 ≤ 1)) : ¬ Ones xs := fun ho => h (ho _ (getD_mem' hk))

theorem h_l3Ones {xs : List Int} {t o : Nat} {n : Int} {M : Mem} (h : Ints M t o xs) (hn : xs.length ≤ 1000000000) : CallsTo PG F.spec_l3Ones [.ref t o xs.length, .I n] M (.B (decide (Ones xs ∧ (xs.length : Int) = n))) M := by
  refine calls_run K.spec_l3Ones rfl ?_
  simp (disch := omega) only [C.spec_l3Ones, ↓SXd, SXu, slBounds, ↓sop, ↓aop, ↓reduceIte, LV.cells, AOp.dst, LV.I, LV.B, LV.U, LV.S, LV.nil, Nat.reduceEqDiff, Nat.reduceAdd, Nat.reduceMul, Nat.reduceSub, Nat.reduceLeDiff, Nat.reduceBEq, Nat.reduceDiv, Nat.reduceMod, Int.reduceToNat, Int.reduceLT, Int.reduceLE, Int.reduceAdd, Int.reduceSub, Int.reduceMul, Int.reduceEq, Int.reduceNeg, reduceCtorEq, resV, resAll, ARes.ev, LV.flat, ite_true, ite_false, exists_eq_left', exists_eq_left, keyOf, implies_true, fillC, capOf]
  refine ev_loop (fun m fr M' => ∃ k : Nat, k + m = xs.length ∧ M' = M ∧ (∀ j, j < k → 0 ≤ xs.getD j 0 ∧ xs.getD j 0 ≤ 1) ∧ fr 0 = .ref t o xs.length ∧ fr 1 = .I n ∧ fr 5 = .I k) xs.length ⟨0, by omega, rfl, by omega, rfl, rfl, rfl⟩ ?_
  rintro m fr M' ⟨k, hk, rfl, hj, f0, f1, f5⟩
  simp (disch := omega) only [f0, f1, f5, ↓SXd, SXu, slBounds, ↓sop, ↓aop, ↓reduceIte, LV.cells, AOp.dst, LV.I, LV.B, LV.U, LV.S, LV.nil, Nat.reduceEqDiff, Nat.reduceAdd, Nat.reduceMul, Nat.reduceSub, Nat.reduceLeDiff, Nat.reduceBEq, Nat.reduceDiv, Nat.reduceMod, Int.reduceToNat, Int.reduceLT, Int.reduceLE, Int.reduceAdd, Int.reduceSub, Int.reduceMul, Int.reduceEq, Int.reduceNeg, reduceCtorEq, resV, resAll, ARes.ev, LV.flat, ite_true, ite_false, exists_eq_left', exists_eq_left, keyOf, implies_true, fillC, capOf]
  refine condC_dec (fun hlt => ?_) (fun hlt => ?_)
  · have hkl : k < xs.length := by omega
    have hg := Ints.get h hkl
    simp (disch := omega) only [f0, f1, f5, hg, Nat.mul_one, ↓SXd, SXu, slBounds, ↓sop, ↓aop, ↓reduceIte, LV.cells, AOp.dst, LV.I, LV.B, LV.U, LV.S, LV.nil, Nat.reduceEqDiff, Nat.reduceAdd, Nat.reduceMul, Nat.reduceSub, Nat.reduceLeDiff, Nat.reduceBEq, Nat.reduceDiv, Nat.reduceMod, Int.reduceToNat, Int.reduceLT, Int.reduceLE, Int.reduceAdd, Int.reduceSub, Int.reduceMul, Int.reduceEq, Int.reduceNeg, reduceCtorEq, resV, resAll, ARes.ev, LV.flat, ite_true, ite_false, exists_eq_left', exists_eq_left, keyOf, implies_true, fillC, capOf]
    refine callK_of (h_l1In) ?_
    simp (disch := omega) only [f0, f1, f5, ↓SXd, SXu, slBounds, ↓sop, ↓aop, ↓reduceIte, LV.cells, AOp.dst, LV.I, LV.B, LV.U, LV.S, LV.nil, Nat.reduceEqDiff, Nat.reduceAdd, Nat.reduceMul, Nat.reduceSub, Nat.reduceLeDiff, Nat.reduceBEq, Nat.reduceDiv, Nat.reduceMod, Int.reduceToNat, Int.reduceLT, Int.reduceLE, Int.reduceAdd, Int.reduceSub, Int.reduceMul, Int.reduceEq, Int.reduceNeg, reduceCtorEq, resV, resAll, ARes.ev, LV.flat, ite_true, ite_false, exists_eq_left', exists_eq_left, keyOf, implies_true, fillC, capOf]
    by_cases hv : 0 ≤ xs.getD k 0 ∧ xs.getD k 0 ≤ 1
    · simp (disch := omega) only [f0, f1, f5, hv, ↓SXd, SXu, slBounds, ↓sop, ↓aop, ↓reduceIte, LV.cells, AOp.dst, LV.I, LV.B, LV.U, LV.S, LV.nil, Nat.reduceEqDiff, Nat.reduceAdd, Nat.reduceMul, Nat.reduceSub, Nat.reduceLeDiff, Nat.reduceBEq, Nat.reduceDiv, Nat.reduceMod, Int.reduceToNat, Int.reduceLT, Int.reduceLE, Int.reduceAdd, Int.reduceSub, Int.reduceMul, Int.reduceEq, Int.reduceNeg, reduceCtorEq, resV, resAll, ARes.ev, LV.flat, ite_true, ite_false, exists_eq_left', exists_eq_left, keyOf, implies_true, fillC, capOf]
      exact ⟨m - 1, by omega, k + 1, by omega, rfl, fun j hj1 => by
        rcases Nat.lt_or_ge j k with h2 | h2
        · exact hj j h2
        · rw [show j = k by omega]; exact hv, f0, f1, eqI (natI _)⟩
    · simp (disch := omega) only [f0, f1, f5, hv, ↓SXd, SXu, slBounds, ↓sop, ↓aop, ↓reduceIte, LV.cells, AOp.dst, LV.I, LV.B, LV.U, LV.S, LV.nil, Nat.reduceEqDiff, Nat.reduceAdd, Nat.reduceMul, Nat.reduceSub, Nat.reduceLeDiff, Nat.reduceBEq, Nat.reduceDiv, Nat.reduceMod, Int.reduceToNat, Int.reduceLT, Int.reduceLE, Int.reduceAdd, Int.reduceSub, Int.reduceMul, Int.reduceEq, Int.reduceNeg, reduceCtorEq, resV, resAll, ARes.ev, LV.flat, ite_true, ite_false, exists_eq_left', exists_eq_left, keyOf, implies_true, fillC, capOf]
      rw [decide_eq_false (fun e => ones_not hkl hv e.1)]
      exact cmp_drop0 rfl
  · simp (disch := omega) only [f0, f1, f5, ↓SXd, SXu, slBounds, ↓sop, ↓aop, ↓reduceIte, LV.cells, AOp.dst, LV.I, LV.B, LV.U, LV.S, LV.nil, Nat.reduceEqDiff, Nat.reduceAdd, Nat.reduceMul, Nat.reduceSub, Nat.reduceLeDiff, Nat.reduceBEq, Nat.reduceDiv, Nat.reduceMod, Int.reduceToNat, Int.reduceLT, Int.reduceLE, Int.reduceAdd, Int.reduceSub, Int.reduceMul, Int.reduceEq, Int.reduceNeg, reduceCtorEq, resV, resAll, ARes.ev, LV.flat, ite_true, ite_false, exists_eq_left', exists_eq_left, keyOf, implies_true, fillC, capOf]
    have : k = xs.length := by omega
    subst this
    rw [show decide (Ones xs ∧ (xs.length : Int) = n) = decide ((xs.length : Int) = n) from decide_eq_decide.2 ⟨fun e => e.2, fun e => ⟨ones_of hj, e⟩⟩]
    exact cmp_drop0 rfl
theorem g_allWithin {xs : List Int} {t o : Nat} {M : Mem} (h : Ints M t o xs) (hn : xs.length ≤ 1000000000) : CallsTo PG F.impl_allWithin [.ref t o xs.length, .I 0, .I 1] M (.B (decide (Ones xs))) M := by
  refine calls_run K.impl_allWithin rfl ?_
  simp (disch := omega) only [C.impl_allWithin, ↓SXd, SXu, slBounds, ↓sop, ↓aop, ↓reduceIte, LV.cells, AOp.dst, LV.I, LV.B, LV.U, LV.S, LV.nil, Nat.reduceEqDiff, Nat.reduceAdd, Nat.reduceMul, Nat.reduceSub, Nat.reduceLeDiff, Nat.reduceBEq, Nat.reduceDiv, Nat.reduceMod, Int.reduceToNat, Int.reduceLT, Int.reduceLE, Int.reduceAdd, Int.reduceSub, Int.reduceMul, Int.reduceEq, Int.reduceNeg, reduceCtorEq, resV, resAll, ARes.ev, LV.flat, ite_true, ite_false, exists_eq_left', exists_eq_left, keyOf, implies_true, fillC, capOf]
  refine ev_loop (fun m fr M' => ∃ k : Nat, k + m = xs.length ∧ M' = M ∧ (∀ j, j < k → 0 ≤ xs.getD j 0 ∧ xs.getD j 0 ≤ 1) ∧ fr 1 = .I 0 ∧ fr 2 = .I 1 ∧ fr 9 = .ref t o xs.length ∧ fr 10 = .I xs.length ∧ fr 11 = .I k) xs.length ⟨0, by omega, rfl, by omega, rfl, rfl, rfl, rfl, rfl⟩ ?_
  rintro m fr M' ⟨k, hk, rfl, hj, f1, f2, f9, f10, f11⟩
  simp (disch := omega) only [f1, f2, f9, f10, f11, ↓SXd, SXu, slBounds, ↓sop, ↓aop, ↓reduceIte, LV.cells, AOp.dst, LV.I, LV.B, LV.U, LV.S, LV.nil, Nat.reduceEqDiff, Nat.reduceAdd, Nat.reduceMul, Nat.reduceSub, Nat.reduceLeDiff, Nat.reduceBEq, Nat.reduceDiv, Nat.reduceMod, Int.reduceToNat, Int.reduceLT, Int.reduceLE, Int.reduceAdd, Int.reduceSub, Int.reduceMul, Int.reduceEq, Int.reduceNeg, reduceCtorEq, resV, resAll, ARes.ev, LV.flat, ite_true, ite_false, exists_eq_left', exists_eq_left, keyOf, implies_true, fillC, capOf]
  refine condC_dec (fun hlt => ?_) (fun hlt => ?_)
  · have hkl : k < xs.length := by omega
    have hg := Ints.get h hkl
    simp (disch := omega) only [f1, f2, f9, f10, f11, hg, Nat.mul_one, ↓SXd, SXu, slBounds, ↓sop, ↓aop, ↓reduceIte, LV.cells, AOp.dst, LV.I, LV.B, LV.U, LV.S, LV.nil, Nat.reduceEqDiff, Nat.reduceAdd, Nat.reduceMul, Nat.reduceSub, Nat.reduceLeDiff, Nat.reduceBEq, Nat.reduceDiv, Nat.reduceMod, Int.reduceToNat, Int.reduceLT, Int.reduceLE, Int.reduceAdd, Int.reduceSub, Int.reduceMul, Int.reduceEq, Int.reduceNeg, reduceCtorEq, resV, resAll, ARes.ev, LV.flat, ite_true, ite_false, exists_eq_left', exists_eq_left, keyOf, implies_true, fillC, capOf]
    refine callK_of (g_within) ?_
    simp (disch := omega) only [f1, f2, f9, f10, f11, ↓SXd, SXu, slBounds, ↓sop, ↓aop, ↓reduceIte, LV.cells, AOp.dst, LV.I, LV.B, LV.U, LV.S, LV.nil, Nat.reduceEqDiff, Nat.reduceAdd, Nat.reduceMul, Nat.reduceSub, Nat.reduceLeDiff, Nat.reduceBEq, Nat.reduceDiv, Nat.reduceMod, Int.reduceToNat, Int.reduceLT, Int.reduceLE, Int.reduceAdd, Int.reduceSub, Int.reduceMul, Int.reduceEq, Int.reduceNeg, reduceCtorEq, resV, resAll, ARes.ev, LV.flat, ite_true, ite_false, exists_eq_left', exists_eq_left, keyOf, implies_true, fillC, capOf]
    by_cases hv : 0 ≤ xs.getD k 0 ∧ xs.getD k 0 ≤ 1
    · simp (disch := omega) only [f1, f2, f9, f10, f11, hv, ↓SXd, SXu, slBounds, ↓sop, ↓aop, ↓reduceIte, LV.cells, AOp.dst, LV.I, LV.B, LV.U, LV.S, LV.nil, Nat.reduceEqDiff, Nat.reduceAdd, Nat.reduceMul, Nat.reduceSub, Nat.reduceLeDiff, Nat.reduceBEq, Nat.reduceDiv, Nat.reduceMod, Int.reduceToNat, Int.reduceLT, Int.reduceLE, Int.reduceAdd, Int.reduceSub, Int.reduceMul, Int.reduceEq, Int.reduceNeg, reduceCtorEq, resV, resAll, ARes.ev, LV.flat, ite_true, ite_false, exists_eq_left', exists_eq_left, keyOf, implies_true, fillC, capOf]
      exact ⟨m - 1, by omega, k + 1, by omega, rfl, fun j hj1 => by
        rcases Nat.lt_or_ge j k with h2 | h2
        · exact hj j h2
        · rw [show j = k by omega]; exact hv, f1, f2, f9, f10, eqI (natI _)⟩
    · simp (disch := omega) only [f1, f2, f9, f10, f11, hv, ↓SXd, SXu, slBounds, ↓sop, ↓aop, ↓reduceIte, LV.cells, AOp.dst, LV.I, LV.B, LV.U, LV.S, LV.nil, Nat.reduceEqDiff, Nat.reduceAdd, Nat.reduceMul, Nat.reduceSub, Nat.reduceLeDiff, Nat.reduceBEq, Nat.reduceDiv, Nat.reduceMod, Int.reduceToNat, Int.reduceLT, Int.reduceLE, Int.reduceAdd, Int.reduceSub, Int.reduceMul, Int.reduceEq, Int.reduceNeg, reduceCtorEq, resV, resAll, ARes.ev, LV.flat, ite_true, ite_false, exists_eq_left', exists_eq_left, keyOf, implies_true, fillC, capOf]
      rw [decide_eq_false (fun e => ones_not hkl hv e)]
      exact cmp_drop0 rfl
  · simp (disch := omega) only [f1, f2, f9, f10, f11, ↓SXd, SXu, slBounds, ↓sop, ↓aop, ↓reduceIte, LV.cells, AOp.dst, LV.I, LV.B, LV.U, LV.S, LV.nil, Nat.reduceEqDiff, Nat.reduceAdd, Nat.reduceMul, Nat.reduceSub, Nat.reduceLeDiff, Nat.reduceBEq, Nat.reduceDiv, Nat.reduceMod, Int.reduceToNat, Int.reduceLT, Int.reduceLE, Int.reduceAdd, Int.reduceSub, Int.reduceMul, Int.reduceEq, Int.reduceNeg, reduceCtorEq, resV, resAll, ARes.ev, LV.flat, ite_true, ite_false, exists_eq_left', exists_eq_left, keyOf, implies_true, fillC, capOf]
    have : k = xs.length := by omega
    subst this
    rw [decide_eq_true (ones_of hj)]
    exact cmp_drop0 rfl

/-- A valid shadow. -/
def ShdOK (x y z : Int) (tp fr sd : List Int) : Prop := Sides x y z ∧ (Ones tp ∧ (tp.length : Int) = x * y) ∧ (Ones fr ∧ (fr.length : Int) = x * z) ∧ (Ones sd ∧ (sd.length : Int) = y * z)
instance (x y z : Int) (tp fr sd : List Int) : Decidable (ShdOK x y z tp fr sd) := by unfold ShdOK; exact inferInstance
theorem prod_le {x y z : Int} (hS : Sides x y z) : (1 ≤ x * y ∧ x * y ≤ 16) ∧ (1 ≤ x * z ∧ x * z ≤ 16) ∧ (1 ≤ y * z ∧ y * z ≤ 16) := by
  obtain ⟨hx, hy, hz⟩ := hS
  have h2 : y = 1 ∨ y = 2 ∨ y = 3 ∨ y = 4 := by omega
  have h3 : z = 1 ∨ z = 2 ∨ z = 3 ∨ z = 4 := by omega
  rcases h2 with rfl | rfl | rfl | rfl <;> rcases h3 with rfl | rfl | rfl | rfl <;> omega
theorem h_l3Shadow {x y z : Int} {t o t' o' t2 o2 : Nat} {tp fr sd : List Int} {M : Mem} (h1 : Ints M t o tp) (h2 : Ints M t' o' fr) (h3 : Ints M t2 o2 sd) (l1 : tp.length ≤ 1000000000) (l2 : fr.length ≤ 1000000000) (l3 : sd.length ≤ 1000000000) :
    CallsTo PG F.spec_l3Shadow [.agg [.I x, .I y, .I z, .ref t o tp.length, .ref t' o' fr.length, .ref t2 o2 sd.length]] M (.B (decide (ShdOK x y z tp fr sd))) M := by
  refine calls_run K.spec_l3Shadow rfl ?_
  simp (disch := omega) only [C.spec_l3Shadow, ↓SXd, SXu, slBounds, ↓sop, ↓aop, ↓reduceIte, LV.cells, AOp.dst, LV.I, LV.B, LV.U, LV.S, LV.nil, Nat.reduceEqDiff, Nat.reduceAdd, Nat.reduceMul, Nat.reduceSub, Nat.reduceLeDiff, Nat.reduceBEq, Nat.reduceDiv, Nat.reduceMod, Int.reduceToNat, Int.reduceLT, Int.reduceLE, Int.reduceAdd, Int.reduceSub, Int.reduceMul, Int.reduceEq, Int.reduceNeg, reduceCtorEq, resV, resAll, ARes.ev, LV.flat, ite_true, ite_false, exists_eq_left', exists_eq_left, keyOf, implies_true, fillC, capOf]
  refine callK_of (h_l2Sides) ?_
  simp (disch := omega) only [↓SXd, SXu, slBounds, ↓sop, ↓aop, ↓reduceIte, LV.cells, AOp.dst, LV.I, LV.B, LV.U, LV.S, LV.nil, Nat.reduceEqDiff, Nat.reduceAdd, Nat.reduceMul, Nat.reduceSub, Nat.reduceLeDiff, Nat.reduceBEq, Nat.reduceDiv, Nat.reduceMod, Int.reduceToNat, Int.reduceLT, Int.reduceLE, Int.reduceAdd, Int.reduceSub, Int.reduceMul, Int.reduceEq, Int.reduceNeg, reduceCtorEq, resV, resAll, ARes.ev, LV.flat, ite_true, ite_false, exists_eq_left', exists_eq_left, keyOf, implies_true, fillC, capOf]
  unfold ShdOK
  by_cases hS : Sides x y z
  · obtain ⟨⟨_, _⟩, ⟨_, _⟩, ⟨_, _⟩⟩ := prod_le hS
    simp (disch := omega) only [hS, true_and, ↓SXd, SXu, slBounds, ↓sop, ↓aop, ↓reduceIte, LV.cells, AOp.dst, LV.I, LV.B, LV.U, LV.S, LV.nil, Nat.reduceEqDiff, Nat.reduceAdd, Nat.reduceMul, Nat.reduceSub, Nat.reduceLeDiff, Nat.reduceBEq, Nat.reduceDiv, Nat.reduceMod, Int.reduceToNat, Int.reduceLT, Int.reduceLE, Int.reduceAdd, Int.reduceSub, Int.reduceMul, Int.reduceEq, Int.reduceNeg, reduceCtorEq, resV, resAll, ARes.ev, LV.flat, ite_true, ite_false, exists_eq_left', exists_eq_left, keyOf, implies_true, fillC, capOf]
    refine callK_of (h_l3Ones h1.app l1) ?_
    simp (disch := omega) only [↓SXd, SXu, slBounds, ↓sop, ↓aop, ↓reduceIte, LV.cells, AOp.dst, LV.I, LV.B, LV.U, LV.S, LV.nil, Nat.reduceEqDiff, Nat.reduceAdd, Nat.reduceMul, Nat.reduceSub, Nat.reduceLeDiff, Nat.reduceBEq, Nat.reduceDiv, Nat.reduceMod, Int.reduceToNat, Int.reduceLT, Int.reduceLE, Int.reduceAdd, Int.reduceSub, Int.reduceMul, Int.reduceEq, Int.reduceNeg, reduceCtorEq, resV, resAll, ARes.ev, LV.flat, ite_true, ite_false, exists_eq_left', exists_eq_left, keyOf, implies_true, fillC, capOf]
    by_cases k1 : Ones tp ∧ (tp.length : Int) = x * y
    · simp (disch := omega) only [k1, true_and, ↓SXd, SXu, slBounds, ↓sop, ↓aop, ↓reduceIte, LV.cells, AOp.dst, LV.I, LV.B, LV.U, LV.S, LV.nil, Nat.reduceEqDiff, Nat.reduceAdd, Nat.reduceMul, Nat.reduceSub, Nat.reduceLeDiff, Nat.reduceBEq, Nat.reduceDiv, Nat.reduceMod, Int.reduceToNat, Int.reduceLT, Int.reduceLE, Int.reduceAdd, Int.reduceSub, Int.reduceMul, Int.reduceEq, Int.reduceNeg, reduceCtorEq, resV, resAll, ARes.ev, LV.flat, ite_true, ite_false, exists_eq_left', exists_eq_left, keyOf, implies_true, fillC, capOf]
      refine callK_of (h_l3Ones h2.app l2) ?_
      simp (disch := omega) only [↓SXd, SXu, slBounds, ↓sop, ↓aop, ↓reduceIte, LV.cells, AOp.dst, LV.I, LV.B, LV.U, LV.S, LV.nil, Nat.reduceEqDiff, Nat.reduceAdd, Nat.reduceMul, Nat.reduceSub, Nat.reduceLeDiff, Nat.reduceBEq, Nat.reduceDiv, Nat.reduceMod, Int.reduceToNat, Int.reduceLT, Int.reduceLE, Int.reduceAdd, Int.reduceSub, Int.reduceMul, Int.reduceEq, Int.reduceNeg, reduceCtorEq, resV, resAll, ARes.ev, LV.flat, ite_true, ite_false, exists_eq_left', exists_eq_left, keyOf, implies_true, fillC, capOf]
      by_cases k2 : Ones fr ∧ (fr.length : Int) = x * z
      · simp (disch := omega) only [k2, true_and, ↓SXd, SXu, slBounds, ↓sop, ↓aop, ↓reduceIte, LV.cells, AOp.dst, LV.I, LV.B, LV.U, LV.S, LV.nil, Nat.reduceEqDiff, Nat.reduceAdd, Nat.reduceMul, Nat.reduceSub, Nat.reduceLeDiff, Nat.reduceBEq, Nat.reduceDiv, Nat.reduceMod, Int.reduceToNat, Int.reduceLT, Int.reduceLE, Int.reduceAdd, Int.reduceSub, Int.reduceMul, Int.reduceEq, Int.reduceNeg, reduceCtorEq, resV, resAll, ARes.ev, LV.flat, ite_true, ite_false, exists_eq_left', exists_eq_left, keyOf, implies_true, fillC, capOf]
        refine callK_of (h_l3Ones h3.app l3) ?_
        simp (disch := omega) only [↓SXd, SXu, slBounds, ↓sop, ↓aop, ↓reduceIte, LV.cells, AOp.dst, LV.I, LV.B, LV.U, LV.S, LV.nil, Nat.reduceEqDiff, Nat.reduceAdd, Nat.reduceMul, Nat.reduceSub, Nat.reduceLeDiff, Nat.reduceBEq, Nat.reduceDiv, Nat.reduceMod, Int.reduceToNat, Int.reduceLT, Int.reduceLE, Int.reduceAdd, Int.reduceSub, Int.reduceMul, Int.reduceEq, Int.reduceNeg, reduceCtorEq, resV, resAll, ARes.ev, LV.flat, ite_true, ite_false, exists_eq_left', exists_eq_left, keyOf, implies_true, fillC, capOf]
        exact cmp_drop rfl
      · simp (disch := omega) only [k2, false_and, ↓SXd, SXu, slBounds, ↓sop, ↓aop, ↓reduceIte, LV.cells, AOp.dst, LV.I, LV.B, LV.U, LV.S, LV.nil, Nat.reduceEqDiff, Nat.reduceAdd, Nat.reduceMul, Nat.reduceSub, Nat.reduceLeDiff, Nat.reduceBEq, Nat.reduceDiv, Nat.reduceMod, Int.reduceToNat, Int.reduceLT, Int.reduceLE, Int.reduceAdd, Int.reduceSub, Int.reduceMul, Int.reduceEq, Int.reduceNeg, reduceCtorEq, resV, resAll, ARes.ev, LV.flat, ite_true, ite_false, exists_eq_left', exists_eq_left, keyOf, implies_true, fillC, capOf]
        exact cmp_drop rfl
    · simp (disch := omega) only [k1, false_and, ↓SXd, SXu, slBounds, ↓sop, ↓aop, ↓reduceIte, LV.cells, AOp.dst, LV.I, LV.B, LV.U, LV.S, LV.nil, Nat.reduceEqDiff, Nat.reduceAdd, Nat.reduceMul, Nat.reduceSub, Nat.reduceLeDiff, Nat.reduceBEq, Nat.reduceDiv, Nat.reduceMod, Int.reduceToNat, Int.reduceLT, Int.reduceLE, Int.reduceAdd, Int.reduceSub, Int.reduceMul, Int.reduceEq, Int.reduceNeg, reduceCtorEq, resV, resAll, ARes.ev, LV.flat, ite_true, ite_false, exists_eq_left', exists_eq_left, keyOf, implies_true, fillC, capOf]
      exact cmp_drop rfl
  · simp (disch := omega) only [hS, false_and, ↓SXd, SXu, slBounds, ↓sop, ↓aop, ↓reduceIte, LV.cells, AOp.dst, LV.I, LV.B, LV.U, LV.S, LV.nil, Nat.reduceEqDiff, Nat.reduceAdd, Nat.reduceMul, Nat.reduceSub, Nat.reduceLeDiff, Nat.reduceBEq, Nat.reduceDiv, Nat.reduceMod, Int.reduceToNat, Int.reduceLT, Int.reduceLE, Int.reduceAdd, Int.reduceSub, Int.reduceMul, Int.reduceEq, Int.reduceNeg, reduceCtorEq, resV, resAll, ARes.ev, LV.flat, ite_true, ite_false, exists_eq_left', exists_eq_left, keyOf, implies_true, fillC, capOf]
    exact cmp_drop rfl
end Go.Ab

/- The abstract code of some functions (written by a program of mine from the translation, by way of prepF). -/
namespace Go.Ab.C
open Go.Ab
def impl_box_size : AFn :=
  ⟨1, 11, [.tmp 2],
    .seq (.ops [(none, .box 1 (.t 0)),
       (none, .mv 2 (.c (.I 0)))])
    (.seq (.ops [(none, .idxA 3 3 1 (.t 1) (.c (.I 0))),
        (none, .load1 4 (.t 3)),
        (none, .idxA 5 3 1 (.t 1) (.c (.I 1))),
        (none, .load1 6 (.t 5)),
        (none, .bin 7 .mul (.t 4) (.t 6)),
        (none, .idxA 8 3 1 (.t 1) (.c (.I 2))),
        (none, .load1 9 (.t 8)),
        (none, .bin 10 .mul (.t 7) (.t 9)),
        (none, .mv 2 (.t 10))])
     (.ret))⟩
def impl_box_cell : AFn :=
  ⟨2, 24, [.cellN 4 3],
    .seq (.ops [(none, .box 2 (.t 0)),
       (none, .alloc 4 [(.I 0), (.I 0), (.I 0)])])
    (.seq (.draw [⟨(none, .mv 5 (.t 1)), [], []⟩,
        ⟨(none, .idxA 6 3 1 (.t 2) (.c (.I 2))), [], []⟩,
        ⟨(none, .load1 7 (.t 6)), [], []⟩,
        ⟨(none, .bin 8 .quo (.t 5) (.t 7)), [], []⟩,
        ⟨(none, .idxA 9 3 1 (.t 2) (.c (.I 1))), [], []⟩,
        ⟨(none, .load1 10 (.t 9)), [], []⟩,
        ⟨(none, .bin 11 .quo (.t 8) (.t 10)), [], []⟩,
        ⟨(none, .mv 12 (.t 1)), [], []⟩,
        ⟨(none, .idxA 13 3 1 (.t 2) (.c (.I 2))), [], []⟩,
        ⟨(none, .load1 14 (.t 13)), [], []⟩,
        ⟨(none, .bin 15 .quo (.t 12) (.t 14)), [], []⟩,
        ⟨(none, .idxA 16 3 1 (.t 2) (.c (.I 1))), [], []⟩,
        ⟨(none, .load1 17 (.t 16)), [], []⟩,
        ⟨(none, .bin 18 .rem (.t 15) (.t 17)), [], []⟩,
        ⟨(none, .mv 19 (.t 1)), [], []⟩,
        ⟨(none, .idxA 20 3 1 (.t 2) (.c (.I 2))), [], []⟩,
        ⟨(none, .load1 21 (.t 20)), [], []⟩,
        ⟨(none, .bin 22 .rem (.t 19) (.t 21)), [], []⟩,
        ⟨(none, .build 23 [(.I 0), (.I 0), (.I 0)] [(0, 1, (.t 11)), (1, 1, (.t 18)), (2, 1, (.t 22))]), [], []⟩,
        ⟨(none, .store 3 (.t 4) (.t 23)), [], []⟩])
     (.ret))⟩
def impl_set_has : AFn :=
  ⟨2, 10, [.tmp 4],
    .seq (.ops [(none, .mv 4 (.c (.B false)))])
    (.seq (.ops [(none, .mv 5 (.t 0)),
        (none, .mv 6 (.t 1)),
        (none, .bin 7 .shr (.t 5) (.t 6)),
        (none, .bin 8 .and (.t 7) (.c (.U 1))),
        (none, .bin 9 .eql (.t 8) (.c (.U 1))),
        (none, .mv 4 (.t 9))])
     (.ret))⟩
def impl_box_list : AFn :=
  ⟨2, 24, [.tmp 4],
    .seq (.ops [(none, .box 2 (.t 0)),
       (none, .mv 4 (.c .nil))])
    (.seq (.ops [(none, .buildSl 7 0 3 [] []),
        (none, .mv 5 (.t 7))])
     (.seq (.seq (.ops [(none, .loadN 8 3 (.t 2)),
          (none, .call (some 9) F.impl_box_size [(.t 8)]),
          (none, .mv 10 (.c (.I 0)))])
       (.block 0 (.loop (.seq (.ops [(none, .bin 11 .lss (.t 10) (.t 9))])
          (.seq (.cond (.t 11) (.skip)
            (.exit 0))
           (.seq (.block 1 (.seq (.ops [(none, .mv 12 (.t 10)),
                 (none, .mv 6 (.t 12))])
              (.seq (.ops [(none, .mv 13 (.t 1)),
                  (none, .mv 14 (.t 6)),
                  (none, .call (some 15) F.impl_set_has [(.t 13), (.t 14)])])
               (.cond (.t 15) (.ops [(none, .mv 16 (.t 5)),
                   (none, .loadN 17 3 (.t 2)),
                   (none, .mv 18 (.t 6)),
                   (none, .call (some 19) F.impl_box_cell [(.t 17), (.t 18)]),
                   (none, .buildSl 20 1 3 [(.I 0), (.I 0), (.I 0)] [(0, 3, (.t 19))]),
                   (none, .append 21 3 24 (.t 16) (.t 20)),
                   (none, .mv 5 (.t 21))])
                (.skip)))))
            (.ops [(none, .bin 22 .add (.t 10) (.c (.I 1))),
               (none, .mv 10 (.t 22))])))))))
      (.seq (.ops [(none, .mv 23 (.t 5)),
          (none, .mv 4 (.t 23))])
       (.ret))))⟩
def impl_box_those : AFn :=
  ⟨2, 23, [.tmp 4],
    .seq (.ops [(none, .box 2 (.t 0)),
       (none, .mv 4 (.c (.U 0)))])
    (.seq (.ops [(none, .mv 5 (.c (.U 0)))])
     (.seq (.seq (.ops [(none, .loadN 7 3 (.t 2)),
          (none, .call (some 8) F.impl_box_size [(.t 7)]),
          (none, .mv 9 (.c (.I 0)))])
       (.block 0 (.loop (.seq (.ops [(none, .bin 10 .lss (.t 9) (.t 8))])
          (.seq (.cond (.t 10) (.skip)
            (.exit 0))
           (.seq (.block 1 (.seq (.ops [(none, .mv 11 (.t 9)),
                 (none, .mv 6 (.t 11))])
              (.seq (.ops [(none, .mv 12 (.t 1)),
                  (none, .loadN 13 3 (.t 2)),
                  (none, .mv 14 (.t 6)),
                  (none, .call (some 15) F.impl_box_cell [(.t 13), (.t 14)]),
                  (none, .callV (some 16) (.t 12) [(.t 15)])])
               (.cond (.t 16) (.ops [(none, .mv 17 (.t 5)),
                   (none, .mv 18 (.t 6)),
                   (none, .bin 19 .shl (.c (.U 1)) (.t 18)),
                   (none, .bin 20 .or (.t 17) (.t 19)),
                   (none, .mv 5 (.t 20))])
                (.skip)))))
            (.ops [(none, .bin 21 .add (.t 9) (.c (.I 1))),
               (none, .mv 9 (.t 21))])))))))
      (.seq (.ops [(none, .mv 22 (.t 5)),
          (none, .mv 4 (.t 22))])
       (.ret))))⟩
end Go.Ab.C

/- That the program has this code. -/
namespace Go.Ab.K
open Go Go.Ab
theorem impl_box_size : prepF Go.Proofs.Try.prog F.impl_box_size = some C.impl_box_size := by kernel_rfl
theorem impl_box_cell : prepF Go.Proofs.Try.prog F.impl_box_cell = some C.impl_box_cell := by kernel_rfl
theorem impl_set_has : prepF Go.Proofs.Try.prog F.impl_set_has = some C.impl_set_has := by kernel_rfl
theorem impl_box_list : prepF Go.Proofs.Try.prog F.impl_box_list = some C.impl_box_list := by kernel_rfl
theorem impl_box_those : prepF Go.Proofs.Try.prog F.impl_box_those = some C.impl_box_those := by kernel_rfl
end Go.Ab.K

/- Contracts: the program's boxes, cells and sets. -/
namespace Go.Ab
open Go
set_option linter.unusedSimpArgs false
set_option linter.unusedVariables false

theorem set_bit {s : BitVec 64} {n : Nat} : decide (s >>> n &&& 1#64 = 1#64) = s.getLsbD n := by
  have : (s >>> n &&& 1#64 = 1#64) ↔ s.getLsbD n = true := by
    constructor
    · intro h
      have := congrArg (fun t => BitVec.getLsbD t 0) h
      simpa using this
    · intro h
      apply BitVec.eq_of_getLsbD_eq
      intro i hi
      rw [BitVec.getLsbD_and, BitVec.getLsbD_one]
      by_cases h0 : i = 0
      · subst h0; simp [h]
      · simp [h0]
  by_cases h : s.getLsbD n = true
  · rw [h, decide_eq_true (this.2 h)]
  · rw [decide_eq_false (fun e => h (this.1 e))]; simpa using h

theorem g_has_set {s : BitVec 64} {i : Int} {M : Mem} (hi : 0 ≤ i) : CallsTo PG F.impl_set_has [.W s, .I i] M (.B (s.getLsbD i.toNat)) M := by
  refine calls_run K.impl_set_has rfl ?_
  simp (disch := omega) only [C.impl_set_has, set_bit, ↓SXd, SXu, slBounds, ↓sop, ↓aop, ↓reduceIte, LV.cells, AOp.dst, LV.I, LV.B, LV.U, LV.S, LV.nil, Nat.reduceEqDiff, Nat.reduceAdd, Nat.reduceMul, Nat.reduceSub, Nat.reduceLeDiff, Nat.reduceBEq, Nat.reduceDiv, Nat.reduceMod, Int.reduceToNat, Int.reduceLT, Int.reduceLE, Int.reduceAdd, Int.reduceSub, Int.reduceMul, Int.reduceEq, Int.reduceNeg, reduceCtorEq, resV, resAll, ARes.ev, LV.flat, ite_true, ite_false, exists_eq_left', exists_eq_left, keyOf, implies_true, fillC, capOf]
  exact cmp_drop0 rfl

section
variable {x y z : Int} (hS : Sides x y z)
include hS

theorem g_size {M : Mem} : CallsTo PG F.impl_box_size [.agg [.I x, .I y, .I z]] M (.I ((vol x y z : Nat) : Int)) M := by
  have hb := vol_bound hS
  have hv := vol_cast hS
  refine calls_run K.impl_box_size rfl ?_
  simp (disch := omega) only [C.impl_box_size, ↓SXd, SXu, slBounds, ↓sop, ↓aop, ↓reduceIte, LV.cells, AOp.dst, LV.I, LV.B, LV.U, LV.S, LV.nil, Nat.reduceEqDiff, Nat.reduceAdd, Nat.reduceMul, Nat.reduceSub, Nat.reduceLeDiff, Nat.reduceBEq, Nat.reduceDiv, Nat.reduceMod, Int.reduceToNat, Int.reduceLT, Int.reduceLE, Int.reduceAdd, Int.reduceSub, Int.reduceMul, Int.reduceEq, Int.reduceNeg, reduceCtorEq, resV, resAll, ARes.ev, LV.flat, ite_true, ite_false, exists_eq_left', exists_eq_left, keyOf, implies_true, fillC, capOf]
  rw [hv.1]
  exact cmp_drop rfl

theorem g_cell {i : Int} {M : Mem} (h0 : 0 ≤ i) (hi : i < x * y * z) : CallsTo PG F.impl_box_cell [.agg [.I x, .I y, .I z], .I i] M (.agg [.I (cellAt y z i).a, .I (cellAt y z i).b, .I (cellAt y z i).c]) M := by
  have hb := vol_bound hS
  obtain ⟨hx, hy, hz⟩ := id hS
  have hy0 : y ≠ 0 := by omega
  have hz0 : z ≠ 0 := by omega
  have q1 : 0 ≤ i.tdiv z ∧ i.tdiv z ≤ 100 := by
    rw [Int.tdiv_eq_ediv_of_nonneg h0]
    exact ⟨Int.ediv_nonneg h0 (by omega), Int.le_trans (Int.ediv_le_self z h0) (by omega)⟩
  have q2 : 0 ≤ (i.tdiv z).tdiv y ∧ (i.tdiv z).tdiv y ≤ 100 := by
    rw [Int.tdiv_eq_ediv_of_nonneg q1.1]
    exact ⟨Int.ediv_nonneg q1.1 (by omega), Int.le_trans (Int.ediv_le_self y q1.1) (by omega)⟩
  have q3 : 0 ≤ (i.tdiv z).tmod y ∧ (i.tdiv z).tmod y ≤ 100 := by
    rw [Int.tmod_eq_emod_of_nonneg q1.1]
    have := Int.emod_lt_of_pos (i.tdiv z) (show 0 < y by omega)
    exact ⟨Int.emod_nonneg _ hy0, by omega⟩
  have q4 : 0 ≤ i.tmod z ∧ i.tmod z ≤ 100 := by
    rw [Int.tmod_eq_emod_of_nonneg h0]
    have := Int.emod_lt_of_pos i (show 0 < z by omega)
    exact ⟨Int.emod_nonneg _ hz0, by omega⟩
  refine calls_run K.impl_box_cell rfl ?_
  simp (disch := omega) only [C.impl_box_cell, ne_eq, not_false_eq_true, hy0, hz0, splice, ↓SXd, SXu, slBounds, ↓sop, ↓aop, ↓reduceIte, LV.cells, AOp.dst, LV.I, LV.B, LV.U, LV.S, LV.nil, Nat.reduceEqDiff, Nat.reduceAdd, Nat.reduceMul, Nat.reduceSub, Nat.reduceLeDiff, Nat.reduceBEq, Nat.reduceDiv, Nat.reduceMod, Int.reduceToNat, Int.reduceLT, Int.reduceLE, Int.reduceAdd, Int.reduceSub, Int.reduceMul, Int.reduceEq, Int.reduceNeg, reduceCtorEq, resV, resAll, ARes.ev, LV.flat, ite_true, ite_false, exists_eq_left', exists_eq_left, keyOf, implies_true, fillC, capOf]
  exact cmp_drop rfl

theorem range_pick_step {p : Cell → Bool} {k : Nat} : ((List.range (k + 1)).map fun (i : Nat) => cellAt y z i).filter p = ((List.range k).map fun (i : Nat) => cellAt y z i).filter p ++ (if p (cellAt y z k) then [cellAt y z k] else []) := by
  rw [List.range_succ, List.map_append, List.filter_append]
  congr 1
  by_cases h : p (cellAt y z k) = true
  · simp [h]
  · simp [h]

theorem g_list {p : Cell → Bool} {M : Mem} : CallsTo PG F.impl_box_list [.agg [.I x, .I y, .I z], .W (bs x y z p)] M (.ref M.length 0 (pick x y z p).length) (M ++ [some (.row (triL (pick x y z p)) true 3)]) := by
  have hv := vol_cast hS
  refine calls_run K.impl_box_list rfl ?_
  simp (disch := omega) only [C.impl_box_list, ↓SXd, SXu, slBounds, ↓sop, ↓aop, ↓reduceIte, LV.cells, AOp.dst, LV.I, LV.B, LV.U, LV.S, LV.nil, Nat.reduceEqDiff, Nat.reduceAdd, Nat.reduceMul, Nat.reduceSub, Nat.reduceLeDiff, Nat.reduceBEq, Nat.reduceDiv, Nat.reduceMod, Int.reduceToNat, Int.reduceLT, Int.reduceLE, Int.reduceAdd, Int.reduceSub, Int.reduceMul, Int.reduceEq, Int.reduceNeg, reduceCtorEq, resV, resAll, ARes.ev, LV.flat, ite_true, ite_false, exists_eq_left', exists_eq_left, keyOf, implies_true, fillC, capOf]
  refine callK_of (g_size hS) ?_
  simp (disch := omega) only [↓SXd, SXu, slBounds, ↓sop, ↓aop, ↓reduceIte, LV.cells, AOp.dst, LV.I, LV.B, LV.U, LV.S, LV.nil, Nat.reduceEqDiff, Nat.reduceAdd, Nat.reduceMul, Nat.reduceSub, Nat.reduceLeDiff, Nat.reduceBEq, Nat.reduceDiv, Nat.reduceMod, Int.reduceToNat, Int.reduceLT, Int.reduceLE, Int.reduceAdd, Int.reduceSub, Int.reduceMul, Int.reduceEq, Int.reduceNeg, reduceCtorEq, resV, resAll, ARes.ev, LV.flat, ite_true, ite_false, exists_eq_left', exists_eq_left, keyOf, implies_true, fillC, capOf]
  refine ev_loop (fun m fr M' => ∃ (k u : Nat) (acc : List Cell), k + m = vol x y z ∧ acc = ((List.range k).map fun (i : Nat) => cellAt y z i).filter p ∧ Pre M M' ∧ Live M' M.length (.row [.I x, .I y, .I z] true 0) ∧ M.length + 1 ≤ u ∧ Live M' u (.row (triL acc) true 3) ∧
    fr 1 = .W (bs x y z p) ∧ fr 2 = .ptr M.length 0 ∧ fr 5 = .ref u 0 acc.length ∧ fr 9 = .I ((vol x y z : Nat) : Int) ∧ fr 10 = .I k) (vol x y z)
    ⟨0, M.length + 1, [], by omega, rfl, Pre.app _ _, Live.new, by omega, Live.newj rfl, rfl, rfl, rfl, rfl, rfl⟩ ?_
  rintro m fr M' ⟨k, u, acc, hk, hacc, hpre, hbox, hu, hout, f1, f2, f5, f9, f10⟩
  have hal : acc.length ≤ k := by
    rw [hacc]
    exact Nat.le_trans (List.length_filter_le _ _) (by simp)
  simp (disch := omega) only [f1, f2, f5, f9, f10, ↓SXd, SXu, slBounds, ↓sop, ↓aop, ↓reduceIte, LV.cells, AOp.dst, LV.I, LV.B, LV.U, LV.S, LV.nil, Nat.reduceEqDiff, Nat.reduceAdd, Nat.reduceMul, Nat.reduceSub, Nat.reduceLeDiff, Nat.reduceBEq, Nat.reduceDiv, Nat.reduceMod, Int.reduceToNat, Int.reduceLT, Int.reduceLE, Int.reduceAdd, Int.reduceSub, Int.reduceMul, Int.reduceEq, Int.reduceNeg, reduceCtorEq, resV, resAll, ARes.ev, LV.flat, ite_true, ite_false, exists_eq_left', exists_eq_left, keyOf, implies_true, fillC, capOf]
  refine condC_dec (fun hlt => ?_) (fun hlt => ?_)
  · simp (disch := omega) only [f1, f2, f5, f9, f10, ↓SXd, SXu, slBounds, ↓sop, ↓aop, ↓reduceIte, LV.cells, AOp.dst, LV.I, LV.B, LV.U, LV.S, LV.nil, Nat.reduceEqDiff, Nat.reduceAdd, Nat.reduceMul, Nat.reduceSub, Nat.reduceLeDiff, Nat.reduceBEq, Nat.reduceDiv, Nat.reduceMod, Int.reduceToNat, Int.reduceLT, Int.reduceLE, Int.reduceAdd, Int.reduceSub, Int.reduceMul, Int.reduceEq, Int.reduceNeg, reduceCtorEq, resV, resAll, ARes.ev, LV.flat, ite_true, ite_false, exists_eq_left', exists_eq_left, keyOf, implies_true, fillC, capOf]
    refine callK_of (g_has_set (by omega)) ?_
    simp (disch := omega) only [f1, f2, f5, f9, f10, ↓SXd, SXu, slBounds, ↓sop, ↓aop, ↓reduceIte, LV.cells, AOp.dst, LV.I, LV.B, LV.U, LV.S, LV.nil, Nat.reduceEqDiff, Nat.reduceAdd, Nat.reduceMul, Nat.reduceSub, Nat.reduceLeDiff, Nat.reduceBEq, Nat.reduceDiv, Nat.reduceMod, Int.reduceToNat, Int.reduceLT, Int.reduceLE, Int.reduceAdd, Int.reduceSub, Int.reduceMul, Int.reduceEq, Int.reduceNeg, reduceCtorEq, resV, resAll, ARes.ev, LV.flat, ite_true, ite_false, exists_eq_left', exists_eq_left, keyOf, implies_true, fillC, capOf]
    have hst := range_pick_step hS (p := p) (k := k)
    have hbit := bs_bit hS p k
    rw [decide_eq_true (show k < vol x y z by omega), Bool.true_and] at hbit
    rw [hbit]
    by_cases hp : p (cellAt y z k) = true
    · rw [hp]
      rw [hp, if_pos rfl, ← hacc] at hst
      simp (disch := omega) only [f1, f2, f5, f9, f10, hbox.cells, ↓SXd, SXu, slBounds, ↓sop, ↓aop, ↓reduceIte, LV.cells, AOp.dst, LV.I, LV.B, LV.U, LV.S, LV.nil, Nat.reduceEqDiff, Nat.reduceAdd, Nat.reduceMul, Nat.reduceSub, Nat.reduceLeDiff, Nat.reduceBEq, Nat.reduceDiv, Nat.reduceMod, Int.reduceToNat, Int.reduceLT, Int.reduceLE, Int.reduceAdd, Int.reduceSub, Int.reduceMul, Int.reduceEq, Int.reduceNeg, reduceCtorEq, resV, resAll, ARes.ev, LV.flat, ite_true, ite_false, exists_eq_left', exists_eq_left, keyOf, implies_true, fillC, capOf]
      refine callK_of (g_cell hS (by omega) (by omega)) ?_
      simp (disch := omega) only [f1, f2, f5, f9, f10, ↓SXd, SXu, slBounds, ↓sop, ↓aop, ↓reduceIte, LV.cells, AOp.dst, LV.I, LV.B, LV.U, LV.S, LV.nil, Nat.reduceEqDiff, Nat.reduceAdd, Nat.reduceMul, Nat.reduceSub, Nat.reduceLeDiff, Nat.reduceBEq, Nat.reduceDiv, Nat.reduceMod, Int.reduceToNat, Int.reduceLT, Int.reduceLE, Int.reduceAdd, Int.reduceSub, Int.reduceMul, Int.reduceEq, Int.reduceNeg, reduceCtorEq, resV, resAll, ARes.ev, LV.flat, ite_true, ite_false, exists_eq_left', exists_eq_left, keyOf, implies_true, fillC, capOf]
      refine appendK_cell hout (by omega) fun N' l1 l2 l3 => ?_
      simp (disch := omega) only [f1, f2, f5, f9, f10, ↓SXd, SXu, slBounds, ↓sop, ↓aop, ↓reduceIte, LV.cells, AOp.dst, LV.I, LV.B, LV.U, LV.S, LV.nil, Nat.reduceEqDiff, Nat.reduceAdd, Nat.reduceMul, Nat.reduceSub, Nat.reduceLeDiff, Nat.reduceBEq, Nat.reduceDiv, Nat.reduceMod, Int.reduceToNat, Int.reduceLT, Int.reduceLE, Int.reduceAdd, Int.reduceSub, Int.reduceMul, Int.reduceEq, Int.reduceNeg, reduceCtorEq, resV, resAll, ARes.ev, LV.flat, ite_true, ite_false, exists_eq_left', exists_eq_left, keyOf, implies_true, fillC, capOf]
      exact ⟨m - 1, by omega, k + 1, _, _, by omega, hst.symm, pre_step hpre (by omega) l1 l3, live_step hbox (by omega) l3, by have := hpre.1; omega, l2, f1, f2, rfl, f9, eqI (natI _)⟩
    · have hp' : p (cellAt y z k) = false := by simpa using hp
      rw [hp']
      rw [hp', if_neg (by simp), List.append_nil, ← hacc] at hst
      simp (disch := omega) only [f1, f2, f5, f9, f10, ↓SXd, SXu, slBounds, ↓sop, ↓aop, ↓reduceIte, LV.cells, AOp.dst, LV.I, LV.B, LV.U, LV.S, LV.nil, Nat.reduceEqDiff, Nat.reduceAdd, Nat.reduceMul, Nat.reduceSub, Nat.reduceLeDiff, Nat.reduceBEq, Nat.reduceDiv, Nat.reduceMod, Int.reduceToNat, Int.reduceLT, Int.reduceLE, Int.reduceAdd, Int.reduceSub, Int.reduceMul, Int.reduceEq, Int.reduceNeg, reduceCtorEq, resV, resAll, ARes.ev, LV.flat, ite_true, ite_false, exists_eq_left', exists_eq_left, keyOf, implies_true, fillC, capOf]
      exact ⟨m - 1, by omega, k + 1, u, acc, by omega, hst.symm, hpre, hbox, hu, hout, f1, f2, f5, f9, eqI (natI _)⟩
  · simp (disch := omega) only [f1, f2, f5, f9, f10, ↓SXd, SXu, slBounds, ↓sop, ↓aop, ↓reduceIte, LV.cells, AOp.dst, LV.I, LV.B, LV.U, LV.S, LV.nil, Nat.reduceEqDiff, Nat.reduceAdd, Nat.reduceMul, Nat.reduceSub, Nat.reduceLeDiff, Nat.reduceBEq, Nat.reduceDiv, Nat.reduceMod, Int.reduceToNat, Int.reduceLT, Int.reduceLE, Int.reduceAdd, Int.reduceSub, Int.reduceMul, Int.reduceEq, Int.reduceNeg, reduceCtorEq, resV, resAll, ARes.ev, LV.flat, ite_true, ite_false, exists_eq_left', exists_eq_left, keyOf, implies_true, fillC, capOf]
    have : k = vol x y z := by omega
    subst this
    have e : pick x y z p = acc := hacc.symm
    rw [e]
    exact cmp_keepL hpre (by omega) hout (triL_lo acc) (by simp [rn, rn0, rn1])

end

/-- The six neighbours of a cell, as the program looks at them. -/
def nbrs (c : Cell) : List Cell := [⟨c.a + -1, c.b, c.c⟩, ⟨c.a + 1, c.b, c.c⟩, ⟨c.a, c.b + -1, c.c⟩, ⟨c.a, c.b + 1, c.c⟩, ⟨c.a, c.b, c.c + -1⟩, ⟨c.a, c.b, c.c + 1⟩]
section
variable {x y z : Int} (hS : Sides x y z)
include hS
theorem g_those {p : Cell → Bool} {f : FuncId} {caps : List (Nat × Nat)} {M : Mem}
    (hf : ∀ M', Pre M M' → ∀ i : Nat, i < vol x y z → CallsTo PG f ([.agg [.I (cellAt y z i).a, .I (cellAt y z i).b, .I (cellAt y z i).c]] ++ caps.map fun p => .ptr p.1 p.2) M' (.B (p (cellAt y z i))) M') :
    CallsTo PG F.impl_box_those [.agg [.I x, .I y, .I z], .clo f caps] M (.W (bs x y z p)) M := by
  have hv := vol_cast hS
  refine calls_run K.impl_box_those rfl ?_
  simp (disch := omega) only [C.impl_box_those, ↓SXd, SXu, slBounds, ↓sop, ↓aop, ↓reduceIte, LV.cells, AOp.dst, LV.I, LV.B, LV.U, LV.S, LV.nil, Nat.reduceEqDiff, Nat.reduceAdd, Nat.reduceMul, Nat.reduceSub, Nat.reduceLeDiff, Nat.reduceBEq, Nat.reduceDiv, Nat.reduceMod, Int.reduceToNat, Int.reduceLT, Int.reduceLE, Int.reduceAdd, Int.reduceSub, Int.reduceMul, Int.reduceEq, Int.reduceNeg, reduceCtorEq, resV, resAll, ARes.ev, LV.flat, ite_true, ite_false, exists_eq_left', exists_eq_left, keyOf, implies_true, fillC, capOf]
  refine callK_of (g_size hS) ?_
  simp (disch := omega) only [↓SXd, SXu, slBounds, ↓sop, ↓aop, ↓reduceIte, LV.cells, AOp.dst, LV.I, LV.B, LV.U, LV.S, LV.nil, Nat.reduceEqDiff, Nat.reduceAdd, Nat.reduceMul, Nat.reduceSub, Nat.reduceLeDiff, Nat.reduceBEq, Nat.reduceDiv, Nat.reduceMod, Int.reduceToNat, Int.reduceLT, Int.reduceLE, Int.reduceAdd, Int.reduceSub, Int.reduceMul, Int.reduceEq, Int.reduceNeg, reduceCtorEq, resV, resAll, ARes.ev, LV.flat, ite_true, ite_false, exists_eq_left', exists_eq_left, keyOf, implies_true, fillC, capOf]
  refine ev_loop (fun m fr M' => ∃ k : Nat, k + m = vol x y z ∧ Pre M M' ∧ Live M' M.length (.row [.I x, .I y, .I z] true 0) ∧ fr 1 = .clo f caps ∧ fr 2 = .ptr M.length 0 ∧ fr 5 = .W (bsN k fun i => p (cellAt y z i)) ∧ fr 8 = .I ((vol x y z : Nat) : Int) ∧ fr 9 = .I k) (vol x y z)
    ⟨0, by omega, Pre.app _ _, Live.new, rfl, rfl, rfl, rfl, rfl⟩ ?_
  rintro m fr M' ⟨k, hk, hpre, hbox, f1, f2, f5, f8, f9⟩
  simp (disch := omega) only [f1, f2, f5, f8, f9, ↓SXd, SXu, slBounds, ↓sop, ↓aop, ↓reduceIte, LV.cells, AOp.dst, LV.I, LV.B, LV.U, LV.S, LV.nil, Nat.reduceEqDiff, Nat.reduceAdd, Nat.reduceMul, Nat.reduceSub, Nat.reduceLeDiff, Nat.reduceBEq, Nat.reduceDiv, Nat.reduceMod, Int.reduceToNat, Int.reduceLT, Int.reduceLE, Int.reduceAdd, Int.reduceSub, Int.reduceMul, Int.reduceEq, Int.reduceNeg, reduceCtorEq, resV, resAll, ARes.ev, LV.flat, ite_true, ite_false, exists_eq_left', exists_eq_left, keyOf, implies_true, fillC, capOf]
  refine condC_dec (fun hlt => ?_) (fun hlt => ?_)
  · simp (disch := omega) only [f1, f2, f5, f8, f9, hbox.cells, ↓SXd, SXu, slBounds, ↓sop, ↓aop, ↓reduceIte, LV.cells, AOp.dst, LV.I, LV.B, LV.U, LV.S, LV.nil, Nat.reduceEqDiff, Nat.reduceAdd, Nat.reduceMul, Nat.reduceSub, Nat.reduceLeDiff, Nat.reduceBEq, Nat.reduceDiv, Nat.reduceMod, Int.reduceToNat, Int.reduceLT, Int.reduceLE, Int.reduceAdd, Int.reduceSub, Int.reduceMul, Int.reduceEq, Int.reduceNeg, reduceCtorEq, resV, resAll, ARes.ev, LV.flat, ite_true, ite_false, exists_eq_left', exists_eq_left, keyOf, implies_true, fillC, capOf]
    refine callK_of (g_cell hS (by omega) (by omega)) ?_
    simp (disch := omega) only [f1, f2, f5, f8, f9, ↓SXd, SXu, slBounds, ↓sop, ↓aop, ↓reduceIte, LV.cells, AOp.dst, LV.I, LV.B, LV.U, LV.S, LV.nil, Nat.reduceEqDiff, Nat.reduceAdd, Nat.reduceMul, Nat.reduceSub, Nat.reduceLeDiff, Nat.reduceBEq, Nat.reduceDiv, Nat.reduceMod, Int.reduceToNat, Int.reduceLT, Int.reduceLE, Int.reduceAdd, Int.reduceSub, Int.reduceMul, Int.reduceEq, Int.reduceNeg, reduceCtorEq, resV, resAll, ARes.ev, LV.flat, ite_true, ite_false, exists_eq_left', exists_eq_left, keyOf, implies_true, fillC, capOf]
    refine callK_of (hf M' hpre k (by omega)) ?_
    have hst := bsN_succ k fun i => p (cellAt y z i)
    by_cases hp : p (cellAt y z k) = true
    · rw [if_pos hp] at hst
      simp (disch := omega) only [f1, f2, f5, f8, f9, hp, ↓SXd, SXu, slBounds, ↓sop, ↓aop, ↓reduceIte, LV.cells, AOp.dst, LV.I, LV.B, LV.U, LV.S, LV.nil, Nat.reduceEqDiff, Nat.reduceAdd, Nat.reduceMul, Nat.reduceSub, Nat.reduceLeDiff, Nat.reduceBEq, Nat.reduceDiv, Nat.reduceMod, Int.reduceToNat, Int.reduceLT, Int.reduceLE, Int.reduceAdd, Int.reduceSub, Int.reduceMul, Int.reduceEq, Int.reduceNeg, reduceCtorEq, resV, resAll, ARes.ev, LV.flat, ite_true, ite_false, exists_eq_left', exists_eq_left, keyOf, implies_true, fillC, capOf]
      rw [← hst]
      exact ⟨m - 1, by omega, k + 1, by omega, hpre, hbox, f1, f2, rfl, f8, eqI (natI _)⟩
    · rw [if_neg hp] at hst
      have hp' : p (cellAt y z k) = false := by simpa using hp
      simp (disch := omega) only [f1, f2, f5, f8, f9, hp', ↓SXd, SXu, slBounds, ↓sop, ↓aop, ↓reduceIte, LV.cells, AOp.dst, LV.I, LV.B, LV.U, LV.S, LV.nil, Nat.reduceEqDiff, Nat.reduceAdd, Nat.reduceMul, Nat.reduceSub, Nat.reduceLeDiff, Nat.reduceBEq, Nat.reduceDiv, Nat.reduceMod, Int.reduceToNat, Int.reduceLT, Int.reduceLE, Int.reduceAdd, Int.reduceSub, Int.reduceMul, Int.reduceEq, Int.reduceNeg, reduceCtorEq, resV, resAll, ARes.ev, LV.flat, ite_true, ite_false, exists_eq_left', exists_eq_left, keyOf, implies_true, fillC, capOf]
      exact ⟨m - 1, by omega, k + 1, by omega, hpre, hbox, f1, f2, by rw [hst]; exact f5, f8, eqI (natI _)⟩
  · simp (disch := omega) only [f1, f2, f5, f8, f9, ↓SXd, SXu, slBounds, ↓sop, ↓aop, ↓reduceIte, LV.cells, AOp.dst, LV.I, LV.B, LV.U, LV.S, LV.nil, Nat.reduceEqDiff, Nat.reduceAdd, Nat.reduceMul, Nat.reduceSub, Nat.reduceLeDiff, Nat.reduceBEq, Nat.reduceDiv, Nat.reduceMod, Int.reduceToNat, Int.reduceLT, Int.reduceLE, Int.reduceAdd, Int.reduceSub, Int.reduceMul, Int.reduceEq, Int.reduceNeg, reduceCtorEq, resV, resAll, ARes.ev, LV.flat, ite_true, ite_false, exists_eq_left', exists_eq_left, keyOf, implies_true, fillC, capOf]
    have : k = vol x y z := by omega
    subst this
    exact cmp_pre hpre rfl
end
end Go.Ab
