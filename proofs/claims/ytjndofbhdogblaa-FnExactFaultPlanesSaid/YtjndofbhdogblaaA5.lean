/- Parts of the proof of FnExactFaultPlanesSaid: Da Gb Gd C_Za K_Za C_Uf K_Uf C_Ue K_Ue C_Ud K_Ud C_Uc K_Uc C_Ub K_Ub C_Ua K_Ua Ua C_Ea K_Ea Ma Ea C_Db K_Db Db. -/
import Derived.Test.YtjndofbhdogblaaA4
import Derived.Test.YtjndofbhdogblaaA3
import Derived.Test.YtjndofbhdogblaaProg
import Derived.KernelRfl
set_option linter.all false
/- Contracts: the laws' helpers on heaps. -/
namespace Go.Ab
open Go
set_option linter.unusedSimpArgs false
set_option linter.unusedVariables false

theorem h_szIntA3S {t o n : Nat} {left : Int} {M : Mem} (h : 0 ≤ left) (h' : left ≤ 10000000) (hn : n ≤ 9223372036854775807) :
    CallsTo PG F.laws_szIntA3S [.ref t o n, .I left] M (.I (if left < n then -1 else left - n)) M := by
  refine calls_run K.laws_szIntA3S rfl ?_
  simp (disch := omega) only [C.laws_szIntA3S, ↓SXd, SXu, slBounds, ↓sop, ↓aop, ↓reduceIte, LV.cells, AOp.dst, LV.I, LV.B, LV.U, LV.S, LV.nil, Nat.reduceEqDiff, Nat.reduceAdd, Nat.reduceMul, Nat.reduceSub, Nat.reduceLeDiff, Nat.reduceBEq, Nat.reduceDiv, Nat.reduceMod, Int.reduceToNat, Int.reduceLT, Int.reduceLE, Int.reduceAdd, Int.reduceSub, Int.reduceMul, Int.reduceEq, Int.reduceNeg, reduceCtorEq, resV, resAll, ARes.ev, LV.flat, ite_true, ite_false, exists_eq_left', exists_eq_left, keyOf, implies_true, fillC, capOf]
  refine condC_dec (fun h => ?_) (fun h => ?_)
  · simp (disch := omega) only [↓SXd, SXu, slBounds, ↓sop, ↓aop, ↓reduceIte, LV.cells, AOp.dst, LV.I, LV.B, LV.U, LV.S, LV.nil, Nat.reduceEqDiff, Nat.reduceAdd, Nat.reduceMul, Nat.reduceSub, Nat.reduceLeDiff, Nat.reduceBEq, Nat.reduceDiv, Nat.reduceMod, Int.reduceToNat, Int.reduceLT, Int.reduceLE, Int.reduceAdd, Int.reduceSub, Int.reduceMul, Int.reduceEq, Int.reduceNeg, reduceCtorEq, resV, resAll, ARes.ev, LV.flat, ite_true, ite_false, exists_eq_left', exists_eq_left, keyOf, implies_true, fillC, capOf]
    rw [if_pos (by omega)]; exact cmp_drop0 rfl
  · simp (disch := omega) only [↓SXd, SXu, slBounds, ↓sop, ↓aop, ↓reduceIte, LV.cells, AOp.dst, LV.I, LV.B, LV.U, LV.S, LV.nil, Nat.reduceEqDiff, Nat.reduceAdd, Nat.reduceMul, Nat.reduceSub, Nat.reduceLeDiff, Nat.reduceBEq, Nat.reduceDiv, Nat.reduceMod, Int.reduceToNat, Int.reduceLT, Int.reduceLE, Int.reduceAdd, Int.reduceSub, Int.reduceMul, Int.reduceEq, Int.reduceNeg, reduceCtorEq, resV, resAll, ARes.ev, LV.flat, ite_true, ite_false, exists_eq_left', exists_eq_left, keyOf, implies_true, fillC, capOf]
    rw [if_neg (by omega)]; exact cmp_drop0 rfl

theorem h_szHeap {x y z : Int} {t o n : Nat} {left : Int} {M : Mem} (h : 0 ≤ left) (h' : left ≤ 10000000) (hn : n ≤ 9223372036854775807) :
    CallsTo PG F.laws_szHeap [.agg [.I x, .I y, .I z, .ref t o n], .I left] M (.I (if left < n then -1 else left - n)) M := by
  refine calls_run K.laws_szHeap rfl ?_
  simp (disch := omega) only [C.laws_szHeap, ↓SXd, SXu, slBounds, ↓sop, ↓aop, ↓reduceIte, LV.cells, AOp.dst, LV.I, LV.B, LV.U, LV.S, LV.nil, Nat.reduceEqDiff, Nat.reduceAdd, Nat.reduceMul, Nat.reduceSub, Nat.reduceLeDiff, Nat.reduceBEq, Nat.reduceDiv, Nat.reduceMod, Int.reduceToNat, Int.reduceLT, Int.reduceLE, Int.reduceAdd, Int.reduceSub, Int.reduceMul, Int.reduceEq, Int.reduceNeg, reduceCtorEq, resV, resAll, ARes.ev, LV.flat, ite_true, ite_false, exists_eq_left', exists_eq_left, keyOf, implies_true, fillC, capOf]
  refine callK_of (h_szIntA3S h h' hn) ?_
  simp (disch := omega) only [↓SXd, SXu, slBounds, ↓sop, ↓aop, ↓reduceIte, LV.cells, AOp.dst, LV.I, LV.B, LV.U, LV.S, LV.nil, Nat.reduceEqDiff, Nat.reduceAdd, Nat.reduceMul, Nat.reduceSub, Nat.reduceLeDiff, Nat.reduceBEq, Nat.reduceDiv, Nat.reduceMod, Int.reduceToNat, Int.reduceLT, Int.reduceLE, Int.reduceAdd, Int.reduceSub, Int.reduceMul, Int.reduceEq, Int.reduceNeg, reduceCtorEq, resV, resAll, ARes.ev, LV.flat, ite_true, ite_false, exists_eq_left', exists_eq_left, keyOf, implies_true, fillC, capOf]
  by_cases hl : left < n
  · rw [if_pos hl]
    refine condC_dec (fun h => ?_) (fun h => by omega)
    simp (disch := omega) only [↓SXd, SXu, slBounds, ↓sop, ↓aop, ↓reduceIte, LV.cells, AOp.dst, LV.I, LV.B, LV.U, LV.S, LV.nil, Nat.reduceEqDiff, Nat.reduceAdd, Nat.reduceMul, Nat.reduceSub, Nat.reduceLeDiff, Nat.reduceBEq, Nat.reduceDiv, Nat.reduceMod, Int.reduceToNat, Int.reduceLT, Int.reduceLE, Int.reduceAdd, Int.reduceSub, Int.reduceMul, Int.reduceEq, Int.reduceNeg, reduceCtorEq, resV, resAll, ARes.ev, LV.flat, ite_true, ite_false, exists_eq_left', exists_eq_left, keyOf, implies_true, fillC, capOf]
    exact cmp_drop rfl
  · rw [if_neg hl]
    refine condC_dec (fun h => by omega) (fun h => ?_)
    simp (disch := omega) only [↓SXd, SXu, slBounds, ↓sop, ↓aop, ↓reduceIte, LV.cells, AOp.dst, LV.I, LV.B, LV.U, LV.S, LV.nil, Nat.reduceEqDiff, Nat.reduceAdd, Nat.reduceMul, Nat.reduceSub, Nat.reduceLeDiff, Nat.reduceBEq, Nat.reduceDiv, Nat.reduceMod, Int.reduceToNat, Int.reduceLT, Int.reduceLE, Int.reduceAdd, Int.reduceSub, Int.reduceMul, Int.reduceEq, Int.reduceNeg, reduceCtorEq, resV, resAll, ARes.ev, LV.flat, ite_true, ite_false, exists_eq_left', exists_eq_left, keyOf, implies_true, fillC, capOf]
    exact cmp_drop rfl

theorem h_eqIntA3 {a b c a' b' c' : Int} {M : Mem} : CallsTo PG F.laws_eqIntA3 [.agg [.I a, .I b, .I c], .agg [.I a', .I b', .I c']] M (.B (decide ((⟨a, b, c⟩ : Cell) = ⟨a', b', c'⟩))) M := by
  refine calls_run K.laws_eqIntA3 rfl ?_
  simp (disch := omega) only [C.laws_eqIntA3, ↓SXd, SXu, slBounds, ↓sop, ↓aop, ↓reduceIte, LV.cells, AOp.dst, LV.I, LV.B, LV.U, LV.S, LV.nil, Nat.reduceEqDiff, Nat.reduceAdd, Nat.reduceMul, Nat.reduceSub, Nat.reduceLeDiff, Nat.reduceBEq, Nat.reduceDiv, Nat.reduceMod, Int.reduceToNat, Int.reduceLT, Int.reduceLE, Int.reduceAdd, Int.reduceSub, Int.reduceMul, Int.reduceEq, Int.reduceNeg, reduceCtorEq, resV, resAll, ARes.ev, LV.flat, ite_true, ite_false, exists_eq_left', exists_eq_left, keyOf, implies_true, fillC, capOf]
  refine ev_loop (fun m fr M' => ∃ k : Nat, k + m = 3 ∧ M' = M ++ [some (Blk.row [.I a, .I b, .I c] true 0), some (Blk.row [.I a', .I b', .I c'] true 0)] ∧ fr 2 = .ptr M.length 0 ∧ fr 3 = .ptr (M.length + 1) 0 ∧ fr 5 = .I k ∧
    (0 < k → a = a') ∧ (1 < k → b = b') ∧ (2 < k → c = c')) 3 ⟨0, rfl, rfl, rfl, rfl, rfl, by omega, by omega, by omega⟩ ?_
  rintro m fr M' ⟨k, hk, rfl, h2, h3, h5, ha, hb, hc⟩
  simp (disch := omega) only [h2, h3, h5, ↓SXd, SXu, slBounds, ↓sop, ↓aop, ↓reduceIte, LV.cells, AOp.dst, LV.I, LV.B, LV.U, LV.S, LV.nil, Nat.reduceEqDiff, Nat.reduceAdd, Nat.reduceMul, Nat.reduceSub, Nat.reduceLeDiff, Nat.reduceBEq, Nat.reduceDiv, Nat.reduceMod, Int.reduceToNat, Int.reduceLT, Int.reduceLE, Int.reduceAdd, Int.reduceSub, Int.reduceMul, Int.reduceEq, Int.reduceNeg, reduceCtorEq, resV, resAll, ARes.ev, LV.flat, ite_true, ite_false, exists_eq_left', exists_eq_left, keyOf, implies_true, fillC, capOf]
  refine condC_dec (fun hlt => ?_) (fun hlt => ?_)
  · have hk3 : k = 0 ∨ k = 1 ∨ k = 2 := by omega
    rcases hk3 with rfl | rfl | rfl
    all_goals
      simp (disch := omega) only [h2, h3, h5, ↓SXd, SXu, slBounds, ↓sop, ↓aop, ↓reduceIte, LV.cells, AOp.dst, LV.I, LV.B, LV.U, LV.S, LV.nil, Nat.reduceEqDiff, Nat.reduceAdd, Nat.reduceMul, Nat.reduceSub, Nat.reduceLeDiff, Nat.reduceBEq, Nat.reduceDiv, Nat.reduceMod, Int.reduceToNat, Int.reduceLT, Int.reduceLE, Int.reduceAdd, Int.reduceSub, Int.reduceMul, Int.reduceEq, Int.reduceNeg, reduceCtorEq, resV, resAll, ARes.ev, LV.flat, ite_true, ite_false, exists_eq_left', exists_eq_left, keyOf, implies_true, fillC, capOf]
      refine condC_dec (fun he => ?_) (fun he => ?_)
      · simp (disch := omega) only [h2, h3, h5, ↓SXd, SXu, slBounds, ↓sop, ↓aop, ↓reduceIte, LV.cells, AOp.dst, LV.I, LV.B, LV.U, LV.S, LV.nil, Nat.reduceEqDiff, Nat.reduceAdd, Nat.reduceMul, Nat.reduceSub, Nat.reduceLeDiff, Nat.reduceBEq, Nat.reduceDiv, Nat.reduceMod, Int.reduceToNat, Int.reduceLT, Int.reduceLE, Int.reduceAdd, Int.reduceSub, Int.reduceMul, Int.reduceEq, Int.reduceNeg, reduceCtorEq, resV, resAll, ARes.ev, LV.flat, ite_true, ite_false, exists_eq_left', exists_eq_left, keyOf, implies_true, fillC, capOf]
        exact ⟨m - 1, by omega, _, by omega, rfl, h2, h3, eqI (natI _), by omega, by omega, by omega⟩
      · simp (disch := omega) only [h2, h3, h5, ↓SXd, SXu, slBounds, ↓sop, ↓aop, ↓reduceIte, LV.cells, AOp.dst, LV.I, LV.B, LV.U, LV.S, LV.nil, Nat.reduceEqDiff, Nat.reduceAdd, Nat.reduceMul, Nat.reduceSub, Nat.reduceLeDiff, Nat.reduceBEq, Nat.reduceDiv, Nat.reduceMod, Int.reduceToNat, Int.reduceLT, Int.reduceLE, Int.reduceAdd, Int.reduceSub, Int.reduceMul, Int.reduceEq, Int.reduceNeg, reduceCtorEq, resV, resAll, ARes.ev, LV.flat, ite_true, ite_false, exists_eq_left', exists_eq_left, keyOf, implies_true, fillC, capOf]
        rw [decide_eq_false (fun e => he (by injection e))]
        exact cmp_drop rfl
  · simp (disch := omega) only [h2, h3, h5, ↓SXd, SXu, slBounds, ↓sop, ↓aop, ↓reduceIte, LV.cells, AOp.dst, LV.I, LV.B, LV.U, LV.S, LV.nil, Nat.reduceEqDiff, Nat.reduceAdd, Nat.reduceMul, Nat.reduceSub, Nat.reduceLeDiff, Nat.reduceBEq, Nat.reduceDiv, Nat.reduceMod, Int.reduceToNat, Int.reduceLT, Int.reduceLE, Int.reduceAdd, Int.reduceSub, Int.reduceMul, Int.reduceEq, Int.reduceNeg, reduceCtorEq, resV, resAll, ARes.ev, LV.flat, ite_true, ite_false, exists_eq_left', exists_eq_left, keyOf, implies_true, fillC, capOf]
    rw [decide_eq_true (cell_eq.2 ⟨ha (by omega), hb (by omega), hc (by omega)⟩)]
    exact cmp_drop rfl

theorem h_eqIntA3S {t o t' o' : Nat} {cs ds : List Cell} {M : Mem} (h : Tri M t o cs) (h' : Tri M t' o' ds) (hn : cs.length ≤ 1000000000) (hn' : ds.length ≤ 1000000000) :
    CallsTo PG F.laws_eqIntA3S [.ref t o cs.length, .ref t' o' ds.length] M (.B (decide (cs = ds))) M := by
  refine calls_run K.laws_eqIntA3S rfl ?_
  simp (disch := omega) only [C.laws_eqIntA3S, ↓SXd, SXu, slBounds, ↓sop, ↓aop, ↓reduceIte, LV.cells, AOp.dst, LV.I, LV.B, LV.U, LV.S, LV.nil, Nat.reduceEqDiff, Nat.reduceAdd, Nat.reduceMul, Nat.reduceSub, Nat.reduceLeDiff, Nat.reduceBEq, Nat.reduceDiv, Nat.reduceMod, Int.reduceToNat, Int.reduceLT, Int.reduceLE, Int.reduceAdd, Int.reduceSub, Int.reduceMul, Int.reduceEq, Int.reduceNeg, reduceCtorEq, resV, resAll, ARes.ev, LV.flat, ite_true, ite_false, exists_eq_left', exists_eq_left, keyOf, implies_true, fillC, capOf]
  refine condC_dec (fun hl => ?_) (fun hl => ?_)
  · simp (disch := omega) only [↓SXd, SXu, slBounds, ↓sop, ↓aop, ↓reduceIte, LV.cells, AOp.dst, LV.I, LV.B, LV.U, LV.S, LV.nil, Nat.reduceEqDiff, Nat.reduceAdd, Nat.reduceMul, Nat.reduceSub, Nat.reduceLeDiff, Nat.reduceBEq, Nat.reduceDiv, Nat.reduceMod, Int.reduceToNat, Int.reduceLT, Int.reduceLE, Int.reduceAdd, Int.reduceSub, Int.reduceMul, Int.reduceEq, Int.reduceNeg, reduceCtorEq, resV, resAll, ARes.ev, LV.flat, ite_true, ite_false, exists_eq_left', exists_eq_left, keyOf, implies_true, fillC, capOf]
    refine ev_loop (fun m fr M' => ∃ k : Nat, k + m = cs.length ∧ M' = M ∧ fr 0 = .ref t o cs.length ∧ fr 1 = .ref t' o' ds.length ∧ fr 5 = .I k ∧ cs.take k = ds.take k) cs.length ⟨0, by omega, rfl, rfl, rfl, rfl, by simp⟩ ?_
    rintro m fr M' ⟨k, hk, rfl, h0, h1, h5, heq⟩
    simp (disch := omega) only [h0, h1, h5, ↓SXd, SXu, slBounds, ↓sop, ↓aop, ↓reduceIte, LV.cells, AOp.dst, LV.I, LV.B, LV.U, LV.S, LV.nil, Nat.reduceEqDiff, Nat.reduceAdd, Nat.reduceMul, Nat.reduceSub, Nat.reduceLeDiff, Nat.reduceBEq, Nat.reduceDiv, Nat.reduceMod, Int.reduceToNat, Int.reduceLT, Int.reduceLE, Int.reduceAdd, Int.reduceSub, Int.reduceMul, Int.reduceEq, Int.reduceNeg, reduceCtorEq, resV, resAll, ARes.ev, LV.flat, ite_true, ite_false, exists_eq_left', exists_eq_left, keyOf, implies_true, fillC, capOf]
    refine condC_dec (fun hlt => ?_) (fun hlt => ?_)
    · simp (disch := omega) only [h0, h1, h5, h.get, h'.get, ↓SXd, SXu, slBounds, ↓sop, ↓aop, ↓reduceIte, LV.cells, AOp.dst, LV.I, LV.B, LV.U, LV.S, LV.nil, Nat.reduceEqDiff, Nat.reduceAdd, Nat.reduceMul, Nat.reduceSub, Nat.reduceLeDiff, Nat.reduceBEq, Nat.reduceDiv, Nat.reduceMod, Int.reduceToNat, Int.reduceLT, Int.reduceLE, Int.reduceAdd, Int.reduceSub, Int.reduceMul, Int.reduceEq, Int.reduceNeg, reduceCtorEq, resV, resAll, ARes.ev, LV.flat, ite_true, ite_false, exists_eq_left', exists_eq_left, keyOf, implies_true, fillC, capOf]
      refine callK_of h_eqIntA3 ?_
      simp (disch := omega) only [h0, h1, h5, ↓SXd, SXu, slBounds, ↓sop, ↓aop, ↓reduceIte, LV.cells, AOp.dst, LV.I, LV.B, LV.U, LV.S, LV.nil, Nat.reduceEqDiff, Nat.reduceAdd, Nat.reduceMul, Nat.reduceSub, Nat.reduceLeDiff, Nat.reduceBEq, Nat.reduceDiv, Nat.reduceMod, Int.reduceToNat, Int.reduceLT, Int.reduceLE, Int.reduceAdd, Int.reduceSub, Int.reduceMul, Int.reduceEq, Int.reduceNeg, reduceCtorEq, resV, resAll, ARes.ev, LV.flat, ite_true, ite_false, exists_eq_left', exists_eq_left, keyOf, implies_true, fillC, capOf]
      refine condC_dec (fun he => ?_) (fun he => ?_)
      · simp (disch := omega) only [h0, h1, h5, ↓SXd, SXu, slBounds, ↓sop, ↓aop, ↓reduceIte, LV.cells, AOp.dst, LV.I, LV.B, LV.U, LV.S, LV.nil, Nat.reduceEqDiff, Nat.reduceAdd, Nat.reduceMul, Nat.reduceSub, Nat.reduceLeDiff, Nat.reduceBEq, Nat.reduceDiv, Nat.reduceMod, Int.reduceToNat, Int.reduceLT, Int.reduceLE, Int.reduceAdd, Int.reduceSub, Int.reduceMul, Int.reduceEq, Int.reduceNeg, reduceCtorEq, resV, resAll, ARes.ev, LV.flat, ite_true, ite_false, exists_eq_left', exists_eq_left, keyOf, implies_true, fillC, capOf]
        refine ⟨m - 1, by omega, _, by omega, rfl, h0, h1, eqI (natI _), ?_⟩
        have e1 : k < cs.length := by omega
        have e2 : k < ds.length := by omega
        rw [List.take_add_one, List.take_add_one, heq]
        simp only [List.getD_eq_getElem?_getD, e1, e2, getElem?_pos, Option.getD_some] at he
        simp only [e1, e2, getElem?_pos, Option.toList]
        rw [show cs[k] = ds[k] from he]
      · simp (disch := omega) only [h0, h1, h5, ↓SXd, SXu, slBounds, ↓sop, ↓aop, ↓reduceIte, LV.cells, AOp.dst, LV.I, LV.B, LV.U, LV.S, LV.nil, Nat.reduceEqDiff, Nat.reduceAdd, Nat.reduceMul, Nat.reduceSub, Nat.reduceLeDiff, Nat.reduceBEq, Nat.reduceDiv, Nat.reduceMod, Int.reduceToNat, Int.reduceLT, Int.reduceLE, Int.reduceAdd, Int.reduceSub, Int.reduceMul, Int.reduceEq, Int.reduceNeg, reduceCtorEq, resV, resAll, ARes.ev, LV.flat, ite_true, ite_false, exists_eq_left', exists_eq_left, keyOf, implies_true, fillC, capOf]
        rw [decide_eq_false (fun e => he (by rw [e]))]
        exact cmp_drop0 rfl
    · simp (disch := omega) only [↓SXd, SXu, slBounds, ↓sop, ↓aop, ↓reduceIte, LV.cells, AOp.dst, LV.I, LV.B, LV.U, LV.S, LV.nil, Nat.reduceEqDiff, Nat.reduceAdd, Nat.reduceMul, Nat.reduceSub, Nat.reduceLeDiff, Nat.reduceBEq, Nat.reduceDiv, Nat.reduceMod, Int.reduceToNat, Int.reduceLT, Int.reduceLE, Int.reduceAdd, Int.reduceSub, Int.reduceMul, Int.reduceEq, Int.reduceNeg, reduceCtorEq, resV, resAll, ARes.ev, LV.flat, ite_true, ite_false, exists_eq_left', exists_eq_left, keyOf, implies_true, fillC, capOf]
      have : cs = ds := by
        rw [List.take_of_length_le (by omega), List.take_of_length_le (by omega)] at heq
        exact heq
      rw [decide_eq_true this]
      exact cmp_drop0 rfl
  · simp (disch := omega) only [↓SXd, SXu, slBounds, ↓sop, ↓aop, ↓reduceIte, LV.cells, AOp.dst, LV.I, LV.B, LV.U, LV.S, LV.nil, Nat.reduceEqDiff, Nat.reduceAdd, Nat.reduceMul, Nat.reduceSub, Nat.reduceLeDiff, Nat.reduceBEq, Nat.reduceDiv, Nat.reduceMod, Int.reduceToNat, Int.reduceLT, Int.reduceLE, Int.reduceAdd, Int.reduceSub, Int.reduceMul, Int.reduceEq, Int.reduceNeg, reduceCtorEq, resV, resAll, ARes.ev, LV.flat, ite_true, ite_false, exists_eq_left', exists_eq_left, keyOf, implies_true, fillC, capOf]
    rw [decide_eq_false (fun e => hl (by rw [e]))]
    exact cmp_drop0 rfl

theorem h_toIntA3 {a b c : Int} {M : Mem} : CallsTo PG F.laws_toIntA3 [.agg [.I a, .I b, .I c]] M (.agg [.I a, .I b, .I c]) M := by
  refine calls_run K.laws_toIntA3 rfl ?_
  simp (disch := omega) only [C.laws_toIntA3, ↓SXd, SXu, slBounds, ↓sop, ↓aop, ↓reduceIte, LV.cells, AOp.dst, LV.I, LV.B, LV.U, LV.S, LV.nil, Nat.reduceEqDiff, Nat.reduceAdd, Nat.reduceMul, Nat.reduceSub, Nat.reduceLeDiff, Nat.reduceBEq, Nat.reduceDiv, Nat.reduceMod, Int.reduceToNat, Int.reduceLT, Int.reduceLE, Int.reduceAdd, Int.reduceSub, Int.reduceMul, Int.reduceEq, Int.reduceNeg, reduceCtorEq, resV, resAll, ARes.ev, LV.flat, ite_true, ite_false, exists_eq_left', exists_eq_left, keyOf, implies_true, fillC, capOf]
  refine ev_loop (fun m fr M' => ∃ (k : Nat) (x y z : Int), k + m = 3 ∧ M' = M ++ [some (Blk.row [.I a, .I b, .I c] true 0), some (Blk.row [.I 0, .I 0, .I 0] true 0), some (Blk.row [.I x, .I y, .I z] true 0)] ∧
    fr 1 = .ptr M.length 0 ∧ fr 2 = .ptr (M.length + 1) 0 ∧ fr 3 = .ptr (M.length + 2) 0 ∧ fr 4 = .I k ∧ (0 < k → x = a) ∧ (1 < k → y = b) ∧ (2 < k → z = c)) 3 ⟨0, 0, 0, 0, rfl, rfl, rfl, rfl, rfl, rfl, by omega, by omega, by omega⟩ ?_
  rintro m fr M' ⟨k, x, y, z, hk, rfl, h1, h2, h3, h4, ha, hb, hc⟩
  simp (disch := omega) only [h1, h2, h3, h4, ↓SXd, SXu, slBounds, ↓sop, ↓aop, ↓reduceIte, LV.cells, AOp.dst, LV.I, LV.B, LV.U, LV.S, LV.nil, Nat.reduceEqDiff, Nat.reduceAdd, Nat.reduceMul, Nat.reduceSub, Nat.reduceLeDiff, Nat.reduceBEq, Nat.reduceDiv, Nat.reduceMod, Int.reduceToNat, Int.reduceLT, Int.reduceLE, Int.reduceAdd, Int.reduceSub, Int.reduceMul, Int.reduceEq, Int.reduceNeg, reduceCtorEq, resV, resAll, ARes.ev, LV.flat, ite_true, ite_false, exists_eq_left', exists_eq_left, keyOf, implies_true, fillC, capOf]
  refine condC_dec (fun hlt => ?_) (fun hlt => ?_)
  · have hk3 : k = 0 ∨ k = 1 ∨ k = 2 := by omega
    rcases hk3 with rfl | rfl | rfl
    · simp (disch := omega) only [h1, h2, h3, h4, splice, ↓SXd, SXu, slBounds, ↓sop, ↓aop, ↓reduceIte, LV.cells, AOp.dst, LV.I, LV.B, LV.U, LV.S, LV.nil, Nat.reduceEqDiff, Nat.reduceAdd, Nat.reduceMul, Nat.reduceSub, Nat.reduceLeDiff, Nat.reduceBEq, Nat.reduceDiv, Nat.reduceMod, Int.reduceToNat, Int.reduceLT, Int.reduceLE, Int.reduceAdd, Int.reduceSub, Int.reduceMul, Int.reduceEq, Int.reduceNeg, reduceCtorEq, resV, resAll, ARes.ev, LV.flat, ite_true, ite_false, exists_eq_left', exists_eq_left, keyOf, implies_true, fillC, capOf]
      exact ⟨m - 1, by omega, 1, a, y, z, by omega, rfl, h1, h2, h3, rfl, by omega, by omega, by omega⟩
    · simp (disch := omega) only [h1, h2, h3, h4, splice, ↓SXd, SXu, slBounds, ↓sop, ↓aop, ↓reduceIte, LV.cells, AOp.dst, LV.I, LV.B, LV.U, LV.S, LV.nil, Nat.reduceEqDiff, Nat.reduceAdd, Nat.reduceMul, Nat.reduceSub, Nat.reduceLeDiff, Nat.reduceBEq, Nat.reduceDiv, Nat.reduceMod, Int.reduceToNat, Int.reduceLT, Int.reduceLE, Int.reduceAdd, Int.reduceSub, Int.reduceMul, Int.reduceEq, Int.reduceNeg, reduceCtorEq, resV, resAll, ARes.ev, LV.flat, ite_true, ite_false, exists_eq_left', exists_eq_left, keyOf, implies_true, fillC, capOf]
      exact ⟨m - 1, by omega, 2, x, b, z, by omega, rfl, h1, h2, h3, rfl, by omega, by omega, by omega⟩
    · simp (disch := omega) only [h1, h2, h3, h4, splice, ↓SXd, SXu, slBounds, ↓sop, ↓aop, ↓reduceIte, LV.cells, AOp.dst, LV.I, LV.B, LV.U, LV.S, LV.nil, Nat.reduceEqDiff, Nat.reduceAdd, Nat.reduceMul, Nat.reduceSub, Nat.reduceLeDiff, Nat.reduceBEq, Nat.reduceDiv, Nat.reduceMod, Int.reduceToNat, Int.reduceLT, Int.reduceLE, Int.reduceAdd, Int.reduceSub, Int.reduceMul, Int.reduceEq, Int.reduceNeg, reduceCtorEq, resV, resAll, ARes.ev, LV.flat, ite_true, ite_false, exists_eq_left', exists_eq_left, keyOf, implies_true, fillC, capOf]
      exact ⟨m - 1, by omega, 3, x, y, c, by omega, rfl, h1, h2, h3, rfl, by omega, by omega, by omega⟩
  · simp (disch := omega) only [h1, h2, h3, h4, splice, ↓SXd, SXu, slBounds, ↓sop, ↓aop, ↓reduceIte, LV.cells, AOp.dst, LV.I, LV.B, LV.U, LV.S, LV.nil, Nat.reduceEqDiff, Nat.reduceAdd, Nat.reduceMul, Nat.reduceSub, Nat.reduceLeDiff, Nat.reduceBEq, Nat.reduceDiv, Nat.reduceMod, Int.reduceToNat, Int.reduceLT, Int.reduceLE, Int.reduceAdd, Int.reduceSub, Int.reduceMul, Int.reduceEq, Int.reduceNeg, reduceCtorEq, resV, resAll, ARes.ev, LV.flat, ite_true, ite_false, exists_eq_left', exists_eq_left, keyOf, implies_true, fillC, capOf]
    rw [ha (by omega), hb (by omega), hc (by omega)]
    exact cmp_drop rfl

theorem h_toIntA3S {t o : Nat} {cs : List Cell} {M : Mem} (h : Tri M t o cs) (hn : cs.length ≤ 1000000000) :
    CallsTo PG F.laws_toIntA3S [.ref t o cs.length] M (.ref M.length 0 cs.length) (M ++ [some (.row (triL cs) true 3)]) := by
  refine calls_run K.laws_toIntA3S rfl ?_
  simp (disch := omega) only [C.laws_toIntA3S, made_tri, ↓SXd, SXu, slBounds, ↓sop, ↓aop, ↓reduceIte, LV.cells, AOp.dst, LV.I, LV.B, LV.U, LV.S, LV.nil, Nat.reduceEqDiff, Nat.reduceAdd, Nat.reduceMul, Nat.reduceSub, Nat.reduceLeDiff, Nat.reduceBEq, Nat.reduceDiv, Nat.reduceMod, Int.reduceToNat, Int.reduceLT, Int.reduceLE, Int.reduceAdd, Int.reduceSub, Int.reduceMul, Int.reduceEq, Int.reduceNeg, reduceCtorEq, resV, resAll, ARes.ev, LV.flat, ite_true, ite_false, exists_eq_left', exists_eq_left, keyOf, implies_true, fillC, capOf]
  refine ev_loop (fun m fr M' => ∃ k : Nat, k + m = cs.length ∧ M' = M ++ [some (.row (triL (cs.take k ++ List.replicate (cs.length - k) default)) true 3)] ∧ fr 0 = .ref t o cs.length ∧ fr 3 = .ref M.length 0 cs.length ∧ fr 4 = .I k) cs.length
    ⟨0, by omega, rfl, rfl, rfl, rfl⟩ ?_
  rintro m fr M' ⟨k, hk, rfl, h0, h3, h4⟩
  have hlen : (cs.take k ++ List.replicate (cs.length - k) default).length = cs.length := by simp; omega
  have ht := h.lt
  simp (disch := omega) only [h0, h3, h4, ↓SXd, SXu, slBounds, ↓sop, ↓aop, ↓reduceIte, LV.cells, AOp.dst, LV.I, LV.B, LV.U, LV.S, LV.nil, Nat.reduceEqDiff, Nat.reduceAdd, Nat.reduceMul, Nat.reduceSub, Nat.reduceLeDiff, Nat.reduceBEq, Nat.reduceDiv, Nat.reduceMod, Int.reduceToNat, Int.reduceLT, Int.reduceLE, Int.reduceAdd, Int.reduceSub, Int.reduceMul, Int.reduceEq, Int.reduceNeg, reduceCtorEq, resV, resAll, ARes.ev, LV.flat, ite_true, ite_false, exists_eq_left', exists_eq_left, keyOf, implies_true, fillC, capOf]
  refine condC_dec (fun hlt => ?_) (fun hlt => ?_)
  · simp (disch := omega) only [h0, h3, h4, getCells_app, h.get, Cell.row, ↓SXd, SXu, slBounds, ↓sop, ↓aop, ↓reduceIte, LV.cells, AOp.dst, LV.I, LV.B, LV.U, LV.S, LV.nil, Nat.reduceEqDiff, Nat.reduceAdd, Nat.reduceMul, Nat.reduceSub, Nat.reduceLeDiff, Nat.reduceBEq, Nat.reduceDiv, Nat.reduceMod, Int.reduceToNat, Int.reduceLT, Int.reduceLE, Int.reduceAdd, Int.reduceSub, Int.reduceMul, Int.reduceEq, Int.reduceNeg, reduceCtorEq, resV, resAll, ARes.ev, LV.flat, ite_true, ite_false, exists_eq_left', exists_eq_left, keyOf, implies_true, fillC, capOf]
    refine callK_of h_toIntA3 ?_
    simp (disch := omega) only [h0, h3, h4, triL_len, hlen, splice_tri, ↓SXd, SXu, slBounds, ↓sop, ↓aop, ↓reduceIte, LV.cells, AOp.dst, LV.I, LV.B, LV.U, LV.S, LV.nil, Nat.reduceEqDiff, Nat.reduceAdd, Nat.reduceMul, Nat.reduceSub, Nat.reduceLeDiff, Nat.reduceBEq, Nat.reduceDiv, Nat.reduceMod, Int.reduceToNat, Int.reduceLT, Int.reduceLE, Int.reduceAdd, Int.reduceSub, Int.reduceMul, Int.reduceEq, Int.reduceNeg, reduceCtorEq, resV, resAll, ARes.ev, LV.flat, ite_true, ite_false, exists_eq_left', exists_eq_left, keyOf, implies_true, fillC, capOf]
    refine ⟨m - 1, by omega, k + 1, by omega, ?_, h0, h3, eqI (natI _)⟩
    rw [← fill_step (by omega)]
  · simp (disch := omega) only [h0, h3, h4, ↓SXd, SXu, slBounds, ↓sop, ↓aop, ↓reduceIte, LV.cells, AOp.dst, LV.I, LV.B, LV.U, LV.S, LV.nil, Nat.reduceEqDiff, Nat.reduceAdd, Nat.reduceMul, Nat.reduceSub, Nat.reduceLeDiff, Nat.reduceBEq, Nat.reduceDiv, Nat.reduceMod, Int.reduceToNat, Int.reduceLT, Int.reduceLE, Int.reduceAdd, Int.reduceSub, Int.reduceMul, Int.reduceEq, Int.reduceNeg, reduceCtorEq, resV, resAll, ARes.ev, LV.flat, ite_true, ite_false, exists_eq_left', exists_eq_left, keyOf, implies_true, fillC, capOf]
    have hk' : k = cs.length := by omega
    subst hk'
    rw [List.take_length, Nat.sub_self, List.replicate_zero, List.append_nil]
    exact cmp_keep0 (triL_lo cs)

theorem h_toHeap {x y z : Int} {t o : Nat} {cs : List Cell} {M : Mem} (h : Tri M t o cs) (hn : cs.length ≤ 1000000000) :
    CallsTo PG F.laws_toHeap [.agg [.I x, .I y, .I z, .ref t o cs.length]] M (.agg [.I x, .I y, .I z, .ref M.length 0 cs.length]) (M ++ [some (.row (triL cs) true 3)]) := by
  refine calls_run K.laws_toHeap rfl ?_
  simp (disch := omega) only [C.laws_toHeap, splice, ↓SXd, SXu, slBounds, ↓sop, ↓aop, ↓reduceIte, LV.cells, AOp.dst, LV.I, LV.B, LV.U, LV.S, LV.nil, Nat.reduceEqDiff, Nat.reduceAdd, Nat.reduceMul, Nat.reduceSub, Nat.reduceLeDiff, Nat.reduceBEq, Nat.reduceDiv, Nat.reduceMod, Int.reduceToNat, Int.reduceLT, Int.reduceLE, Int.reduceAdd, Int.reduceSub, Int.reduceMul, Int.reduceEq, Int.reduceNeg, reduceCtorEq, resV, resAll, ARes.ev, LV.flat, ite_true, ite_false, exists_eq_left', exists_eq_left, keyOf, implies_true, fillC, capOf]
  refine callK_of (h_toIntA3S h.app hn) ?_
  simp (disch := omega) only [splice, ↓SXd, SXu, slBounds, ↓sop, ↓aop, ↓reduceIte, LV.cells, AOp.dst, LV.I, LV.B, LV.U, LV.S, LV.nil, Nat.reduceEqDiff, Nat.reduceAdd, Nat.reduceMul, Nat.reduceSub, Nat.reduceLeDiff, Nat.reduceBEq, Nat.reduceDiv, Nat.reduceMod, Int.reduceToNat, Int.reduceLT, Int.reduceLE, Int.reduceAdd, Int.reduceSub, Int.reduceMul, Int.reduceEq, Int.reduceNeg, reduceCtorEq, resV, resAll, ARes.ev, LV.flat, ite_true, ite_false, exists_eq_left', exists_eq_left, keyOf, implies_true, fillC, capOf]
  exact cmp_keep1 (j := 3) rfl (triL_lo cs) (by simp [rn, rn0, rn1, keepR_n, keepR_lt h.lt])

theorem h_eqHeap {x y z x' y' z' : Int} {t o t' o' : Nat} {cs ds : List Cell} {M : Mem} (h : Tri M t o cs) (h' : Tri M t' o' ds) (hn : cs.length ≤ 1000000000) (hn' : ds.length ≤ 1000000000) :
    CallsTo PG F.laws_eqHeap [.agg [.I x, .I y, .I z, .ref t o cs.length], .agg [.I x', .I y', .I z', .ref t' o' ds.length]] M (.B (decide (x = x' ∧ y = y' ∧ z = z' ∧ cs = ds))) M := by
  refine calls_run K.laws_eqHeap rfl ?_
  simp (disch := omega) only [C.laws_eqHeap, ↓SXd, SXu, slBounds, ↓sop, ↓aop, ↓reduceIte, LV.cells, AOp.dst, LV.I, LV.B, LV.U, LV.S, LV.nil, Nat.reduceEqDiff, Nat.reduceAdd, Nat.reduceMul, Nat.reduceSub, Nat.reduceLeDiff, Nat.reduceBEq, Nat.reduceDiv, Nat.reduceMod, Int.reduceToNat, Int.reduceLT, Int.reduceLE, Int.reduceAdd, Int.reduceSub, Int.reduceMul, Int.reduceEq, Int.reduceNeg, reduceCtorEq, resV, resAll, ARes.ev, LV.flat, ite_true, ite_false, exists_eq_left', exists_eq_left, keyOf, implies_true, fillC, capOf]
  refine condC_dec (fun h1 => ?_) (fun h1 => ?_) <;> simp (disch := omega) only [↓SXd, SXu, slBounds, ↓sop, ↓aop, ↓reduceIte, LV.cells, AOp.dst, LV.I, LV.B, LV.U, LV.S, LV.nil, Nat.reduceEqDiff, Nat.reduceAdd, Nat.reduceMul, Nat.reduceSub, Nat.reduceLeDiff, Nat.reduceBEq, Nat.reduceDiv, Nat.reduceMod, Int.reduceToNat, Int.reduceLT, Int.reduceLE, Int.reduceAdd, Int.reduceSub, Int.reduceMul, Int.reduceEq, Int.reduceNeg, reduceCtorEq, resV, resAll, ARes.ev, LV.flat, ite_true, ite_false, exists_eq_left', exists_eq_left, keyOf, implies_true, fillC, capOf]
  · refine condC_dec (fun h2 => ?_) (fun h2 => ?_) <;> simp (disch := omega) only [↓SXd, SXu, slBounds, ↓sop, ↓aop, ↓reduceIte, LV.cells, AOp.dst, LV.I, LV.B, LV.U, LV.S, LV.nil, Nat.reduceEqDiff, Nat.reduceAdd, Nat.reduceMul, Nat.reduceSub, Nat.reduceLeDiff, Nat.reduceBEq, Nat.reduceDiv, Nat.reduceMod, Int.reduceToNat, Int.reduceLT, Int.reduceLE, Int.reduceAdd, Int.reduceSub, Int.reduceMul, Int.reduceEq, Int.reduceNeg, reduceCtorEq, resV, resAll, ARes.ev, LV.flat, ite_true, ite_false, exists_eq_left', exists_eq_left, keyOf, implies_true, fillC, capOf]
    · refine condC_dec (fun h3 => ?_) (fun h3 => ?_) <;> simp (disch := omega) only [↓SXd, SXu, slBounds, ↓sop, ↓aop, ↓reduceIte, LV.cells, AOp.dst, LV.I, LV.B, LV.U, LV.S, LV.nil, Nat.reduceEqDiff, Nat.reduceAdd, Nat.reduceMul, Nat.reduceSub, Nat.reduceLeDiff, Nat.reduceBEq, Nat.reduceDiv, Nat.reduceMod, Int.reduceToNat, Int.reduceLT, Int.reduceLE, Int.reduceAdd, Int.reduceSub, Int.reduceMul, Int.reduceEq, Int.reduceNeg, reduceCtorEq, resV, resAll, ARes.ev, LV.flat, ite_true, ite_false, exists_eq_left', exists_eq_left, keyOf, implies_true, fillC, capOf]
      · refine callK_of (h_eqIntA3S h.app h'.app hn hn') ?_
        simp (disch := omega) only [↓SXd, SXu, slBounds, ↓sop, ↓aop, ↓reduceIte, LV.cells, AOp.dst, LV.I, LV.B, LV.U, LV.S, LV.nil, Nat.reduceEqDiff, Nat.reduceAdd, Nat.reduceMul, Nat.reduceSub, Nat.reduceLeDiff, Nat.reduceBEq, Nat.reduceDiv, Nat.reduceMod, Int.reduceToNat, Int.reduceLT, Int.reduceLE, Int.reduceAdd, Int.reduceSub, Int.reduceMul, Int.reduceEq, Int.reduceNeg, reduceCtorEq, resV, resAll, ARes.ev, LV.flat, ite_true, ite_false, exists_eq_left', exists_eq_left, keyOf, implies_true, fillC, capOf]
        refine condC_dec (fun h4 => ?_) (fun h4 => ?_) <;> simp (disch := omega) only [↓SXd, SXu, slBounds, ↓sop, ↓aop, ↓reduceIte, LV.cells, AOp.dst, LV.I, LV.B, LV.U, LV.S, LV.nil, Nat.reduceEqDiff, Nat.reduceAdd, Nat.reduceMul, Nat.reduceSub, Nat.reduceLeDiff, Nat.reduceBEq, Nat.reduceDiv, Nat.reduceMod, Int.reduceToNat, Int.reduceLT, Int.reduceLE, Int.reduceAdd, Int.reduceSub, Int.reduceMul, Int.reduceEq, Int.reduceNeg, reduceCtorEq, resV, resAll, ARes.ev, LV.flat, ite_true, ite_false, exists_eq_left', exists_eq_left, keyOf, implies_true, fillC, capOf]
        · rw [decide_eq_true ⟨h1, h2, h3, h4⟩]; exact cmp_drop rfl
        · rw [decide_eq_false (fun e => h4 e.2.2.2)]; exact cmp_drop rfl
      · rw [decide_eq_false (fun e => h3 e.2.2.1)]; exact cmp_drop rfl
    · rw [decide_eq_false (fun e => h2 e.2.1)]; exact cmp_drop rfl
  · rw [decide_eq_false (fun e => h1 e.1)]; exact cmp_drop rfl
end Go.Ab

/- Contracts: the laws' helpers on lists of cells, and on heaps. -/
namespace Go.Ab
open Go
set_option linter.unusedSimpArgs false
set_option linter.unusedVariables false

/-- A list of cells that may be read. -/
def CellsV (N : Mem) (v : LV) (l : List Cell) : Prop := (v = .nil ∧ l = []) ∨ ∃ t o, v = .ref t o l.length ∧ Tri N t o l
/-- A list of cells that is one's own. -/
def SlC (N : Mem) (v : LV) (l : List Cell) : Prop := (v = .nil ∧ l = []) ∨ ∃ t ex, v = .ref t 0 l.length ∧ Live N t (.row (triL (l ++ ex)) true 3)
theorem SlC.v {N : Mem} {v : LV} {l : List Cell} (h : SlC N v l) : CellsV N v l := by
  rcases h with h | ⟨t, ex, h1, h2⟩
  · exact .inl h
  · rw [triL_append] at h2; exact .inr ⟨t, 0, h1, h2.hasL⟩
theorem CellsV.pre {M N : Mem} {v : LV} {l : List Cell} (h : CellsV M v l) (hp : Pre M N) : CellsV N v l := by
  rcases h with h | ⟨t, o, h1, h2⟩
  · exact .inl h
  · exact .inr ⟨t, o, h1, h2.pre hp⟩
theorem SlC.pre {M N : Mem} {v : LV} {l : List Cell} (h : SlC M v l) (hp : Pre M N) : SlC N v l := by
  rcases h with h | ⟨t, ex, h1, h2⟩
  · exact .inl h
  · exact .inr ⟨t, ex, h1, h2.pre hp⟩
theorem SlC.nil {N : Mem} : SlC N .nil [] := .inl ⟨rfl, rfl⟩
theorem CellsV.nil {N : Mem} : CellsV N .nil [] := .inl ⟨rfl, rfl⟩
theorem SlC.of {N : Mem} {t : Nat} {l : List Cell} (h : Live N t (.row (triL l) true 3)) : SlC N (.ref t 0 l.length) l := .inr ⟨t, [], rfl, by simpa using h⟩
theorem CellsV.of {N : Mem} {t o : Nat} {l : List Cell} (h : Tri N t o l) : CellsV N (.ref t o l.length) l := .inr ⟨t, o, rfl, h⟩

def marks3 (k : Int) (n : Nat) : List Cell := (List.range n).map fun (i : Nat) => ⟨k + 3 * (i : Int), k + 3 * (i : Int) + 1, k + 3 * (i : Int) + 2⟩
theorem marks3_len (k : Int) (n : Nat) : (marks3 k n).length = n := by simp [marks3]
theorem h_eqIntA3S_n {l' : List Cell} {v' : LV} {M : Mem} (h' : CellsV M v' l') (hn' : l'.length ≤ 1000000000) : CallsTo PG F.laws_eqIntA3S [.nil, v'] M (.B (decide ([] = l'))) M := by
  refine calls_run K.laws_eqIntA3S rfl ?_
  have hlen : lenV v' = some (l'.length : Int) := by
    rcases h' with ⟨rfl, rfl⟩ | ⟨t, o, rfl, _⟩ <;> rfl
  simp (disch := omega) only [C.laws_eqIntA3S, hlen, ↓SXd, SXu, slBounds, ↓sop, ↓aop, ↓reduceIte, LV.cells, AOp.dst, LV.I, LV.B, LV.U, LV.S, LV.nil, Nat.reduceEqDiff, Nat.reduceAdd, Nat.reduceMul, Nat.reduceSub, Nat.reduceLeDiff, Nat.reduceBEq, Nat.reduceDiv, Nat.reduceMod, Int.reduceToNat, Int.reduceLT, Int.reduceLE, Int.reduceAdd, Int.reduceSub, Int.reduceMul, Int.reduceEq, Int.reduceNeg, reduceCtorEq, resV, resAll, ARes.ev, LV.flat, ite_true, ite_false, exists_eq_left', exists_eq_left, keyOf, implies_true, fillC, capOf]
  refine condC_dec (fun hl => ?_) (fun hl => ?_)
  rotate_left
  · rw [show decide ([] = l') = false from decide_eq_false (fun e => by subst e; exact (hl rfl).elim)]
    simp (disch := omega) only [↓SXd, SXu, slBounds, ↓sop, ↓aop, ↓reduceIte, LV.cells, AOp.dst, LV.I, LV.B, LV.U, LV.S, LV.nil, Nat.reduceEqDiff, Nat.reduceAdd, Nat.reduceMul, Nat.reduceSub, Nat.reduceLeDiff, Nat.reduceBEq, Nat.reduceDiv, Nat.reduceMod, Int.reduceToNat, Int.reduceLT, Int.reduceLE, Int.reduceAdd, Int.reduceSub, Int.reduceMul, Int.reduceEq, Int.reduceNeg, reduceCtorEq, resV, resAll, ARes.ev, LV.flat, ite_true, ite_false, exists_eq_left', exists_eq_left, keyOf, implies_true, fillC, capOf]
    exact cmp_drop0 rfl
  · simp (disch := omega) only [↓SXd, SXu, slBounds, ↓sop, ↓aop, ↓reduceIte, LV.cells, AOp.dst, LV.I, LV.B, LV.U, LV.S, LV.nil, Nat.reduceEqDiff, Nat.reduceAdd, Nat.reduceMul, Nat.reduceSub, Nat.reduceLeDiff, Nat.reduceBEq, Nat.reduceDiv, Nat.reduceMod, Int.reduceToNat, Int.reduceLT, Int.reduceLE, Int.reduceAdd, Int.reduceSub, Int.reduceMul, Int.reduceEq, Int.reduceNeg, reduceCtorEq, resV, resAll, ARes.ev, LV.flat, ite_true, ite_false, exists_eq_left', exists_eq_left, keyOf, implies_true, fillC, capOf]
    refine ev_loop (fun m fr M' => M' = M ∧ fr 0 = .nil ∧ fr 5 = .I 0) 0 ⟨rfl, rfl, rfl⟩ ?_
    rintro m fr M' ⟨rfl, h0, h5⟩
    simp (disch := omega) only [h0, h5, ↓SXd, SXu, slBounds, ↓sop, ↓aop, ↓reduceIte, LV.cells, AOp.dst, LV.I, LV.B, LV.U, LV.S, LV.nil, Nat.reduceEqDiff, Nat.reduceAdd, Nat.reduceMul, Nat.reduceSub, Nat.reduceLeDiff, Nat.reduceBEq, Nat.reduceDiv, Nat.reduceMod, Int.reduceToNat, Int.reduceLT, Int.reduceLE, Int.reduceAdd, Int.reduceSub, Int.reduceMul, Int.reduceEq, Int.reduceNeg, reduceCtorEq, resV, resAll, ARes.ev, LV.flat, ite_true, ite_false, exists_eq_left', exists_eq_left, keyOf, implies_true, fillC, capOf]
    rw [decide_eq_true (List.eq_nil_of_length_eq_zero (by simpa using hl.symm)).symm]
    exact cmp_drop0 rfl

theorem h_eqIntA3S_rn {l : List Cell} {t o : Nat} {M : Mem} (h : Tri M t o l) (hn : l.length ≤ 1000000000) : CallsTo PG F.laws_eqIntA3S [.ref t o l.length, .nil] M (.B (decide (l = []))) M := by
  refine calls_run K.laws_eqIntA3S rfl ?_
  simp (disch := omega) only [C.laws_eqIntA3S, ↓SXd, SXu, slBounds, ↓sop, ↓aop, ↓reduceIte, LV.cells, AOp.dst, LV.I, LV.B, LV.U, LV.S, LV.nil, Nat.reduceEqDiff, Nat.reduceAdd, Nat.reduceMul, Nat.reduceSub, Nat.reduceLeDiff, Nat.reduceBEq, Nat.reduceDiv, Nat.reduceMod, Int.reduceToNat, Int.reduceLT, Int.reduceLE, Int.reduceAdd, Int.reduceSub, Int.reduceMul, Int.reduceEq, Int.reduceNeg, reduceCtorEq, resV, resAll, ARes.ev, LV.flat, ite_true, ite_false, exists_eq_left', exists_eq_left, keyOf, implies_true, fillC, capOf]
  refine condC_dec (fun hl => ?_) (fun hl => ?_)
  rotate_left
  · rw [show decide (l = []) = false from decide_eq_false (fun e => by subst e; exact (hl rfl).elim)]
    simp (disch := omega) only [↓SXd, SXu, slBounds, ↓sop, ↓aop, ↓reduceIte, LV.cells, AOp.dst, LV.I, LV.B, LV.U, LV.S, LV.nil, Nat.reduceEqDiff, Nat.reduceAdd, Nat.reduceMul, Nat.reduceSub, Nat.reduceLeDiff, Nat.reduceBEq, Nat.reduceDiv, Nat.reduceMod, Int.reduceToNat, Int.reduceLT, Int.reduceLE, Int.reduceAdd, Int.reduceSub, Int.reduceMul, Int.reduceEq, Int.reduceNeg, reduceCtorEq, resV, resAll, ARes.ev, LV.flat, ite_true, ite_false, exists_eq_left', exists_eq_left, keyOf, implies_true, fillC, capOf]
    exact cmp_drop0 rfl
  · simp (disch := omega) only [↓SXd, SXu, slBounds, ↓sop, ↓aop, ↓reduceIte, LV.cells, AOp.dst, LV.I, LV.B, LV.U, LV.S, LV.nil, Nat.reduceEqDiff, Nat.reduceAdd, Nat.reduceMul, Nat.reduceSub, Nat.reduceLeDiff, Nat.reduceBEq, Nat.reduceDiv, Nat.reduceMod, Int.reduceToNat, Int.reduceLT, Int.reduceLE, Int.reduceAdd, Int.reduceSub, Int.reduceMul, Int.reduceEq, Int.reduceNeg, reduceCtorEq, resV, resAll, ARes.ev, LV.flat, ite_true, ite_false, exists_eq_left', exists_eq_left, keyOf, implies_true, fillC, capOf]
    have hz : l.length = 0 := by omega
    refine ev_loop (fun m fr M' => M' = M ∧ fr 0 = .ref t o l.length ∧ fr 5 = .I 0) 0 ⟨rfl, rfl, rfl⟩ ?_
    rintro m fr M' ⟨rfl, h0, h5⟩
    simp (disch := omega) only [h0, h5, hz, ↓SXd, SXu, slBounds, ↓sop, ↓aop, ↓reduceIte, LV.cells, AOp.dst, LV.I, LV.B, LV.U, LV.S, LV.nil, Nat.reduceEqDiff, Nat.reduceAdd, Nat.reduceMul, Nat.reduceSub, Nat.reduceLeDiff, Nat.reduceBEq, Nat.reduceDiv, Nat.reduceMod, Int.reduceToNat, Int.reduceLT, Int.reduceLE, Int.reduceAdd, Int.reduceSub, Int.reduceMul, Int.reduceEq, Int.reduceNeg, reduceCtorEq, resV, resAll, ARes.ev, LV.flat, ite_true, ite_false, exists_eq_left', exists_eq_left, keyOf, implies_true, fillC, capOf]
    rw [decide_eq_true (List.eq_nil_of_length_eq_zero hz)]
    exact cmp_drop0 rfl

theorem h_eqCells {l l' : List Cell} {v v' : LV} {M : Mem} (h : CellsV M v l) (h' : CellsV M v' l') (hn : l.length ≤ 1000000000) (hn' : l'.length ≤ 1000000000) :
    CallsTo PG F.laws_eqIntA3S [v, v'] M (.B (decide (l = l'))) M := by
  rcases h with ⟨rfl, rfl⟩ | ⟨t, o, rfl, h⟩
  · exact h_eqIntA3S_n h' hn'
  · rcases h' with ⟨rfl, rfl⟩ | ⟨t', o', rfl, h'⟩
    · exact h_eqIntA3S_rn h hn
    · exact h_eqIntA3S h h' hn hn'

theorem marks3_step {k : Int} {l : List Cell} {i : Nat} (h : i < l.length) : (marks3 k i ++ l.drop i).set i ⟨k + 3 * i, k + 3 * i + 1, k + 3 * i + 2⟩ = marks3 k (i + 1) ++ l.drop (i + 1) := by
  rw [List.set_append_right _ _ (by rw [marks3_len]; omega), marks3_len, Nat.sub_self, List.drop_eq_getElem_cons h, List.set_cons_zero]
  simp [marks3, List.range_succ, List.append_assoc]

/-- What a marking leaves. -/
def Marked3 (M : Mem) (v : LV) (k : Int) (n : Nat) (r : LV) (N : Mem) : Prop := r = .I (k + 3 * n) ∧ SlC N v (marks3 k n) ∧ N.length = M.length ∧ ∀ u, Off v u → N[u]? = M[u]?

def cellSet (c : Cell) (j : Nat) (v : Int) : Cell := match j with | 0 => ⟨v, c.b, c.c⟩ | 1 => ⟨c.a, v, c.c⟩ | _ => ⟨c.a, c.b, v⟩
theorem triL_set1 (cs : List Cell) : ∀ (k j : Nat) (v : Int), k < cs.length → j < 3 → splice (triL cs) (k * 3 + j) [LV.val (.int .i64 v)] = triL (cs.set k (cellSet (cs.getD k default) j v)) := by
  induction cs with
  | nil => intro k j v h; simp at h
  | cons c cs ih =>
    intro k j v h hj
    rw [splice_1 (by rw [triL_len]; simp only [List.length_cons] at h ⊢; omega)]
    cases k with
    | zero =>
      match j, hj with
      | 0, _ => rfl
      | 1, _ => rfl
      | 2, _ => rfl
    | succ k =>
      have h2 := ih k j v (by simpa using h) hj
      rw [splice_1 (by rw [triL_len]; simp only [List.length_cons] at h; omega)] at h2
      have e : (k + 1) * 3 + j = (k * 3 + j) + 3 := by omega
      rw [e]
      show c.row ++ (triL cs).set (k * 3 + j) (LV.val (.int .i64 v)) = c.row ++ triL (cs.set k (cellSet (cs.getD k default) j v))
      rw [h2]

theorem memK_cell {M : Mem} {t k j : Nat} {cs : List Cell} {v : Int} {A : Mem → Prop} (ht : Live M t (.row (triL cs) true 3)) (hk : k < cs.length) (hj : j < 3)
    (hA : ∀ M', M'.length = M.length → Live M' t (.row (triL (cs.set k (cellSet (cs.getD k default) j v))) true 3) → (∀ u, u ≠ t → u < M.length → M'[u]? = M[u]?) → A M') :
    memK (setCells M t (k * 3 + j) [.val (.int .i64 v)]) A := by
  rw [ht.setC, if_pos (by rw [triL_len]; simp; omega), triL_set1 _ _ _ _ hk hj]
  exact hA _ (by simp) ht.set_eq fun u hu _ => List.getElem?_set_ne (fun e => hu e.symm)

theorem h_markIntA3S {v : LV} {l : List Cell} {k : Int} {M : Mem} (h : SlC M v l) (hn : l.length ≤ 1000000000) (hk : 0 ≤ k ∧ k ≤ 1000000000) :
    CallsR PG F.laws_markIntA3S [v, .I k] M (Marked3 M v k l.length) := by
  refine callsR_run K.laws_markIntA3S rfl ?_
  rcases h with ⟨rfl, rfl⟩ | ⟨t, ex, rfl, h⟩
  · simp (disch := omega) only [C.laws_markIntA3S, ↓SXd, SXu, slBounds, ↓sop, ↓aop, ↓reduceIte, LV.cells, AOp.dst, LV.I, LV.B, LV.U, LV.S, LV.nil, Nat.reduceEqDiff, Nat.reduceAdd, Nat.reduceMul, Nat.reduceSub, Nat.reduceLeDiff, Nat.reduceBEq, Nat.reduceDiv, Nat.reduceMod, Int.reduceToNat, Int.reduceLT, Int.reduceLE, Int.reduceAdd, Int.reduceSub, Int.reduceMul, Int.reduceEq, Int.reduceNeg, reduceCtorEq, resV, resAll, ARes.ev, LV.flat, ite_true, ite_false, exists_eq_left', exists_eq_left, keyOf, implies_true, fillC, capOf]
    refine ev_loop (fun m fr M' => M' = M ∧ fr 0 = .nil ∧ fr 1 = .I k ∧ fr 5 = .I 0) 0 ⟨rfl, rfl, rfl, rfl⟩ ?_
    rintro m fr M' ⟨rfl, h0, h1, h5⟩
    simp (disch := omega) only [h0, h1, h5, ↓SXd, SXu, slBounds, ↓sop, ↓aop, ↓reduceIte, LV.cells, AOp.dst, LV.I, LV.B, LV.U, LV.S, LV.nil, Nat.reduceEqDiff, Nat.reduceAdd, Nat.reduceMul, Nat.reduceSub, Nat.reduceLeDiff, Nat.reduceBEq, Nat.reduceDiv, Nat.reduceMod, Int.reduceToNat, Int.reduceLT, Int.reduceLE, Int.reduceAdd, Int.reduceSub, Int.reduceMul, Int.reduceEq, Int.reduceNeg, reduceCtorEq, resV, resAll, ARes.ev, LV.flat, ite_true, ite_false, exists_eq_left', exists_eq_left, keyOf, implies_true, fillC, capOf]
    exact ⟨eqI (by simp), (SlC.nil (N := M') : SlC M' LV.nil []), rfl, fun _ _ => rfl⟩
  · simp (disch := omega) only [C.laws_markIntA3S, ↓SXd, SXu, slBounds, ↓sop, ↓aop, ↓reduceIte, LV.cells, AOp.dst, LV.I, LV.B, LV.U, LV.S, LV.nil, Nat.reduceEqDiff, Nat.reduceAdd, Nat.reduceMul, Nat.reduceSub, Nat.reduceLeDiff, Nat.reduceBEq, Nat.reduceDiv, Nat.reduceMod, Int.reduceToNat, Int.reduceLT, Int.reduceLE, Int.reduceAdd, Int.reduceSub, Int.reduceMul, Int.reduceEq, Int.reduceNeg, reduceCtorEq, resV, resAll, ARes.ev, LV.flat, ite_true, ite_false, exists_eq_left', exists_eq_left, keyOf, implies_true, fillC, capOf]
    refine ev_loop (fun m fr M' => ∃ i : Nat, i + m = l.length ∧ M'.length = M.length ∧ Live M' t (.row (triL (marks3 k i ++ (l ++ ex).drop i)) true 3) ∧ (∀ u, u ≠ t → M'[u]? = M[u]?) ∧ fr 0 = .ref t 0 l.length ∧ fr 1 = .I (k + 3 * i) ∧ fr 5 = .I i) l.length
      ⟨0, by omega, rfl, by simpa [marks3] using h, fun _ _ => rfl, rfl, eqI (by omega), rfl⟩ ?_
    rintro m fr M' ⟨i, hi, hlen, hlive, hoff, h0, h1, h5⟩
    simp (disch := omega) only [h0, h1, h5, ↓SXd, SXu, slBounds, ↓sop, ↓aop, ↓reduceIte, LV.cells, AOp.dst, LV.I, LV.B, LV.U, LV.S, LV.nil, Nat.reduceEqDiff, Nat.reduceAdd, Nat.reduceMul, Nat.reduceSub, Nat.reduceLeDiff, Nat.reduceBEq, Nat.reduceDiv, Nat.reduceMod, Int.reduceToNat, Int.reduceLT, Int.reduceLE, Int.reduceAdd, Int.reduceSub, Int.reduceMul, Int.reduceEq, Int.reduceNeg, reduceCtorEq, resV, resAll, ARes.ev, LV.flat, ite_true, ite_false, exists_eq_left', exists_eq_left, keyOf, implies_true, fillC, capOf]
    refine condC_dec (fun hlt => ?_) (fun hlt => ?_)
    · simp (disch := omega) only [h0, h1, h5, ↓SXd, SXu, slBounds, ↓sop, ↓aop, ↓reduceIte, LV.cells, AOp.dst, LV.I, LV.B, LV.U, LV.S, LV.nil, Nat.reduceEqDiff, Nat.reduceAdd, Nat.reduceMul, Nat.reduceSub, Nat.reduceLeDiff, Nat.reduceBEq, Nat.reduceDiv, Nat.reduceMod, Int.reduceToNat, Int.reduceLT, Int.reduceLE, Int.reduceAdd, Int.reduceSub, Int.reduceMul, Int.reduceEq, Int.reduceNeg, reduceCtorEq, resV, resAll, ARes.ev, LV.flat, ite_true, ite_false, exists_eq_left', exists_eq_left, keyOf, implies_true, fillC, capOf]
      generalize hds : marks3 k i ++ (l ++ ex).drop i = ds at hlive
      have hdl : i < ds.length := by rw [← hds]; simp [marks3_len]; omega
      refine ev_loop (fun m2 fr N => ∃ j : Nat, j + m2 = 3 ∧ N.length = M.length ∧ Live N t (.row (triL (ds.set i ⟨if 0 < j then k + 3 * i else (ds.getD i default).a, if 1 < j then k + 3 * i + 1 else (ds.getD i default).b, if 2 < j then k + 3 * i + 2 else (ds.getD i default).c⟩)) true 3) ∧ (∀ u, u ≠ t → N[u]? = M[u]?) ∧
        fr 0 = .ref t 0 l.length ∧ fr 1 = .I (k + 3 * i + j) ∧ fr 5 = .I i ∧ fr 6 = .I j) 3
        ⟨0, rfl, hlen, by
          simp only [Nat.lt_irrefl, Nat.not_lt_zero, if_false]
          rw [show (ds.set i ⟨(ds.getD i default).a, (ds.getD i default).b, (ds.getD i default).c⟩) = ds from by
            rw [cell_eta]; simp [hdl]]
          exact hlive, hoff, h0, h1.trans (eqI (by omega)), h5, rfl⟩ ?_
      rintro m2 fr N ⟨j, hj, hlen, hlive, hoff, h0, h1, h5, h6⟩
      simp (disch := omega) only [h0, h1, h5, h6, ↓SXd, SXu, slBounds, ↓sop, ↓aop, ↓reduceIte, LV.cells, AOp.dst, LV.I, LV.B, LV.U, LV.S, LV.nil, Nat.reduceEqDiff, Nat.reduceAdd, Nat.reduceMul, Nat.reduceSub, Nat.reduceLeDiff, Nat.reduceBEq, Nat.reduceDiv, Nat.reduceMod, Int.reduceToNat, Int.reduceLT, Int.reduceLE, Int.reduceAdd, Int.reduceSub, Int.reduceMul, Int.reduceEq, Int.reduceNeg, reduceCtorEq, resV, resAll, ARes.ev, LV.flat, ite_true, ite_false, exists_eq_left', exists_eq_left, keyOf, implies_true, fillC, capOf]
      refine condC_dec (fun hlt2 => ?_) (fun hlt2 => ?_)
      · simp (disch := omega) only [h0, h1, h5, h6, ↓SXd, SXu, slBounds, ↓sop, ↓aop, ↓reduceIte, LV.cells, AOp.dst, LV.I, LV.B, LV.U, LV.S, LV.nil, Nat.reduceEqDiff, Nat.reduceAdd, Nat.reduceMul, Nat.reduceSub, Nat.reduceLeDiff, Nat.reduceBEq, Nat.reduceDiv, Nat.reduceMod, Int.reduceToNat, Int.reduceLT, Int.reduceLE, Int.reduceAdd, Int.reduceSub, Int.reduceMul, Int.reduceEq, Int.reduceNeg, reduceCtorEq, resV, resAll, ARes.ev, LV.flat, ite_true, ite_false, exists_eq_left', exists_eq_left, keyOf, implies_true, fillC, capOf]
        refine memK_cell hlive (by simpa using hdl) (by omega) fun N' l1 l2 l3 => ?_
        simp (disch := omega) only [h0, h1, h5, h6, ↓SXd, SXu, slBounds, ↓sop, ↓aop, ↓reduceIte, LV.cells, AOp.dst, LV.I, LV.B, LV.U, LV.S, LV.nil, Nat.reduceEqDiff, Nat.reduceAdd, Nat.reduceMul, Nat.reduceSub, Nat.reduceLeDiff, Nat.reduceBEq, Nat.reduceDiv, Nat.reduceMod, Int.reduceToNat, Int.reduceLT, Int.reduceLE, Int.reduceAdd, Int.reduceSub, Int.reduceMul, Int.reduceEq, Int.reduceNeg, reduceCtorEq, resV, resAll, ARes.ev, LV.flat, ite_true, ite_false, exists_eq_left', exists_eq_left, keyOf, implies_true, fillC, capOf]
        refine ⟨m2 - 1, by omega, j + 1, by omega, by omega, ?_, fun u hu => by
          rcases Nat.lt_or_ge u N.length with h2 | h2
          · rw [l3 u hu h2]; exact hoff u hu
          · rw [List.getElem?_eq_none (by omega), List.getElem?_eq_none (by omega)], h0, eqI (by omega), h5, eqI (natI _)⟩
        rw [List.set_set, getD_set, if_pos ⟨rfl, hdl⟩] at l2
        have hj3 : j = 0 ∨ j = 1 ∨ j = 2 := by omega
        rcases hj3 with rfl | rfl | rfl
        · simpa [cellSet] using l2
        · simpa [cellSet] using l2
        · simpa [cellSet] using l2
      · simp (disch := omega) only [h0, h1, h5, h6, ↓SXd, SXu, slBounds, ↓sop, ↓aop, ↓reduceIte, LV.cells, AOp.dst, LV.I, LV.B, LV.U, LV.S, LV.nil, Nat.reduceEqDiff, Nat.reduceAdd, Nat.reduceMul, Nat.reduceSub, Nat.reduceLeDiff, Nat.reduceBEq, Nat.reduceDiv, Nat.reduceMod, Int.reduceToNat, Int.reduceLT, Int.reduceLE, Int.reduceAdd, Int.reduceSub, Int.reduceMul, Int.reduceEq, Int.reduceNeg, reduceCtorEq, resV, resAll, ARes.ev, LV.flat, ite_true, ite_false, exists_eq_left', exists_eq_left, keyOf, implies_true, fillC, capOf]
        have : j = 3 := by omega
        subst this
        refine ⟨m - 1, by omega, i + 1, by omega, hlen, ?_, hoff, h0, h1.trans (eqI (by omega)), eqI (natI _)⟩
        rw [← hds] at hlive
        simp only [show (0 < 3) = True by simp, show (1 < 3) = True by simp, show (2 < 3) = True by simp, if_true] at hlive
        rw [marks3_step (by simp; omega)] at hlive
        exact hlive
    · simp (disch := omega) only [h0, h1, h5, ↓SXd, SXu, slBounds, ↓sop, ↓aop, ↓reduceIte, LV.cells, AOp.dst, LV.I, LV.B, LV.U, LV.S, LV.nil, Nat.reduceEqDiff, Nat.reduceAdd, Nat.reduceMul, Nat.reduceSub, Nat.reduceLeDiff, Nat.reduceBEq, Nat.reduceDiv, Nat.reduceMod, Int.reduceToNat, Int.reduceLT, Int.reduceLE, Int.reduceAdd, Int.reduceSub, Int.reduceMul, Int.reduceEq, Int.reduceNeg, reduceCtorEq, resV, resAll, ARes.ev, LV.flat, ite_true, ite_false, exists_eq_left', exists_eq_left, keyOf, implies_true, fillC, capOf]
      have : i = l.length := by omega
      subst this
      refine ⟨rfl, .inr ⟨t, ex, by rw [marks3_len], ?_⟩, hlen, fun u hu => hoff u hu⟩
      have e : (l ++ ex).drop l.length = ex := by simp
      rw [e] at hlive; exact hlive

theorem h_markHeap {x y z : Int} {v : LV} {l : List Cell} {k : Int} {M : Mem} (h : SlC M v l) (hn : l.length ≤ 1000000000) (hk : 0 ≤ k ∧ k ≤ 1000000000) :
    CallsR PG F.laws_markHeap [.agg [.I x, .I y, .I z, v], .I k] M fun r N => r = .I (k + 3 * l.length) ∧ SlC N v (marks3 k l.length) ∧ M.length ≤ N.length ∧ ∀ u, u < M.length → Off v u → N[u]? = M[u]? := by
  refine callsR_run K.laws_markHeap rfl ?_
  simp (disch := omega) only [C.laws_markHeap, ↓SXd, SXu, slBounds, ↓sop, ↓aop, ↓reduceIte, LV.cells, AOp.dst, LV.I, LV.B, LV.U, LV.S, LV.nil, Nat.reduceEqDiff, Nat.reduceAdd, Nat.reduceMul, Nat.reduceSub, Nat.reduceLeDiff, Nat.reduceBEq, Nat.reduceDiv, Nat.reduceMod, Int.reduceToNat, Int.reduceLT, Int.reduceLE, Int.reduceAdd, Int.reduceSub, Int.reduceMul, Int.reduceEq, Int.reduceNeg, reduceCtorEq, resV, resAll, ARes.ev, LV.flat, ite_true, ite_false, exists_eq_left', exists_eq_left, keyOf, implies_true, fillC, capOf]
  refine callR_of (h_markIntA3S (h.pre (Pre.app _ _)) hn hk) ?_
  rintro _ _ ⟨rfl, h1, h2, h3⟩
  simp (disch := omega) only [↓SXd, SXu, slBounds, ↓sop, ↓aop, ↓reduceIte, LV.cells, AOp.dst, LV.I, LV.B, LV.U, LV.S, LV.nil, Nat.reduceEqDiff, Nat.reduceAdd, Nat.reduceMul, Nat.reduceSub, Nat.reduceLeDiff, Nat.reduceBEq, Nat.reduceDiv, Nat.reduceMod, Int.reduceToNat, Int.reduceLT, Int.reduceLE, Int.reduceAdd, Int.reduceSub, Int.reduceMul, Int.reduceEq, Int.reduceNeg, reduceCtorEq, resV, resAll, ARes.ev, LV.flat, ite_true, ite_false, exists_eq_left', exists_eq_left, keyOf, implies_true, fillC, capOf]
  exact ⟨rfl, h1, by rw [h2]; simp, fun u hu ho => by rw [h3 u ho]; exact List.getElem?_append_left hu⟩
end Go.Ab

/- Memories of which one slice's block may have changed; what laws are told of results. -/
namespace Go.Ab
open Go
set_option linter.unusedSimpArgs false
set_option linter.unusedVariables false

/-- What M holds, N holds, but for the block of v. -/
def PreV (v : LV) (M N : Mem) : Prop := M.length ≤ N.length ∧ ∀ u, u < M.length → Off v u → N[u]? = M[u]?
/-- The slices v and w have not the same block. -/
def Apart (v w : LV) : Prop := ∀ t o n, w = .ref t o n → Off v t
theorem PreV.has {v : LV} {M N : Mem} {t o : Nat} {vs : List LV} (hp : PreV v M N) (h : Has M t o vs) (ho : Off v t) : Has N t o vs := by
  obtain ⟨row, h1, h2⟩ := h
  refine ⟨row, ?_, h2⟩
  unfold getRow at *
  rw [hp.2 t (row_lt (M := M) (by unfold getRow; exact h1)) ho]; exact h1
theorem Marked.pre {M N : Mem} {v r : LV} {k : Int} {n : Nat} (h : Marked M v k n r N) : PreV v M N := ⟨by rw [h.2.2.1]; exact Nat.le_refl _, fun u _ ho => h.2.2.2 u ho⟩
theorem Marked3.pre {M N : Mem} {v r : LV} {k : Int} {n : Nat} (h : Marked3 M v k n r N) : PreV v M N := ⟨by rw [h.2.2.1]; exact Nat.le_refl _, fun u _ ho => h.2.2.2 u ho⟩
theorem PreV.pre {M0 M N : Mem} {v : LV} (hp : PreV v M N) (h : Pre M0 M) (hv : Newer M0 v) : Pre M0 N := ⟨Nat.le_trans h.1 hp.1, fun u hu => by rw [hp.2 u (Nat.lt_of_lt_of_le hu h.1) (hv u hu)]; exact h.2 u hu⟩
/-- The block of the slice lies in M. -/
def Older (M : Mem) (v : LV) : Prop := ∀ t o n, v = .ref t o n → t < M.length
theorem SlI.older {M : Mem} {v : LV} {l : List Int} (h : SlI M v l) : Older M v := fun t o n e => by
  rcases h with ⟨rfl, _⟩ | ⟨t', ex, h1, h2⟩
  · cases e
  · rw [h1] at e; cases e; exact h2.lt
theorem SlC.older {M : Mem} {v : LV} {l : List Cell} (h : SlC M v l) : Older M v := fun t o n e => by
  rcases h with ⟨rfl, _⟩ | ⟨t', ex, h1, h2⟩
  · cases e
  · rw [h1] at e; cases e; exact h2.lt
theorem CellsV.older {M : Mem} {v : LV} {l : List Cell} (h : CellsV M v l) : Older M v := fun t o n e => by
  rcases h with ⟨rfl, _⟩ | ⟨t', o', h1, h2⟩
  · cases e
  · rw [h1] at e; cases e; exact h2.lt
theorem IntsV.older {M : Mem} {v : LV} {l : List Int} (h : IntsV M v l) : Older M v := fun t o n e => by
  rcases h with ⟨rfl, _⟩ | ⟨t', o', h1, h2⟩
  · cases e
  · rw [h1] at e; cases e; exact h2.lt
/-- A newer slice is apart from an older one, and the other way. -/
theorem Newer.apart {M : Mem} {v w : LV} (hv : Newer M v) (hw : Older M w) : Apart v w := fun t o n e => hv t (hw t o n e)
theorem Apart.symm {v w : LV} (h : Apart v w) : Apart w v := fun t o n e => by
  cases w with
  | ref t' o' n' => have := h t' o' n' rfl; subst e; exact fun e => this e.symm
  | _ => trivial
theorem Newer.mono {M N : Mem} {v : LV} (h : Newer N v) (hp : Pre M N) : Newer M v := fun u hu => h u (Nat.lt_of_lt_of_le hu hp.1)

/-- A list of numbers, or none, and whether there is one. -/
def IntsRes (M : Mem) (r : Option (List Int)) (v : LV) (N : Mem) : Prop := ∃ w, v = .tup [w, .B r.isSome] ∧ SlI N w (r.getD []) ∧ Newer M w ∧ Pre M N
/-- A list of cells, or none, and whether there is one. -/
def CellsRes (M : Mem) (r : Option (List Cell)) (v : LV) (N : Mem) : Prop := ∃ w, v = .tup [w, .B r.isSome] ∧ SlC N w (r.getD []) ∧ Newer M w ∧ Pre M N
/-- A call that leaves one new block: where it lies is forgotten. -/
theorem callN_of {P : Program} {f : FuncId} {args : List LV} {M : Mem} {n e : Nat} {vs : List LV} {A : LV → Mem → Prop} (h : CallsTo P f args M (.ref M.length 0 n) (M ++ [some (.row vs true e)]))
    (hA : ∀ (t : Nat) (N : Mem), M.length ≤ t → Pre M N → Live N t (.row vs true e) → A (.ref t 0 n) N) : callK P f args M A := callK_of h (hA _ _ (Nat.le_refl _) (Pre.app _ _) Live.new)

theorem Live.tri {M : Mem} {t k : Nat} {w : Bool} {cs ex : List Cell} (h : Live M t (.row (triL (cs ++ ex)) w 3)) (hk : k < cs.length) : getCells M t (k * 3) 3 = some (cs.getD k default).row := by
  rw [triL_append] at h
  have := Tri.get (cs := cs) h.hasL hk
  rwa [Nat.zero_add] at this
theorem Live.tri0 {M : Mem} {t k : Nat} {w : Bool} {cs : List Cell} (h : Live M t (.row (triL cs) w 3)) (hk : k < cs.length) : getCells M t (k * 3) 3 = some (cs.getD k default).row := Live.tri (ex := []) (by simpa using h) hk
end Go.Ab

/- The abstract code of some functions (written by a program of mine from the translation, by way of prepF). -/
namespace Go.Ab.C
open Go.Ab
def laws_eqIntA2 : AFn :=
  ⟨2, 17, [.tmp 4],
    .seq (.ops [(none, .box 2 (.t 0)),
       (none, .box 3 (.t 1)),
       (none, .mv 4 (.c (.B false)))])
    (.seq (.seq (.ops [(none, .mv 5 (.c (.I 0)))])
      (.block 0 (.loop (.seq (.seq (.ops [(none, .mv 6 (.t 5)),
             (none, .bin 7 .lss (.t 6) (.c (.I 2)))])
          (.cond (.t 7) (.skip)
           (.exit 0)))
         (.seq (.block 1 (.seq (.draw [⟨(none, .mv 10 (.t 5)), [], []⟩,
               ⟨(none, .idxA 11 2 1 (.t 2) (.t 10)), [], []⟩,
               ⟨(none, .load1 12 (.t 11)), [], []⟩,
               ⟨(none, .mv 13 (.t 5)), [], []⟩,
               ⟨(none, .idxA 14 2 1 (.t 3) (.t 13)), [], []⟩,
               ⟨(none, .load1 15 (.t 14)), [], []⟩,
               ⟨(none, .bin 16 .neq (.t 12) (.t 15)), [], []⟩])
            (.cond (.t 16) (.seq (.ops [(none, .mv 4 (.c (.B false)))])
              (.ret))
             (.skip))))
          (.ops [(none, .mv 8 (.t 5)),
             (none, .bin 9 .add (.t 8) (.c (.I 1))),
             (none, .mv 5 (.t 9))]))))))
     (.seq (.ops [(none, .mv 4 (.c (.B true)))])
      (.ret)))⟩
def laws_eqIntA2S : AFn :=
  ⟨2, 27, [.tmp 4],
    .seq (.ops [(none, .mv 4 (.c (.B false)))])
    (.seq (.seq (.ops [(none, .mv 6 (.t 0)),
         (none, .len 7 (.t 6)),
         (none, .mv 8 (.t 1)),
         (none, .len 9 (.t 8)),
         (none, .bin 10 .neq (.t 7) (.t 9))])
      (.cond (.t 10) (.seq (.ops [(none, .mv 4 (.c (.B false)))])
        (.ret))
       (.skip)))
     (.seq (.seq (.ops [(none, .mv 5 (.c (.I 0)))])
       (.block 0 (.loop (.seq (.seq (.ops [(none, .mv 11 (.t 5)),
              (none, .mv 12 (.t 0)),
              (none, .len 13 (.t 12)),
              (none, .bin 14 .lss (.t 11) (.t 13))])
           (.cond (.t 14) (.skip)
            (.exit 0)))
          (.seq (.block 1 (.seq (.draw [⟨(none, .mv 17 (.t 0)), [], []⟩,
                ⟨(none, .mv 18 (.t 5)), [], []⟩,
                ⟨(none, .idxS 19 2 (.t 17) (.t 18)), [], []⟩,
                ⟨(none, .loadN 20 2 (.t 19)), [], []⟩,
                ⟨(none, .mv 21 (.t 1)), [], []⟩,
                ⟨(none, .mv 22 (.t 5)), [], []⟩,
                ⟨(none, .idxS 23 2 (.t 21) (.t 22)), [], []⟩,
                ⟨(none, .loadN 24 2 (.t 23)), [], []⟩,
                ⟨(none, .call (some 25) F.laws_eqIntA2 [(.t 20), (.t 24)]), [], []⟩,
                ⟨(none, .un 26 .not (.t 25)), [], []⟩])
             (.cond (.t 26) (.seq (.ops [(none, .mv 4 (.c (.B false)))])
               (.ret))
              (.skip))))
           (.ops [(none, .mv 15 (.t 5)),
              (none, .bin 16 .add (.t 15) (.c (.I 1))),
              (none, .mv 5 (.t 16))]))))))
      (.seq (.ops [(none, .mv 4 (.c (.B true)))])
       (.ret))))⟩
def laws_markIntA2S : AFn :=
  ⟨2, 26, [.tmp 4],
    .seq (.ops [(none, .mv 4 (.c (.I 0)))])
    (.seq (.seq (.ops [(none, .mv 5 (.c (.I 0)))])
      (.block 0 (.loop (.seq (.seq (.ops [(none, .mv 7 (.t 5)),
             (none, .mv 8 (.t 0)),
             (none, .len 9 (.t 8)),
             (none, .bin 10 .lss (.t 7) (.t 9))])
          (.cond (.t 10) (.skip)
           (.exit 0)))
         (.seq (.block 1 (.seq (.ops [(none, .mv 6 (.c (.I 0)))])
            (.block 2 (.loop (.seq (.seq (.ops [(none, .mv 13 (.t 6)),
                   (none, .bin 14 .lss (.t 13) (.c (.I 2)))])
                (.cond (.t 14) (.skip)
                 (.exit 2)))
               (.seq (.block 3 (.seq (.ops [(none, .mv 17 (.t 0)),
                     (none, .mv 18 (.t 5)),
                     (none, .mv 19 (.t 6)),
                     (none, .mv 20 (.t 1)),
                     (none, .idxS 21 2 (.t 17) (.t 18)),
                     (none, .idxA 22 2 1 (.t 21) (.t 19)),
                     (none, .store 1 (.t 22) (.t 20))])
                  (.ops [(none, .mv 23 (.t 1)),
                     (none, .bin 24 .add (.t 23) (.c (.I 1))),
                     (none, .mv 1 (.t 24))])))
                (.ops [(none, .mv 15 (.t 6)),
                   (none, .bin 16 .add (.t 15) (.c (.I 1))),
                   (none, .mv 6 (.t 16))])))))))
          (.ops [(none, .mv 11 (.t 5)),
             (none, .bin 12 .add (.t 11) (.c (.I 1))),
             (none, .mv 5 (.t 12))]))))))
     (.seq (.ops [(none, .mv 25 (.t 1)),
         (none, .mv 4 (.t 25))])
      (.ret)))⟩
def laws_heldIntA2S : AFn :=
  ⟨2, 28, [.tmp 4],
    .seq (.ops [(none, .mv 4 (.c (.I 0)))])
    (.seq (.seq (.ops [(none, .mv 5 (.c (.I 0)))])
      (.block 0 (.loop (.seq (.seq (.ops [(none, .mv 7 (.t 5)),
             (none, .mv 8 (.t 0)),
             (none, .len 9 (.t 8)),
             (none, .bin 10 .lss (.t 7) (.t 9))])
          (.cond (.t 10) (.skip)
           (.exit 0)))
         (.seq (.block 1 (.seq (.ops [(none, .mv 6 (.c (.I 0)))])
            (.block 2 (.loop (.seq (.seq (.ops [(none, .mv 13 (.t 6)),
                   (none, .bin 14 .lss (.t 13) (.c (.I 2)))])
                (.cond (.t 14) (.skip)
                 (.exit 2)))
               (.seq (.block 3 (.seq (.seq (.ops [(none, .mv 17 (.t 0)),
                      (none, .mv 18 (.t 5)),
                      (none, .mv 19 (.t 6)),
                      (none, .idxS 20 2 (.t 17) (.t 18)),
                      (none, .idxA 21 2 1 (.t 20) (.t 19)),
                      (none, .load1 22 (.t 21)),
                      (none, .mv 23 (.t 1)),
                      (none, .bin 24 .neq (.t 22) (.t 23))])
                   (.cond (.t 24) (.seq (.ops [(none, .mv 4 (.c (.I (-1))))])
                     (.ret))
                    (.skip)))
                  (.ops [(none, .mv 25 (.t 1)),
                     (none, .bin 26 .add (.t 25) (.c (.I 1))),
                     (none, .mv 1 (.t 26))])))
                (.ops [(none, .mv 15 (.t 6)),
                   (none, .bin 16 .add (.t 15) (.c (.I 1))),
                   (none, .mv 6 (.t 16))])))))))
          (.ops [(none, .mv 11 (.t 5)),
             (none, .bin 12 .add (.t 11) (.c (.I 1))),
             (none, .mv 5 (.t 12))]))))))
     (.seq (.ops [(none, .mv 27 (.t 1)),
         (none, .mv 4 (.t 27))])
      (.ret)))⟩
end Go.Ab.C

/- That the program has this code. -/
namespace Go.Ab.K
open Go Go.Ab
theorem laws_eqIntA2 : prepF Go.Proofs.Try.prog F.laws_eqIntA2 = some C.laws_eqIntA2 := by kernel_rfl
theorem laws_eqIntA2S : prepF Go.Proofs.Try.prog F.laws_eqIntA2S = some C.laws_eqIntA2S := by kernel_rfl
theorem laws_markIntA2S : prepF Go.Proofs.Try.prog F.laws_markIntA2S = some C.laws_markIntA2S := by kernel_rfl
theorem laws_heldIntA2S : prepF Go.Proofs.Try.prog F.laws_heldIntA2S = some C.laws_heldIntA2S := by kernel_rfl
end Go.Ab.K

/- The abstract code of some functions (written by a program of mine from the translation, by way of prepF). -/
namespace Go.Ab.C
open Go.Ab
end Go.Ab.C

/- That the program has this code. -/
namespace Go.Ab.K
open Go Go.Ab
end Go.Ab.K

/- The abstract code of some functions (written by a program of mine from the translation, by way of prepF). -/
namespace Go.Ab.C
open Go.Ab
end Go.Ab.C

/- That the program has this code. -/
namespace Go.Ab.K
open Go Go.Ab
end Go.Ab.K

/- The abstract code of some functions (written by a program of mine from the translation, by way of prepF). -/
namespace Go.Ab.C
open Go.Ab
end Go.Ab.C

/- That the program has this code. -/
namespace Go.Ab.K
open Go Go.Ab
end Go.Ab.K

/- The abstract code of some functions (written by a program of mine from the translation, by way of prepF). -/
namespace Go.Ab.C
open Go.Ab
end Go.Ab.C

/- That the program has this code. -/
namespace Go.Ab.K
open Go Go.Ab
end Go.Ab.K

/- The abstract code of some functions (written by a program of mine from the translation, by way of prepF). -/
namespace Go.Ab.C
open Go.Ab
def impl_allWithin : AFn :=
  ⟨3, 21, [.tmp 6],
    .seq (.ops [(none, .mv 6 (.c (.B false)))])
    (.seq (.seq (.ops [(none, .mv 9 (.t 0)),
         (none, .len 10 (.t 9)),
         (none, .mv 11 (.c (.I 0)))])
      (.block 0 (.loop (.seq (.ops [(none, .bin 12 .lss (.t 11) (.t 10))])
         (.seq (.cond (.t 12) (.skip)
           (.exit 0))
          (.seq (.block 1 (.seq (.ops [(none, .idxS 13 1 (.t 9) (.t 11)),
                (none, .load1 14 (.t 13)),
                (none, .mv 8 (.t 14))])
             (.seq (.ops [(none, .mv 15 (.t 8)),
                 (none, .mv 16 (.t 1)),
                 (none, .mv 17 (.t 2)),
                 (none, .call (some 18) F.impl_within [(.t 15), (.t 16), (.t 17)]),
                 (none, .un 19 .not (.t 18))])
              (.cond (.t 19) (.seq (.ops [(none, .mv 6 (.c (.B false)))])
                (.ret))
               (.skip)))))
           (.ops [(none, .bin 20 .add (.t 11) (.c (.I 1))),
              (none, .mv 11 (.t 20))])))))))
     (.seq (.ops [(none, .mv 6 (.c (.B true)))])
      (.ret)))⟩
end Go.Ab.C

/- That the program has this code. -/
namespace Go.Ab.K
open Go Go.Ab
theorem impl_allWithin : prepF Go.Proofs.Try.prog F.impl_allWithin = some C.impl_allWithin := by kernel_rfl
end Go.Ab.K

/- The abstract code of some functions (written by a program of mine from the translation, by way of prepF). -/
namespace Go.Ab.C
open Go.Ab
def laws_toIntS : AFn :=
  ⟨1, 22, [.tmp 2],
    .seq (.ops [(none, .mv 2 (.c .nil))])
    (.seq (.ops [(none, .mv 5 (.t 0)),
        (none, .len 6 (.t 5)),
        (none, .mksl 7 1 8 [(.I 0)] (.t 6) (.t 6)),
        (none, .mv 3 (.t 7))])
     (.seq (.seq (.ops [(none, .mv 4 (.c (.I 0)))])
       (.block 0 (.loop (.seq (.seq (.ops [(none, .mv 8 (.t 4)),
              (none, .mv 9 (.t 0)),
              (none, .len 10 (.t 9)),
              (none, .bin 11 .lss (.t 8) (.t 10))])
           (.cond (.t 11) (.skip)
            (.exit 0)))
          (.seq (.block 1 (.ops [(none, .mv 14 (.t 3)),
               (none, .mv 15 (.t 4)),
               (none, .mv 16 (.t 0)),
               (none, .mv 17 (.t 4)),
               (none, .idxS 18 1 (.t 16) (.t 17)),
               (none, .load1 19 (.t 18)),
               (none, .idxS 20 1 (.t 14) (.t 15)),
               (none, .store 1 (.t 20) (.t 19))]))
           (.ops [(none, .mv 12 (.t 4)),
              (none, .bin 13 .add (.t 12) (.c (.I 1))),
              (none, .mv 4 (.t 13))]))))))
      (.seq (.ops [(none, .mv 21 (.t 3)),
          (none, .mv 2 (.t 21))])
       (.ret))))⟩
end Go.Ab.C

/- That the program has this code. -/
namespace Go.Ab.K
open Go Go.Ab
theorem laws_toIntS : prepF Go.Proofs.Try.prog F.laws_toIntS = some C.laws_toIntS := by kernel_rfl
end Go.Ab.K

/- Contracts: the laws' helpers on shadows. -/
namespace Go.Ab
open Go
set_option linter.unusedSimpArgs false
set_option linter.unusedVariables false

theorem h_toIntS {t o : Nat} {xs : List Int} {M : Mem} (h : Ints M t o xs) (hn : xs.length ≤ 1000000000) :
    CallsTo PG F.laws_toIntS [.ref t o xs.length] M (.ref M.length 0 xs.length) (M ++ [some (.row (intL xs) true 1)]) := by
  have ht := h.lt
  refine calls_run K.laws_toIntS rfl ?_
  simp (disch := omega) only [C.laws_toIntS, made_int, ↓SXd, SXu, slBounds, ↓sop, ↓aop, ↓reduceIte, LV.cells, AOp.dst, LV.I, LV.B, LV.U, LV.S, LV.nil, Nat.reduceEqDiff, Nat.reduceAdd, Nat.reduceMul, Nat.reduceSub, Nat.reduceLeDiff, Nat.reduceBEq, Nat.reduceDiv, Nat.reduceMod, Int.reduceToNat, Int.reduceLT, Int.reduceLE, Int.reduceAdd, Int.reduceSub, Int.reduceMul, Int.reduceEq, Int.reduceNeg, reduceCtorEq, resV, resAll, ARes.ev, LV.flat, ite_true, ite_false, exists_eq_left', exists_eq_left, keyOf, implies_true, fillC, capOf]
  refine ev_loop (fun m fr M' => ∃ k : Nat, k + m = xs.length ∧ Pre M M' ∧ Live M' M.length (.row (intL (xs.take k ++ List.replicate (xs.length - k) 0)) true 1) ∧ fr 0 = .ref t o xs.length ∧ fr 3 = .ref M.length 0 xs.length ∧ fr 4 = .I k) xs.length
    ⟨0, by omega, Pre.app _ _, by simpa using Live.new, rfl, rfl, rfl⟩ ?_
  rintro m fr M' ⟨k, hk, hpre, hout, f0, f3, f4⟩
  simp (disch := omega) only [f0, f3, f4, ↓SXd, SXu, slBounds, ↓sop, ↓aop, ↓reduceIte, LV.cells, AOp.dst, LV.I, LV.B, LV.U, LV.S, LV.nil, Nat.reduceEqDiff, Nat.reduceAdd, Nat.reduceMul, Nat.reduceSub, Nat.reduceLeDiff, Nat.reduceBEq, Nat.reduceDiv, Nat.reduceMod, Int.reduceToNat, Int.reduceLT, Int.reduceLE, Int.reduceAdd, Int.reduceSub, Int.reduceMul, Int.reduceEq, Int.reduceNeg, reduceCtorEq, resV, resAll, ARes.ev, LV.flat, ite_true, ite_false, exists_eq_left', exists_eq_left, keyOf, implies_true, fillC, capOf]
  refine condC_dec (fun hlt => ?_) (fun hlt => ?_)
  · have hkl : k < xs.length := by omega
    have hg := Ints.get (h.pre hpre) hkl
    simp (disch := omega) only [f0, f3, f4, hg, Nat.mul_one, ↓SXd, SXu, slBounds, ↓sop, ↓aop, ↓reduceIte, LV.cells, AOp.dst, LV.I, LV.B, LV.U, LV.S, LV.nil, Nat.reduceEqDiff, Nat.reduceAdd, Nat.reduceMul, Nat.reduceSub, Nat.reduceLeDiff, Nat.reduceBEq, Nat.reduceDiv, Nat.reduceMod, Int.reduceToNat, Int.reduceLT, Int.reduceLE, Int.reduceAdd, Int.reduceSub, Int.reduceMul, Int.reduceEq, Int.reduceNeg, reduceCtorEq, resV, resAll, ARes.ev, LV.flat, ite_true, ite_false, exists_eq_left', exists_eq_left, keyOf, implies_true, fillC, capOf]
    refine memK_int hout (by simp; omega) fun N l1 l2 l3 => ?_
    simp (disch := omega) only [f0, f3, f4, ↓SXd, SXu, slBounds, ↓sop, ↓aop, ↓reduceIte, LV.cells, AOp.dst, LV.I, LV.B, LV.U, LV.S, LV.nil, Nat.reduceEqDiff, Nat.reduceAdd, Nat.reduceMul, Nat.reduceSub, Nat.reduceLeDiff, Nat.reduceBEq, Nat.reduceDiv, Nat.reduceMod, Int.reduceToNat, Int.reduceLT, Int.reduceLE, Int.reduceAdd, Int.reduceSub, Int.reduceMul, Int.reduceEq, Int.reduceNeg, reduceCtorEq, resV, resAll, ARes.ev, LV.flat, ite_true, ite_false, exists_eq_left', exists_eq_left, keyOf, implies_true, fillC, capOf]
    refine ⟨m - 1, by omega, k + 1, by omega, pre_step hpre (by omega) (j := 0) l1 l3, ?_, f0, f3, eqI (natI _)⟩
    have e : (xs.take k ++ List.replicate (xs.length - k) 0).set k (xs.getD k 0) = xs.take (k + 1) ++ List.replicate (xs.length - (k + 1)) 0 := by
      have hl : (xs.take k).length = k := by simp; omega
      rw [List.set_append_right _ _ (by omega), hl, Nat.sub_self, show xs.length - k = (xs.length - (k + 1)) + 1 by omega, List.replicate_succ, List.set_cons_zero, List.take_succ, List.getElem?_eq_getElem hkl, List.append_assoc]
      simp [hkl]
    rw [e] at l2; exact l2
  · simp (disch := omega) only [f0, f3, f4, ↓SXd, SXu, slBounds, ↓sop, ↓aop, ↓reduceIte, LV.cells, AOp.dst, LV.I, LV.B, LV.U, LV.S, LV.nil, Nat.reduceEqDiff, Nat.reduceAdd, Nat.reduceMul, Nat.reduceSub, Nat.reduceLeDiff, Nat.reduceBEq, Nat.reduceDiv, Nat.reduceMod, Int.reduceToNat, Int.reduceLT, Int.reduceLE, Int.reduceAdd, Int.reduceSub, Int.reduceMul, Int.reduceEq, Int.reduceNeg, reduceCtorEq, resV, resAll, ARes.ev, LV.flat, ite_true, ite_false, exists_eq_left', exists_eq_left, keyOf, implies_true, fillC, capOf]
    have : k = xs.length := by omega
    subst this
    rw [List.take_length, Nat.sub_self, List.replicate_zero, List.append_nil] at hout
    exact cmp_keepL hpre (by omega) hout (intL_lo _) (by simp [rn, rn0, rn1])

/-- A shadow as a value, its lists in three blocks behind M. -/
def ShdRes (M : Mem) (x y z : Int) (tp fr sd : List Int) (v : LV) (N : Mem) : Prop := ∃ a b c : Nat, v = .agg [.I x, .I y, .I z, .ref a 0 tp.length, .ref b 0 fr.length, .ref c 0 sd.length] ∧ M.length ≤ a ∧ M.length ≤ b ∧ M.length ≤ c ∧ a ≠ b ∧ a ≠ c ∧ b ≠ c ∧
  Live N a (.row (intL tp) true 1) ∧ Live N b (.row (intL fr) true 1) ∧ Live N c (.row (intL sd) true 1) ∧ Pre M N
end Go.Ab

/- The abstract code of some functions (written by a program of mine from the translation, by way of prepF). -/
namespace Go.Ab.C
open Go.Ab
def cmp_isNaN_int : AFn :=
  ⟨1, 6, [.tmp 2],
    .seq (.ops [(none, .mv 2 (.c (.B false)))])
    (.seq (.ops [(none, .mv 3 (.t 0)),
        (none, .mv 4 (.t 0)),
        (none, .bin 5 .neq (.t 3) (.t 4)),
        (none, .mv 2 (.t 5))])
     (.ret))⟩
def cmp_Compare_int : AFn :=
  ⟨2, 20, [.tmp 4],
    .seq (.ops [(none, .mv 4 (.c (.I 0)))])
    (.seq (.ops [(none, .mv 7 (.t 0)),
        (none, .call (some 8) F.cmp_isNaN_int [(.t 7)]),
        (none, .mv 5 (.t 8))])
     (.seq (.ops [(none, .mv 9 (.t 1)),
         (none, .call (some 10) F.cmp_isNaN_int [(.t 9)]),
         (none, .mv 6 (.t 10))])
      (.seq (.seq (.ops [(none, .mv 11 (.t 5))])
        (.cond (.t 11) (.seq (.seq (.ops [(none, .mv 12 (.t 6))])
           (.cond (.t 12) (.seq (.ops [(none, .mv 4 (.c (.I 0)))])
             (.ret))
            (.skip)))
          (.seq (.ops [(none, .mv 4 (.c (.I (-1))))])
           (.ret)))
         (.skip)))
       (.seq (.seq (.ops [(none, .mv 13 (.t 6))])
         (.cond (.t 13) (.seq (.ops [(none, .mv 4 (.c (.I 1)))])
           (.ret))
          (.skip)))
        (.seq (.seq (.ops [(none, .mv 14 (.t 0)),
             (none, .mv 15 (.t 1)),
             (none, .bin 16 .lss (.t 14) (.t 15))])
          (.cond (.t 16) (.seq (.ops [(none, .mv 4 (.c (.I (-1))))])
            (.ret))
           (.skip)))
         (.seq (.seq (.ops [(none, .mv 17 (.t 0)),
              (none, .mv 18 (.t 1)),
              (none, .bin 19 .gtr (.t 17) (.t 18))])
           (.cond (.t 19) (.seq (.ops [(none, .mv 4 (.c (.I 1)))])
             (.ret))
            (.skip)))
          (.seq (.ops [(none, .mv 4 (.c (.I 0)))])
           (.ret))))))))⟩
def slices_Compare_Sint_int : AFn :=
  ⟨2, 36, [.tmp 4],
    .seq (.ops [(none, .mv 4 (.c (.I 0)))])
    (.seq (.seq (.ops [(none, .mv 9 (.t 0)),
         (none, .len 10 (.t 9)),
         (none, .mv 11 (.c (.I 0)))])
      (.block 0 (.loop (.seq (.ops [(none, .bin 12 .lss (.t 11) (.t 10))])
         (.seq (.cond (.t 12) (.skip)
           (.exit 0))
          (.seq (.block 1 (.seq (.ops [(none, .mv 13 (.t 11)),
                (none, .idxS 14 1 (.t 9) (.t 11)),
                (none, .load1 15 (.t 14)),
                (none, .mv 5 (.t 13)),
                (none, .mv 6 (.t 15))])
             (.seq (.seq (.ops [(none, .mv 16 (.t 5)),
                  (none, .mv 17 (.t 1)),
                  (none, .len 18 (.t 17)),
                  (none, .bin 19 .geq (.t 16) (.t 18))])
               (.cond (.t 19) (.seq (.ops [(none, .mv 4 (.c (.I 1)))])
                 (.ret))
                (.skip)))
              (.seq (.ops [(none, .mv 20 (.t 1)),
                  (none, .mv 21 (.t 5)),
                  (none, .idxS 22 1 (.t 20) (.t 21)),
                  (none, .load1 23 (.t 22)),
                  (none, .mv 7 (.t 23))])
               (.seq (.ops [(none, .mv 24 (.t 6)),
                   (none, .mv 25 (.t 7)),
                   (none, .call (some 26) F.cmp_Compare_int [(.t 24), (.t 25)]),
                   (none, .mv 8 (.t 26))])
                (.seq (.ops [(none, .mv 27 (.t 8)),
                    (none, .bin 28 .neq (.t 27) (.c (.I 0)))])
                 (.cond (.t 28) (.seq (.ops [(none, .mv 29 (.t 8)),
                      (none, .mv 4 (.t 29))])
                   (.ret))
                  (.skip))))))))
           (.ops [(none, .bin 30 .add (.t 11) (.c (.I 1))),
              (none, .mv 11 (.t 30))])))))))
     (.seq (.seq (.ops [(none, .mv 31 (.t 0)),
          (none, .len 32 (.t 31)),
          (none, .mv 33 (.t 1)),
          (none, .len 34 (.t 33)),
          (none, .bin 35 .lss (.t 32) (.t 34))])
       (.cond (.t 35) (.seq (.ops [(none, .mv 4 (.c (.I (-1))))])
         (.ret))
        (.skip)))
      (.seq (.ops [(none, .mv 4 (.c (.I 0)))])
       (.ret))))⟩
def impl_within : AFn :=
  ⟨3, 15, [.tmp 6],
    .seq (.ops [(none, .mv 6 (.c (.B false)))])
    (.seq (.ops [(none, .mv 7 (.t 0)),
        (none, .mv 8 (.t 1)),
        (none, .bin 9 .geq (.t 7) (.t 8)),
        (none, .mv 10 (.t 9)),
        (some (10, true), .mv 11 (.t 0)),
        (some (10, true), .mv 12 (.t 2)),
        (some (10, true), .bin 13 .leq (.t 11) (.t 12)),
        (none, .pick 14 (.t 10) (.t 13) (.c (.B false))),
        (none, .mv 6 (.t 14))])
     (.ret))⟩
def impl_Heap_box : AFn :=
  ⟨1, 10, [.cellN 2 3],
    .seq (.ops [(none, .box 1 (.t 0)),
       (none, .alloc 2 [(.I 0), (.I 0), (.I 0)])])
    (.seq (.ops [(none, .fieldAddr 3 (.t 1) 0),
        (none, .load1 4 (.t 3)),
        (none, .fieldAddr 5 (.t 1) 1),
        (none, .load1 6 (.t 5)),
        (none, .fieldAddr 7 (.t 1) 2),
        (none, .load1 8 (.t 7)),
        (none, .build 9 [(.I 0), (.I 0), (.I 0)] [(0, 1, (.t 4)), (1, 1, (.t 6)), (2, 1, (.t 8))]),
        (none, .store 3 (.t 2) (.t 9))])
     (.ret))⟩
def impl_box_valid : AFn :=
  ⟨1, 16, [.tmp 2],
    .seq (.ops [(none, .box 1 (.t 0)),
       (none, .mv 2 (.c (.B false)))])
    (.seq (.ops [(none, .idxA 3 3 1 (.t 1) (.c (.I 0))),
        (none, .load1 4 (.t 3)),
        (none, .call (some 5) F.impl_within [(.t 4), (.c (.I 1)), (.c (.I 4))]),
        (none, .mv 6 (.t 5)),
        (some (6, true), .idxA 7 3 1 (.t 1) (.c (.I 1))),
        (some (6, true), .load1 8 (.t 7)),
        (some (6, true), .call (some 9) F.impl_within [(.t 8), (.c (.I 1)), (.c (.I 4))]),
        (none, .pick 10 (.t 6) (.t 9) (.c (.B false))),
        (none, .mv 11 (.t 10)),
        (some (11, true), .idxA 12 3 1 (.t 1) (.c (.I 2))),
        (some (11, true), .load1 13 (.t 12)),
        (some (11, true), .call (some 14) F.impl_within [(.t 13), (.c (.I 1)), (.c (.I 4))]),
        (none, .pick 15 (.t 11) (.t 14) (.c (.B false))),
        (none, .mv 2 (.t 15))])
     (.ret))⟩
def impl_box_has : AFn :=
  ⟨2, 27, [.tmp 4],
    .seq (.ops [(none, .box 2 (.t 0)),
       (none, .box 3 (.t 1)),
       (none, .mv 4 (.c (.B false)))])
    (.seq (.ops [(none, .idxA 5 3 1 (.t 3) (.c (.I 0))),
        (none, .load1 6 (.t 5)),
        (none, .idxA 7 3 1 (.t 2) (.c (.I 0))),
        (none, .load1 8 (.t 7)),
        (none, .bin 9 .sub (.t 8) (.c (.I 1))),
        (none, .call (some 10) F.impl_within [(.t 6), (.c (.I 0)), (.t 9)]),
        (none, .mv 11 (.t 10)),
        (some (11, true), .idxA 12 3 1 (.t 3) (.c (.I 1))),
        (some (11, true), .load1 13 (.t 12)),
        (some (11, true), .idxA 14 3 1 (.t 2) (.c (.I 1))),
        (some (11, true), .load1 15 (.t 14)),
        (some (11, true), .bin 16 .sub (.t 15) (.c (.I 1))),
        (some (11, true), .call (some 17) F.impl_within [(.t 13), (.c (.I 0)), (.t 16)]),
        (none, .pick 18 (.t 11) (.t 17) (.c (.B false))),
        (none, .mv 19 (.t 18)),
        (some (19, true), .idxA 20 3 1 (.t 3) (.c (.I 2))),
        (some (19, true), .load1 21 (.t 20)),
        (some (19, true), .idxA 22 3 1 (.t 2) (.c (.I 2))),
        (some (19, true), .load1 23 (.t 22)),
        (some (19, true), .bin 24 .sub (.t 23) (.c (.I 1))),
        (some (19, true), .call (some 25) F.impl_within [(.t 21), (.c (.I 0)), (.t 24)]),
        (none, .pick 26 (.t 19) (.t 25) (.c (.B false))),
        (none, .mv 4 (.t 26))])
     (.ret))⟩
def impl_compareCells : AFn :=
  ⟨2, 8, [.tmp 4],
    .seq (.ops [(none, .box 2 (.t 0)),
       (none, .box 3 (.t 1)),
       (none, .mv 4 (.c (.I 0)))])
    (.seq (.draw [⟨(none, .slA 5 3 1 (.t 2) none none), [], []⟩,
        ⟨(none, .slA 6 3 1 (.t 3) none none), [], []⟩,
        ⟨(none, .call (some 7) F.slices_Compare_Sint_int [(.t 5), (.t 6)]), [], []⟩,
        ⟨(none, .mv 4 (.t 7)), [], []⟩])
     (.ret))⟩
def impl_IsHeap : AFn :=
  ⟨1, 38, [.tmp 2],
    .seq (.ops [(none, .box 1 (.t 0)),
       (none, .mv 2 (.c (.B false)))])
    (.seq (.seq (.ops [(none, .loadN 5 4 (.t 1)),
         (none, .call (some 6) F.impl_Heap_box [(.t 5)]),
         (none, .call (some 7) F.impl_box_valid [(.t 6)]),
         (none, .un 8 .not (.t 7))])
      (.cond (.t 8) (.seq (.ops [(none, .mv 2 (.c (.B false)))])
        (.ret))
       (.skip)))
     (.seq (.seq (.ops [(none, .fieldAddr 9 (.t 1) 3),
          (none, .load1 10 (.t 9)),
          (none, .len 11 (.t 10)),
          (none, .mv 12 (.c (.I 0)))])
       (.block 0 (.loop (.seq (.ops [(none, .bin 13 .lss (.t 12) (.t 11))])
          (.seq (.cond (.t 13) (.skip)
            (.exit 0))
           (.seq (.block 1 (.seq (.ops [(none, .mv 14 (.t 12)),
                 (none, .idxS 15 3 (.t 10) (.t 12)),
                 (none, .loadN 16 3 (.t 15)),
                 (none, .alloc 4 [(.I 0), (.I 0), (.I 0)]),
                 (none, .mv 3 (.t 14)),
                 (none, .store 3 (.t 4) (.t 16))])
              (.seq (.draw [⟨(none, .loadN 17 4 (.t 1)), [], []⟩,
                  ⟨(none, .loadN 19 3 (.t 4)), [], []⟩,
                  ⟨(none, .call (some 18) F.impl_Heap_box [(.t 17)]), [], [1]⟩,
                  ⟨(none, .call (some 20) F.impl_box_has [(.t 18), (.t 19)]), [], []⟩,
                  ⟨(none, .un 21 .not (.t 20)), [], []⟩,
                  ⟨(none, .mv 22 (.t 21)), [], []⟩,
                  ⟨(some (22, false), .mv 23 (.t 3)), [], []⟩,
                  ⟨(some (22, false), .bin 24 .gtr (.t 23) (.c (.I 0))), [], []⟩,
                  ⟨(some (22, false), .mv 25 (.t 24)), [], []⟩,
                  ⟨(some (25, true), .fieldAddr 26 (.t 1) 3), [], []⟩,
                  ⟨(some (25, true), .load1 27 (.t 26)), [], []⟩,
                  ⟨(some (25, true), .mv 28 (.t 3)), [], []⟩,
                  ⟨(some (25, true), .bin 29 .sub (.t 28) (.c (.I 1))), [], []⟩,
                  ⟨(some (25, true), .idxS 30 3 (.t 27) (.t 29)), [], []⟩,
                  ⟨(some (25, true), .loadN 31 3 (.t 30)), [], []⟩,
                  ⟨(some (25, true), .loadN 32 3 (.t 4)), [], []⟩,
                  ⟨(some (25, true), .call (some 33) F.impl_compareCells [(.t 31), (.t 32)]), [], []⟩,
                  ⟨(some (25, true), .bin 34 .geq (.t 33) (.c (.I 0))), [], []⟩,
                  ⟨(some (22, false), .pick 35 (.t 25) (.t 34) (.c (.B false))), [], []⟩,
                  ⟨(none, .pick 36 (.t 22) (.c (.B true)) (.t 35)), [], []⟩])
               (.cond (.t 36) (.seq (.ops [(none, .mv 2 (.c (.B false)))])
                 (.ret))
                (.skip)))))
            (.ops [(none, .bin 37 .add (.t 12) (.c (.I 1))),
               (none, .mv 12 (.t 37))])))))))
      (.seq (.ops [(none, .mv 2 (.c (.B true)))])
       (.ret))))⟩
end Go.Ab.C

/- That the program has this code. -/
namespace Go.Ab.K
open Go Go.Ab
theorem cmp_isNaN_int : prepF Go.Proofs.Try.prog F.cmp_isNaN_int = some C.cmp_isNaN_int := by kernel_rfl
theorem cmp_Compare_int : prepF Go.Proofs.Try.prog F.cmp_Compare_int = some C.cmp_Compare_int := by kernel_rfl
theorem slices_Compare_Sint_int : prepF Go.Proofs.Try.prog F.slices_Compare_Sint_int = some C.slices_Compare_Sint_int := by kernel_rfl
theorem impl_within : prepF Go.Proofs.Try.prog F.impl_within = some C.impl_within := by kernel_rfl
theorem impl_Heap_box : prepF Go.Proofs.Try.prog F.impl_Heap_box = some C.impl_Heap_box := by kernel_rfl
theorem impl_box_valid : prepF Go.Proofs.Try.prog F.impl_box_valid = some C.impl_box_valid := by kernel_rfl
theorem impl_box_has : prepF Go.Proofs.Try.prog F.impl_box_has = some C.impl_box_has := by kernel_rfl
theorem impl_compareCells : prepF Go.Proofs.Try.prog F.impl_compareCells = some C.impl_compareCells := by kernel_rfl
theorem impl_IsHeap : prepF Go.Proofs.Try.prog F.impl_IsHeap = some C.impl_IsHeap := by kernel_rfl
end Go.Ab.K

/- Plain words for heaps: sides, cells, order, heights of columns. -/
namespace Go.Ab

def Sides (x y z : Int) : Prop := (1 ≤ x ∧ x ≤ 4) ∧ (1 ≤ y ∧ y ≤ 4) ∧ (1 ≤ z ∧ z ≤ 4)
instance (x y z : Int) : Decidable (Sides x y z) := by unfold Sides; infer_instance
def Cell.lt (p q : Cell) : Prop := p.a < q.a ∨ (p.a = q.a ∧ (p.b < q.b ∨ (p.b = q.b ∧ p.c < q.c)))
instance (p q : Cell) : Decidable (p.lt q) := by unfold Cell.lt; infer_instance
def Cell.inBox (x y z : Int) (c : Cell) : Prop := (0 ≤ c.a ∧ c.a ≤ x - 1) ∧ (0 ≤ c.b ∧ c.b ≤ y - 1) ∧ (0 ≤ c.c ∧ c.c ≤ z - 1)
instance (x y z : Int) (c : Cell) : Decidable (c.inBox x y z) := by unfold Cell.inBox; infer_instance
/-- A valid heap. -/
def HeapOK (x y z : Int) (cs : List Cell) : Prop :=
  Sides x y z ∧ ∀ k, k < cs.length → (cs.getD k default).inBox x y z ∧ (0 < k → (cs.getD (k - 1) default).lt (cs.getD k default))
noncomputable instance (x y z : Int) (cs : List Cell) : Decidable (HeapOK x y z cs) := Classical.propDecidable _

/-- The heights of columns. -/
def topStep (y : Int) (out : List Int) (c : Cell) : List Int := out.set (c.a * y + c.b).toNat (max (out.getD (c.a * y + c.b).toNat 0) (c.c + 1))
def topsOf (x y : Int) (cs : List Cell) : List Int := cs.foldl (topStep y) (List.replicate (x * y).toNat 0)

def apart (p q : Cell) : Int := max (p.a - q.a) (q.a - p.a) + max (p.b - q.b) (q.b - p.b) + max (p.c - q.c) (q.c - p.c)
def colOf (y p : Int) : Cell := ⟨p.tdiv y, p.tmod y, 0⟩
def nums (n : Nat) : List Int := (List.range n).map Int.ofNat
def nexts (x y p : Int) : List Int := (nums (x * y).toNat).filter fun q => decide (apart (colOf y p) (colOf y q) = 1)
def gap (a b : Int) : Int := max (a - b) (b - a)
def stepsOf (x y : Int) (ts : List Int) (p s : Int) : List Int := (nexts x y p).filter fun q => decide (gap (ts.getD q.toNat 0) (ts.getD p.toNat 0) ≤ s)

end Go.Ab

/- Contracts: the program's boxes, cells, valid heaps. -/
namespace Go.Ab
open Go
set_option linter.unusedSimpArgs false
set_option linter.unusedVariables false

theorem g_within {n lo hi : Int} {M : Mem} : CallsTo PG F.impl_within [.I n, .I lo, .I hi] M (.B (decide (lo ≤ n ∧ n ≤ hi))) M := by
  refine calls_run K.impl_within rfl ?_
  simp (disch := omega) only [C.impl_within, ↓SXd, SXu, slBounds, ↓sop, ↓aop, ↓reduceIte, LV.cells, AOp.dst, LV.I, LV.B, LV.U, LV.S, LV.nil, Nat.reduceEqDiff, Nat.reduceAdd, Nat.reduceMul, Nat.reduceSub, Nat.reduceLeDiff, Nat.reduceBEq, Nat.reduceDiv, Nat.reduceMod, Int.reduceToNat, Int.reduceLT, Int.reduceLE, Int.reduceAdd, Int.reduceSub, Int.reduceMul, Int.reduceEq, Int.reduceNeg, reduceCtorEq, resV, resAll, ARes.ev, LV.flat, ite_true, ite_false, exists_eq_left', exists_eq_left, keyOf, implies_true, fillC, capOf]
  by_cases h1 : lo ≤ n
  · simp (disch := omega) only [h1, ↓SXd, SXu, slBounds, ↓sop, ↓aop, ↓reduceIte, LV.cells, AOp.dst, LV.I, LV.B, LV.U, LV.S, LV.nil, Nat.reduceEqDiff, Nat.reduceAdd, Nat.reduceMul, Nat.reduceSub, Nat.reduceLeDiff, Nat.reduceBEq, Nat.reduceDiv, Nat.reduceMod, Int.reduceToNat, Int.reduceLT, Int.reduceLE, Int.reduceAdd, Int.reduceSub, Int.reduceMul, Int.reduceEq, Int.reduceNeg, reduceCtorEq, resV, resAll, ARes.ev, LV.flat, ite_true, ite_false, exists_eq_left', exists_eq_left, keyOf, implies_true, fillC, capOf]
    exact cmp_drop0 rfl
  · simp (disch := omega) only [h1, ↓SXd, SXu, slBounds, ↓sop, ↓aop, ↓reduceIte, LV.cells, AOp.dst, LV.I, LV.B, LV.U, LV.S, LV.nil, Nat.reduceEqDiff, Nat.reduceAdd, Nat.reduceMul, Nat.reduceSub, Nat.reduceLeDiff, Nat.reduceBEq, Nat.reduceDiv, Nat.reduceMod, Int.reduceToNat, Int.reduceLT, Int.reduceLE, Int.reduceAdd, Int.reduceSub, Int.reduceMul, Int.reduceEq, Int.reduceNeg, reduceCtorEq, resV, resAll, ARes.ev, LV.flat, ite_true, ite_false, exists_eq_left', exists_eq_left, keyOf, implies_true, fillC, capOf]
    exact cmp_drop0 rfl

theorem g_box {x y z : Int} {v : LV} {M : Mem} : CallsTo PG F.impl_Heap_box [.agg [.I x, .I y, .I z, v]] M (.agg [.I x, .I y, .I z]) M := by
  refine calls_run K.impl_Heap_box rfl ?_
  simp (disch := omega) only [C.impl_Heap_box, ↓SXd, SXu, slBounds, ↓sop, ↓aop, ↓reduceIte, LV.cells, AOp.dst, LV.I, LV.B, LV.U, LV.S, LV.nil, Nat.reduceEqDiff, Nat.reduceAdd, Nat.reduceMul, Nat.reduceSub, Nat.reduceLeDiff, Nat.reduceBEq, Nat.reduceDiv, Nat.reduceMod, Int.reduceToNat, Int.reduceLT, Int.reduceLE, Int.reduceAdd, Int.reduceSub, Int.reduceMul, Int.reduceEq, Int.reduceNeg, reduceCtorEq, resV, resAll, ARes.ev, LV.flat, ite_true, ite_false, exists_eq_left', exists_eq_left, keyOf, implies_true, fillC, capOf]
  exact cmp_drop rfl

theorem g_valid {x y z : Int} {M : Mem} : CallsTo PG F.impl_box_valid [.agg [.I x, .I y, .I z]] M (.B (decide (Sides x y z))) M := by
  refine calls_run K.impl_box_valid rfl ?_
  simp (disch := omega) only [C.impl_box_valid, ↓SXd, SXu, slBounds, ↓sop, ↓aop, ↓reduceIte, LV.cells, AOp.dst, LV.I, LV.B, LV.U, LV.S, LV.nil, Nat.reduceEqDiff, Nat.reduceAdd, Nat.reduceMul, Nat.reduceSub, Nat.reduceLeDiff, Nat.reduceBEq, Nat.reduceDiv, Nat.reduceMod, Int.reduceToNat, Int.reduceLT, Int.reduceLE, Int.reduceAdd, Int.reduceSub, Int.reduceMul, Int.reduceEq, Int.reduceNeg, reduceCtorEq, resV, resAll, ARes.ev, LV.flat, ite_true, ite_false, exists_eq_left', exists_eq_left, keyOf, implies_true, fillC, capOf]
  refine callK_of g_within ?_
  simp (disch := omega) only [↓SXd, SXu, slBounds, ↓sop, ↓aop, ↓reduceIte, LV.cells, AOp.dst, LV.I, LV.B, LV.U, LV.S, LV.nil, Nat.reduceEqDiff, Nat.reduceAdd, Nat.reduceMul, Nat.reduceSub, Nat.reduceLeDiff, Nat.reduceBEq, Nat.reduceDiv, Nat.reduceMod, Int.reduceToNat, Int.reduceLT, Int.reduceLE, Int.reduceAdd, Int.reduceSub, Int.reduceMul, Int.reduceEq, Int.reduceNeg, reduceCtorEq, resV, resAll, ARes.ev, LV.flat, ite_true, ite_false, exists_eq_left', exists_eq_left, keyOf, implies_true, fillC, capOf]
  unfold Sides
  by_cases h1 : 1 ≤ x ∧ x ≤ 4
  · simp (disch := omega) only [h1, ↓SXd, SXu, slBounds, ↓sop, ↓aop, ↓reduceIte, LV.cells, AOp.dst, LV.I, LV.B, LV.U, LV.S, LV.nil, Nat.reduceEqDiff, Nat.reduceAdd, Nat.reduceMul, Nat.reduceSub, Nat.reduceLeDiff, Nat.reduceBEq, Nat.reduceDiv, Nat.reduceMod, Int.reduceToNat, Int.reduceLT, Int.reduceLE, Int.reduceAdd, Int.reduceSub, Int.reduceMul, Int.reduceEq, Int.reduceNeg, reduceCtorEq, resV, resAll, ARes.ev, LV.flat, ite_true, ite_false, exists_eq_left', exists_eq_left, keyOf, implies_true, fillC, capOf]
    refine callK_of g_within ?_
    simp (disch := omega) only [↓SXd, SXu, slBounds, ↓sop, ↓aop, ↓reduceIte, LV.cells, AOp.dst, LV.I, LV.B, LV.U, LV.S, LV.nil, Nat.reduceEqDiff, Nat.reduceAdd, Nat.reduceMul, Nat.reduceSub, Nat.reduceLeDiff, Nat.reduceBEq, Nat.reduceDiv, Nat.reduceMod, Int.reduceToNat, Int.reduceLT, Int.reduceLE, Int.reduceAdd, Int.reduceSub, Int.reduceMul, Int.reduceEq, Int.reduceNeg, reduceCtorEq, resV, resAll, ARes.ev, LV.flat, ite_true, ite_false, exists_eq_left', exists_eq_left, keyOf, implies_true, fillC, capOf]
    by_cases h2 : 1 ≤ y ∧ y ≤ 4
    · simp (disch := omega) only [h2, ↓SXd, SXu, slBounds, ↓sop, ↓aop, ↓reduceIte, LV.cells, AOp.dst, LV.I, LV.B, LV.U, LV.S, LV.nil, Nat.reduceEqDiff, Nat.reduceAdd, Nat.reduceMul, Nat.reduceSub, Nat.reduceLeDiff, Nat.reduceBEq, Nat.reduceDiv, Nat.reduceMod, Int.reduceToNat, Int.reduceLT, Int.reduceLE, Int.reduceAdd, Int.reduceSub, Int.reduceMul, Int.reduceEq, Int.reduceNeg, reduceCtorEq, resV, resAll, ARes.ev, LV.flat, ite_true, ite_false, exists_eq_left', exists_eq_left, keyOf, implies_true, fillC, capOf]
      refine callK_of g_within ?_
      simp (disch := omega) only [↓SXd, SXu, slBounds, ↓sop, ↓aop, ↓reduceIte, LV.cells, AOp.dst, LV.I, LV.B, LV.U, LV.S, LV.nil, Nat.reduceEqDiff, Nat.reduceAdd, Nat.reduceMul, Nat.reduceSub, Nat.reduceLeDiff, Nat.reduceBEq, Nat.reduceDiv, Nat.reduceMod, Int.reduceToNat, Int.reduceLT, Int.reduceLE, Int.reduceAdd, Int.reduceSub, Int.reduceMul, Int.reduceEq, Int.reduceNeg, reduceCtorEq, resV, resAll, ARes.ev, LV.flat, ite_true, ite_false, exists_eq_left', exists_eq_left, keyOf, implies_true, fillC, capOf]
      exact cmp_drop rfl
    · simp (disch := omega) only [h2, false_and, ↓SXd, SXu, slBounds, ↓sop, ↓aop, ↓reduceIte, LV.cells, AOp.dst, LV.I, LV.B, LV.U, LV.S, LV.nil, Nat.reduceEqDiff, Nat.reduceAdd, Nat.reduceMul, Nat.reduceSub, Nat.reduceLeDiff, Nat.reduceBEq, Nat.reduceDiv, Nat.reduceMod, Int.reduceToNat, Int.reduceLT, Int.reduceLE, Int.reduceAdd, Int.reduceSub, Int.reduceMul, Int.reduceEq, Int.reduceNeg, reduceCtorEq, resV, resAll, ARes.ev, LV.flat, ite_true, ite_false, exists_eq_left', exists_eq_left, keyOf, implies_true, fillC, capOf]
      exact cmp_drop rfl
  · simp (disch := omega) only [h1, false_and, ↓SXd, SXu, slBounds, ↓sop, ↓aop, ↓reduceIte, LV.cells, AOp.dst, LV.I, LV.B, LV.U, LV.S, LV.nil, Nat.reduceEqDiff, Nat.reduceAdd, Nat.reduceMul, Nat.reduceSub, Nat.reduceLeDiff, Nat.reduceBEq, Nat.reduceDiv, Nat.reduceMod, Int.reduceToNat, Int.reduceLT, Int.reduceLE, Int.reduceAdd, Int.reduceSub, Int.reduceMul, Int.reduceEq, Int.reduceNeg, reduceCtorEq, resV, resAll, ARes.ev, LV.flat, ite_true, ite_false, exists_eq_left', exists_eq_left, keyOf, implies_true, fillC, capOf]
    exact cmp_drop rfl

theorem g_has {x y z a b c : Int} {M : Mem} (hS : Sides x y z) : CallsTo PG F.impl_box_has [.agg [.I x, .I y, .I z], .agg [.I a, .I b, .I c]] M (.B (decide (Cell.inBox x y z ⟨a, b, c⟩))) M := by
  obtain ⟨hx, hy, hz⟩ := hS
  refine calls_run K.impl_box_has rfl ?_
  simp (disch := omega) only [C.impl_box_has, ↓SXd, SXu, slBounds, ↓sop, ↓aop, ↓reduceIte, LV.cells, AOp.dst, LV.I, LV.B, LV.U, LV.S, LV.nil, Nat.reduceEqDiff, Nat.reduceAdd, Nat.reduceMul, Nat.reduceSub, Nat.reduceLeDiff, Nat.reduceBEq, Nat.reduceDiv, Nat.reduceMod, Int.reduceToNat, Int.reduceLT, Int.reduceLE, Int.reduceAdd, Int.reduceSub, Int.reduceMul, Int.reduceEq, Int.reduceNeg, reduceCtorEq, resV, resAll, ARes.ev, LV.flat, ite_true, ite_false, exists_eq_left', exists_eq_left, keyOf, implies_true, fillC, capOf]
  refine callK_of g_within ?_
  simp (disch := omega) only [↓SXd, SXu, slBounds, ↓sop, ↓aop, ↓reduceIte, LV.cells, AOp.dst, LV.I, LV.B, LV.U, LV.S, LV.nil, Nat.reduceEqDiff, Nat.reduceAdd, Nat.reduceMul, Nat.reduceSub, Nat.reduceLeDiff, Nat.reduceBEq, Nat.reduceDiv, Nat.reduceMod, Int.reduceToNat, Int.reduceLT, Int.reduceLE, Int.reduceAdd, Int.reduceSub, Int.reduceMul, Int.reduceEq, Int.reduceNeg, reduceCtorEq, resV, resAll, ARes.ev, LV.flat, ite_true, ite_false, exists_eq_left', exists_eq_left, keyOf, implies_true, fillC, capOf]
  unfold Cell.inBox
  by_cases h1 : 0 ≤ a ∧ a ≤ x - 1
  · simp (disch := omega) only [h1, ↓SXd, SXu, slBounds, ↓sop, ↓aop, ↓reduceIte, LV.cells, AOp.dst, LV.I, LV.B, LV.U, LV.S, LV.nil, Nat.reduceEqDiff, Nat.reduceAdd, Nat.reduceMul, Nat.reduceSub, Nat.reduceLeDiff, Nat.reduceBEq, Nat.reduceDiv, Nat.reduceMod, Int.reduceToNat, Int.reduceLT, Int.reduceLE, Int.reduceAdd, Int.reduceSub, Int.reduceMul, Int.reduceEq, Int.reduceNeg, reduceCtorEq, resV, resAll, ARes.ev, LV.flat, ite_true, ite_false, exists_eq_left', exists_eq_left, keyOf, implies_true, fillC, capOf]
    refine callK_of g_within ?_
    simp (disch := omega) only [↓SXd, SXu, slBounds, ↓sop, ↓aop, ↓reduceIte, LV.cells, AOp.dst, LV.I, LV.B, LV.U, LV.S, LV.nil, Nat.reduceEqDiff, Nat.reduceAdd, Nat.reduceMul, Nat.reduceSub, Nat.reduceLeDiff, Nat.reduceBEq, Nat.reduceDiv, Nat.reduceMod, Int.reduceToNat, Int.reduceLT, Int.reduceLE, Int.reduceAdd, Int.reduceSub, Int.reduceMul, Int.reduceEq, Int.reduceNeg, reduceCtorEq, resV, resAll, ARes.ev, LV.flat, ite_true, ite_false, exists_eq_left', exists_eq_left, keyOf, implies_true, fillC, capOf]
    by_cases h2 : 0 ≤ b ∧ b ≤ y - 1
    · simp (disch := omega) only [h2, ↓SXd, SXu, slBounds, ↓sop, ↓aop, ↓reduceIte, LV.cells, AOp.dst, LV.I, LV.B, LV.U, LV.S, LV.nil, Nat.reduceEqDiff, Nat.reduceAdd, Nat.reduceMul, Nat.reduceSub, Nat.reduceLeDiff, Nat.reduceBEq, Nat.reduceDiv, Nat.reduceMod, Int.reduceToNat, Int.reduceLT, Int.reduceLE, Int.reduceAdd, Int.reduceSub, Int.reduceMul, Int.reduceEq, Int.reduceNeg, reduceCtorEq, resV, resAll, ARes.ev, LV.flat, ite_true, ite_false, exists_eq_left', exists_eq_left, keyOf, implies_true, fillC, capOf]
      refine callK_of g_within ?_
      simp (disch := omega) only [↓SXd, SXu, slBounds, ↓sop, ↓aop, ↓reduceIte, LV.cells, AOp.dst, LV.I, LV.B, LV.U, LV.S, LV.nil, Nat.reduceEqDiff, Nat.reduceAdd, Nat.reduceMul, Nat.reduceSub, Nat.reduceLeDiff, Nat.reduceBEq, Nat.reduceDiv, Nat.reduceMod, Int.reduceToNat, Int.reduceLT, Int.reduceLE, Int.reduceAdd, Int.reduceSub, Int.reduceMul, Int.reduceEq, Int.reduceNeg, reduceCtorEq, resV, resAll, ARes.ev, LV.flat, ite_true, ite_false, exists_eq_left', exists_eq_left, keyOf, implies_true, fillC, capOf]
      exact cmp_drop rfl
    · simp (disch := omega) only [h2, false_and, ↓SXd, SXu, slBounds, ↓sop, ↓aop, ↓reduceIte, LV.cells, AOp.dst, LV.I, LV.B, LV.U, LV.S, LV.nil, Nat.reduceEqDiff, Nat.reduceAdd, Nat.reduceMul, Nat.reduceSub, Nat.reduceLeDiff, Nat.reduceBEq, Nat.reduceDiv, Nat.reduceMod, Int.reduceToNat, Int.reduceLT, Int.reduceLE, Int.reduceAdd, Int.reduceSub, Int.reduceMul, Int.reduceEq, Int.reduceNeg, reduceCtorEq, resV, resAll, ARes.ev, LV.flat, ite_true, ite_false, exists_eq_left', exists_eq_left, keyOf, implies_true, fillC, capOf]
      exact cmp_drop rfl
  · simp (disch := omega) only [h1, false_and, ↓SXd, SXu, slBounds, ↓sop, ↓aop, ↓reduceIte, LV.cells, AOp.dst, LV.I, LV.B, LV.U, LV.S, LV.nil, Nat.reduceEqDiff, Nat.reduceAdd, Nat.reduceMul, Nat.reduceSub, Nat.reduceLeDiff, Nat.reduceBEq, Nat.reduceDiv, Nat.reduceMod, Int.reduceToNat, Int.reduceLT, Int.reduceLE, Int.reduceAdd, Int.reduceSub, Int.reduceMul, Int.reduceEq, Int.reduceNeg, reduceCtorEq, resV, resAll, ARes.ev, LV.flat, ite_true, ite_false, exists_eq_left', exists_eq_left, keyOf, implies_true, fillC, capOf]
    exact cmp_drop rfl

theorem g_isNaN {n : Int} {M : Mem} : CallsTo PG F.cmp_isNaN_int [.I n] M (.B false) M := by
  refine calls_run K.cmp_isNaN_int rfl ?_
  simp (disch := omega) only [C.cmp_isNaN_int, ↓SXd, SXu, slBounds, ↓sop, ↓aop, ↓reduceIte, LV.cells, AOp.dst, LV.I, LV.B, LV.U, LV.S, LV.nil, Nat.reduceEqDiff, Nat.reduceAdd, Nat.reduceMul, Nat.reduceSub, Nat.reduceLeDiff, Nat.reduceBEq, Nat.reduceDiv, Nat.reduceMod, Int.reduceToNat, Int.reduceLT, Int.reduceLE, Int.reduceAdd, Int.reduceSub, Int.reduceMul, Int.reduceEq, Int.reduceNeg, reduceCtorEq, resV, resAll, ARes.ev, LV.flat, ite_true, ite_false, exists_eq_left', exists_eq_left, keyOf, implies_true, fillC, capOf]
  exact cmp_drop0 rfl

def cmpI (a b : Int) : Int := if a < b then -1 else if b < a then 1 else 0
theorem g_cmp {a b : Int} {M : Mem} : CallsTo PG F.cmp_Compare_int [.I a, .I b] M (.I (cmpI a b)) M := by
  refine calls_run K.cmp_Compare_int rfl ?_
  simp (disch := omega) only [C.cmp_Compare_int, ↓SXd, SXu, slBounds, ↓sop, ↓aop, ↓reduceIte, LV.cells, AOp.dst, LV.I, LV.B, LV.U, LV.S, LV.nil, Nat.reduceEqDiff, Nat.reduceAdd, Nat.reduceMul, Nat.reduceSub, Nat.reduceLeDiff, Nat.reduceBEq, Nat.reduceDiv, Nat.reduceMod, Int.reduceToNat, Int.reduceLT, Int.reduceLE, Int.reduceAdd, Int.reduceSub, Int.reduceMul, Int.reduceEq, Int.reduceNeg, reduceCtorEq, resV, resAll, ARes.ev, LV.flat, ite_true, ite_false, exists_eq_left', exists_eq_left, keyOf, implies_true, fillC, capOf]
  refine callK_of g_isNaN ?_
  simp (disch := omega) only [↓SXd, SXu, slBounds, ↓sop, ↓aop, ↓reduceIte, LV.cells, AOp.dst, LV.I, LV.B, LV.U, LV.S, LV.nil, Nat.reduceEqDiff, Nat.reduceAdd, Nat.reduceMul, Nat.reduceSub, Nat.reduceLeDiff, Nat.reduceBEq, Nat.reduceDiv, Nat.reduceMod, Int.reduceToNat, Int.reduceLT, Int.reduceLE, Int.reduceAdd, Int.reduceSub, Int.reduceMul, Int.reduceEq, Int.reduceNeg, reduceCtorEq, resV, resAll, ARes.ev, LV.flat, ite_true, ite_false, exists_eq_left', exists_eq_left, keyOf, implies_true, fillC, capOf]
  refine callK_of g_isNaN ?_
  simp (disch := omega) only [↓SXd, SXu, slBounds, ↓sop, ↓aop, ↓reduceIte, LV.cells, AOp.dst, LV.I, LV.B, LV.U, LV.S, LV.nil, Nat.reduceEqDiff, Nat.reduceAdd, Nat.reduceMul, Nat.reduceSub, Nat.reduceLeDiff, Nat.reduceBEq, Nat.reduceDiv, Nat.reduceMod, Int.reduceToNat, Int.reduceLT, Int.reduceLE, Int.reduceAdd, Int.reduceSub, Int.reduceMul, Int.reduceEq, Int.reduceNeg, reduceCtorEq, resV, resAll, ARes.ev, LV.flat, ite_true, ite_false, exists_eq_left', exists_eq_left, keyOf, implies_true, fillC, capOf]
  refine condC_dec (fun h1 => ?_) (fun h1 => ?_) <;> simp (disch := omega) only [↓SXd, SXu, slBounds, ↓sop, ↓aop, ↓reduceIte, LV.cells, AOp.dst, LV.I, LV.B, LV.U, LV.S, LV.nil, Nat.reduceEqDiff, Nat.reduceAdd, Nat.reduceMul, Nat.reduceSub, Nat.reduceLeDiff, Nat.reduceBEq, Nat.reduceDiv, Nat.reduceMod, Int.reduceToNat, Int.reduceLT, Int.reduceLE, Int.reduceAdd, Int.reduceSub, Int.reduceMul, Int.reduceEq, Int.reduceNeg, reduceCtorEq, resV, resAll, ARes.ev, LV.flat, ite_true, ite_false, exists_eq_left', exists_eq_left, keyOf, implies_true, fillC, capOf]
  · rw [show cmpI a b = -1 by simp [cmpI, h1]]; exact cmp_drop0 rfl
  · refine condC_dec (fun h2 => ?_) (fun h2 => ?_) <;> simp (disch := omega) only [↓SXd, SXu, slBounds, ↓sop, ↓aop, ↓reduceIte, LV.cells, AOp.dst, LV.I, LV.B, LV.U, LV.S, LV.nil, Nat.reduceEqDiff, Nat.reduceAdd, Nat.reduceMul, Nat.reduceSub, Nat.reduceLeDiff, Nat.reduceBEq, Nat.reduceDiv, Nat.reduceMod, Int.reduceToNat, Int.reduceLT, Int.reduceLE, Int.reduceAdd, Int.reduceSub, Int.reduceMul, Int.reduceEq, Int.reduceNeg, reduceCtorEq, resV, resAll, ARes.ev, LV.flat, ite_true, ite_false, exists_eq_left', exists_eq_left, keyOf, implies_true, fillC, capOf]
    · rw [show cmpI a b = 1 by simp [cmpI, h1, h2]]; exact cmp_drop0 rfl
    · rw [show cmpI a b = 0 by simp [cmpI, h1, h2]]; exact cmp_drop0 rfl

/-- Two lists of numbers, compared. -/
def cmpL : List Int → List Int → Int
  | [], [] => 0
  | [], _ :: _ => -1
  | _ :: _, [] => 1
  | a :: r, b :: r' => if cmpI a b = 0 then cmpL r r' else cmpI a b

theorem g_compare {xs ys : List Int} {t o t' o' : Nat} {M : Mem} (h : Ints M t o xs) (h' : Ints M t' o' ys) (hn : xs.length ≤ 1000000000) (hn' : ys.length ≤ 1000000000) :
    CallsTo PG F.slices_Compare_Sint_int [.ref t o xs.length, .ref t' o' ys.length] M (.I (cmpL xs ys)) M := by
  refine calls_run K.slices_Compare_Sint_int rfl ?_
  simp (disch := omega) only [C.slices_Compare_Sint_int, ↓SXd, SXu, slBounds, ↓sop, ↓aop, ↓reduceIte, LV.cells, AOp.dst, LV.I, LV.B, LV.U, LV.S, LV.nil, Nat.reduceEqDiff, Nat.reduceAdd, Nat.reduceMul, Nat.reduceSub, Nat.reduceLeDiff, Nat.reduceBEq, Nat.reduceDiv, Nat.reduceMod, Int.reduceToNat, Int.reduceLT, Int.reduceLE, Int.reduceAdd, Int.reduceSub, Int.reduceMul, Int.reduceEq, Int.reduceNeg, reduceCtorEq, resV, resAll, ARes.ev, LV.flat, ite_true, ite_false, exists_eq_left', exists_eq_left, keyOf, implies_true, fillC, capOf]
  refine ev_loop (fun m fr M' => ∃ k : Nat, k + m = xs.length ∧ M' = M ∧ k ≤ ys.length ∧ fr 0 = .ref t o xs.length ∧ fr 1 = .ref t' o' ys.length ∧ fr 9 = .ref t o xs.length ∧ fr 10 = .I (xs.length : Nat) ∧ fr 11 = .I k ∧ cmpL xs ys = cmpL (xs.drop k) (ys.drop k)) xs.length
    ⟨0, by omega, rfl, by omega, rfl, rfl, rfl, rfl, rfl, rfl⟩ ?_
  rintro m fr M' ⟨k, hk, rfl, hky, h0, h1, h9, h10, h11, he⟩
  simp (disch := omega) only [h0, h1, h9, h10, h11, ↓SXd, SXu, slBounds, ↓sop, ↓aop, ↓reduceIte, LV.cells, AOp.dst, LV.I, LV.B, LV.U, LV.S, LV.nil, Nat.reduceEqDiff, Nat.reduceAdd, Nat.reduceMul, Nat.reduceSub, Nat.reduceLeDiff, Nat.reduceBEq, Nat.reduceDiv, Nat.reduceMod, Int.reduceToNat, Int.reduceLT, Int.reduceLE, Int.reduceAdd, Int.reduceSub, Int.reduceMul, Int.reduceEq, Int.reduceNeg, reduceCtorEq, resV, resAll, ARes.ev, LV.flat, ite_true, ite_false, exists_eq_left', exists_eq_left, keyOf, implies_true, fillC, capOf]
  refine condC_dec (fun hlt => ?_) (fun hlt => ?_)
  · have hx : xs.drop k = xs.getD k 0 :: xs.drop (k + 1) := by
      rw [List.drop_eq_getElem_cons (show k < xs.length by omega)]; simp [show k < xs.length by omega]
    simp (disch := omega) only [h0, h1, h9, h10, h11, Ints.get h, ↓SXd, SXu, slBounds, ↓sop, ↓aop, ↓reduceIte, LV.cells, AOp.dst, LV.I, LV.B, LV.U, LV.S, LV.nil, Nat.reduceEqDiff, Nat.reduceAdd, Nat.reduceMul, Nat.reduceSub, Nat.reduceLeDiff, Nat.reduceBEq, Nat.reduceDiv, Nat.reduceMod, Int.reduceToNat, Int.reduceLT, Int.reduceLE, Int.reduceAdd, Int.reduceSub, Int.reduceMul, Int.reduceEq, Int.reduceNeg, reduceCtorEq, resV, resAll, ARes.ev, LV.flat, ite_true, ite_false, exists_eq_left', exists_eq_left, keyOf, implies_true, fillC, capOf]
    refine condC_dec (fun h2 => ?_) (fun h2 => ?_)
    · simp (disch := omega) only [h0, h1, h9, h10, h11, ↓SXd, SXu, slBounds, ↓sop, ↓aop, ↓reduceIte, LV.cells, AOp.dst, LV.I, LV.B, LV.U, LV.S, LV.nil, Nat.reduceEqDiff, Nat.reduceAdd, Nat.reduceMul, Nat.reduceSub, Nat.reduceLeDiff, Nat.reduceBEq, Nat.reduceDiv, Nat.reduceMod, Int.reduceToNat, Int.reduceLT, Int.reduceLE, Int.reduceAdd, Int.reduceSub, Int.reduceMul, Int.reduceEq, Int.reduceNeg, reduceCtorEq, resV, resAll, ARes.ev, LV.flat, ite_true, ite_false, exists_eq_left', exists_eq_left, keyOf, implies_true, fillC, capOf]
      have : ys.drop k = [] := List.drop_eq_nil_of_le (by omega)
      rw [he, hx, this]; exact cmp_drop0 rfl
    · have hy : ys.drop k = ys.getD k 0 :: ys.drop (k + 1) := by
        rw [List.drop_eq_getElem_cons (show k < ys.length by omega)]; simp [show k < ys.length by omega]
      simp (disch := omega) only [h0, h1, h9, h10, h11, Ints.get h, Ints.get h', ↓SXd, SXu, slBounds, ↓sop, ↓aop, ↓reduceIte, LV.cells, AOp.dst, LV.I, LV.B, LV.U, LV.S, LV.nil, Nat.reduceEqDiff, Nat.reduceAdd, Nat.reduceMul, Nat.reduceSub, Nat.reduceLeDiff, Nat.reduceBEq, Nat.reduceDiv, Nat.reduceMod, Int.reduceToNat, Int.reduceLT, Int.reduceLE, Int.reduceAdd, Int.reduceSub, Int.reduceMul, Int.reduceEq, Int.reduceNeg, reduceCtorEq, resV, resAll, ARes.ev, LV.flat, ite_true, ite_false, exists_eq_left', exists_eq_left, keyOf, implies_true, fillC, capOf]
      refine callK_of g_cmp ?_
      simp (disch := omega) only [h0, h1, h9, h10, h11, ↓SXd, SXu, slBounds, ↓sop, ↓aop, ↓reduceIte, LV.cells, AOp.dst, LV.I, LV.B, LV.U, LV.S, LV.nil, Nat.reduceEqDiff, Nat.reduceAdd, Nat.reduceMul, Nat.reduceSub, Nat.reduceLeDiff, Nat.reduceBEq, Nat.reduceDiv, Nat.reduceMod, Int.reduceToNat, Int.reduceLT, Int.reduceLE, Int.reduceAdd, Int.reduceSub, Int.reduceMul, Int.reduceEq, Int.reduceNeg, reduceCtorEq, resV, resAll, ARes.ev, LV.flat, ite_true, ite_false, exists_eq_left', exists_eq_left, keyOf, implies_true, fillC, capOf]
      refine condC_dec (fun h3 => ?_) (fun h3 => ?_)
      · simp (disch := omega) only [h0, h1, h9, h10, h11, ↓SXd, SXu, slBounds, ↓sop, ↓aop, ↓reduceIte, LV.cells, AOp.dst, LV.I, LV.B, LV.U, LV.S, LV.nil, Nat.reduceEqDiff, Nat.reduceAdd, Nat.reduceMul, Nat.reduceSub, Nat.reduceLeDiff, Nat.reduceBEq, Nat.reduceDiv, Nat.reduceMod, Int.reduceToNat, Int.reduceLT, Int.reduceLE, Int.reduceAdd, Int.reduceSub, Int.reduceMul, Int.reduceEq, Int.reduceNeg, reduceCtorEq, resV, resAll, ARes.ev, LV.flat, ite_true, ite_false, exists_eq_left', exists_eq_left, keyOf, implies_true, fillC, capOf]
        exact ⟨m - 1, by omega, k + 1, by omega, rfl, by omega, h0, h1, h9, h10, eqI (natI _), by rw [he, hx, hy, cmpL, if_pos h3]⟩
      · simp (disch := omega) only [h0, h1, h9, h10, h11, ↓SXd, SXu, slBounds, ↓sop, ↓aop, ↓reduceIte, LV.cells, AOp.dst, LV.I, LV.B, LV.U, LV.S, LV.nil, Nat.reduceEqDiff, Nat.reduceAdd, Nat.reduceMul, Nat.reduceSub, Nat.reduceLeDiff, Nat.reduceBEq, Nat.reduceDiv, Nat.reduceMod, Int.reduceToNat, Int.reduceLT, Int.reduceLE, Int.reduceAdd, Int.reduceSub, Int.reduceMul, Int.reduceEq, Int.reduceNeg, reduceCtorEq, resV, resAll, ARes.ev, LV.flat, ite_true, ite_false, exists_eq_left', exists_eq_left, keyOf, implies_true, fillC, capOf]
        rw [he, hx, hy, cmpL, if_neg h3]; exact cmp_drop0 rfl
  · simp (disch := omega) only [h0, h1, h9, h10, h11, ↓SXd, SXu, slBounds, ↓sop, ↓aop, ↓reduceIte, LV.cells, AOp.dst, LV.I, LV.B, LV.U, LV.S, LV.nil, Nat.reduceEqDiff, Nat.reduceAdd, Nat.reduceMul, Nat.reduceSub, Nat.reduceLeDiff, Nat.reduceBEq, Nat.reduceDiv, Nat.reduceMod, Int.reduceToNat, Int.reduceLT, Int.reduceLE, Int.reduceAdd, Int.reduceSub, Int.reduceMul, Int.reduceEq, Int.reduceNeg, reduceCtorEq, resV, resAll, ARes.ev, LV.flat, ite_true, ite_false, exists_eq_left', exists_eq_left, keyOf, implies_true, fillC, capOf]
    have hx : xs.drop k = [] := List.drop_eq_nil_of_le (by omega)
    refine condC_dec (fun h2 => ?_) (fun h2 => ?_) <;> simp (disch := omega) only [h0, h1, h9, h10, h11, ↓SXd, SXu, slBounds, ↓sop, ↓aop, ↓reduceIte, LV.cells, AOp.dst, LV.I, LV.B, LV.U, LV.S, LV.nil, Nat.reduceEqDiff, Nat.reduceAdd, Nat.reduceMul, Nat.reduceSub, Nat.reduceLeDiff, Nat.reduceBEq, Nat.reduceDiv, Nat.reduceMod, Int.reduceToNat, Int.reduceLT, Int.reduceLE, Int.reduceAdd, Int.reduceSub, Int.reduceMul, Int.reduceEq, Int.reduceNeg, reduceCtorEq, resV, resAll, ARes.ev, LV.flat, ite_true, ite_false, exists_eq_left', exists_eq_left, keyOf, implies_true, fillC, capOf]
    · have hy : ys.drop k = ys.getD k 0 :: ys.drop (k + 1) := by
        rw [List.drop_eq_getElem_cons (show k < ys.length by omega)]; simp [show k < ys.length by omega]
      rw [he, hx, hy]; exact cmp_drop0 rfl
    · have hy : ys.drop k = [] := List.drop_eq_nil_of_le (by omega)
      rw [he, hx, hy]; exact cmp_drop0 rfl

theorem cmpL_lt {a b c a' b' c' : Int} : 0 ≤ cmpL [a, b, c] [a', b', c'] ↔ ¬ Cell.lt ⟨a, b, c⟩ ⟨a', b', c'⟩ := by
  have hc : ∀ a b : Int, cmpI a b = if a < b then -1 else if b < a then 1 else 0 := fun _ _ => rfl
  simp only [cmpL, hc, Cell.lt]
  by_cases h1 : a < a' <;> by_cases h2 : a' < a <;> by_cases h3 : b < b' <;> by_cases h4 : b' < b <;> by_cases h5 : c < c' <;> by_cases h6 : c' < c <;> simp only [h1, h2, h3, h4, h5, h6, if_true, if_false] <;> simp <;> omega

theorem g_compareCells {a b c a' b' c' : Int} {M : Mem} : CallsTo PG F.impl_compareCells [.agg [.I a, .I b, .I c], .agg [.I a', .I b', .I c']] M (.I (cmpL [a, b, c] [a', b', c'])) M := by
  refine calls_run K.impl_compareCells rfl ?_
  simp (disch := omega) only [C.impl_compareCells, slBounds, Option.isSome_some, and_self, if_true, ↓SXd, SXu, slBounds, ↓sop, ↓aop, ↓reduceIte, LV.cells, AOp.dst, LV.I, LV.B, LV.U, LV.S, LV.nil, Nat.reduceEqDiff, Nat.reduceAdd, Nat.reduceMul, Nat.reduceSub, Nat.reduceLeDiff, Nat.reduceBEq, Nat.reduceDiv, Nat.reduceMod, Int.reduceToNat, Int.reduceLT, Int.reduceLE, Int.reduceAdd, Int.reduceSub, Int.reduceMul, Int.reduceEq, Int.reduceNeg, reduceCtorEq, resV, resAll, ARes.ev, LV.flat, ite_true, ite_false, exists_eq_left', exists_eq_left, keyOf, implies_true, fillC, capOf]
  refine callK_of (g_compare (xs := [a, b, c]) (ys := [a', b', c']) (o := 0) (o' := 0) (Live.new (b := .row (intL [a, b, c]) true 0)).has (Live.newj (j := 1) (b := .row (intL [a', b', c']) true 0) rfl).has (by simp) (by simp)) ?_
  simp (disch := omega) only [↓SXd, SXu, slBounds, ↓sop, ↓aop, ↓reduceIte, LV.cells, AOp.dst, LV.I, LV.B, LV.U, LV.S, LV.nil, Nat.reduceEqDiff, Nat.reduceAdd, Nat.reduceMul, Nat.reduceSub, Nat.reduceLeDiff, Nat.reduceBEq, Nat.reduceDiv, Nat.reduceMod, Int.reduceToNat, Int.reduceLT, Int.reduceLE, Int.reduceAdd, Int.reduceSub, Int.reduceMul, Int.reduceEq, Int.reduceNeg, reduceCtorEq, resV, resAll, ARes.ev, LV.flat, ite_true, ite_false, exists_eq_left', exists_eq_left, keyOf, implies_true, fillC, capOf]
  exact cmp_drop rfl

theorem g_IsHeap {x y z : Int} {t o : Nat} {cs : List Cell} {M : Mem} (h : Tri M t o cs) (hn : cs.length ≤ 1000000000) :
    CallsTo PG F.impl_IsHeap [.agg [.I x, .I y, .I z, .ref t o cs.length]] M (.B (decide (HeapOK x y z cs))) M := by
  refine calls_run K.impl_IsHeap rfl ?_
  simp (disch := omega) only [C.impl_IsHeap, ↓SXd, SXu, slBounds, ↓sop, ↓aop, ↓reduceIte, LV.cells, AOp.dst, LV.I, LV.B, LV.U, LV.S, LV.nil, Nat.reduceEqDiff, Nat.reduceAdd, Nat.reduceMul, Nat.reduceSub, Nat.reduceLeDiff, Nat.reduceBEq, Nat.reduceDiv, Nat.reduceMod, Int.reduceToNat, Int.reduceLT, Int.reduceLE, Int.reduceAdd, Int.reduceSub, Int.reduceMul, Int.reduceEq, Int.reduceNeg, reduceCtorEq, resV, resAll, ARes.ev, LV.flat, ite_true, ite_false, exists_eq_left', exists_eq_left, keyOf, implies_true, fillC, capOf]
  refine callK_of g_box ?_
  simp (disch := omega) only [↓SXd, SXu, slBounds, ↓sop, ↓aop, ↓reduceIte, LV.cells, AOp.dst, LV.I, LV.B, LV.U, LV.S, LV.nil, Nat.reduceEqDiff, Nat.reduceAdd, Nat.reduceMul, Nat.reduceSub, Nat.reduceLeDiff, Nat.reduceBEq, Nat.reduceDiv, Nat.reduceMod, Int.reduceToNat, Int.reduceLT, Int.reduceLE, Int.reduceAdd, Int.reduceSub, Int.reduceMul, Int.reduceEq, Int.reduceNeg, reduceCtorEq, resV, resAll, ARes.ev, LV.flat, ite_true, ite_false, exists_eq_left', exists_eq_left, keyOf, implies_true, fillC, capOf]
  refine callK_of g_valid ?_
  simp (disch := omega) only [↓SXd, SXu, slBounds, ↓sop, ↓aop, ↓reduceIte, LV.cells, AOp.dst, LV.I, LV.B, LV.U, LV.S, LV.nil, Nat.reduceEqDiff, Nat.reduceAdd, Nat.reduceMul, Nat.reduceSub, Nat.reduceLeDiff, Nat.reduceBEq, Nat.reduceDiv, Nat.reduceMod, Int.reduceToNat, Int.reduceLT, Int.reduceLE, Int.reduceAdd, Int.reduceSub, Int.reduceMul, Int.reduceEq, Int.reduceNeg, reduceCtorEq, resV, resAll, ARes.ev, LV.flat, ite_true, ite_false, exists_eq_left', exists_eq_left, keyOf, implies_true, fillC, capOf]
  by_cases hS : Sides x y z
  · simp (disch := omega) only [hS, ↓SXd, SXu, slBounds, ↓sop, ↓aop, ↓reduceIte, LV.cells, AOp.dst, LV.I, LV.B, LV.U, LV.S, LV.nil, Nat.reduceEqDiff, Nat.reduceAdd, Nat.reduceMul, Nat.reduceSub, Nat.reduceLeDiff, Nat.reduceBEq, Nat.reduceDiv, Nat.reduceMod, Int.reduceToNat, Int.reduceLT, Int.reduceLE, Int.reduceAdd, Int.reduceSub, Int.reduceMul, Int.reduceEq, Int.reduceNeg, reduceCtorEq, resV, resAll, ARes.ev, LV.flat, ite_true, ite_false, exists_eq_left', exists_eq_left, keyOf, implies_true, fillC, capOf]
    refine ev_loop (fun m fr M' => ∃ k : Nat, k + m = cs.length ∧ Pre M M' ∧ Live M' M.length (.row [.I x, .I y, .I z, .ref t o cs.length] true 0) ∧ fr 1 = .ptr M.length 0 ∧ fr 10 = .ref t o cs.length ∧ fr 11 = .I (cs.length : Nat) ∧ fr 12 = .I k ∧
      ∀ j, j < k → (cs.getD j default).inBox x y z ∧ (0 < j → (cs.getD (j - 1) default).lt (cs.getD j default))) cs.length ⟨0, by omega, Pre.app _ _, Live.new, rfl, rfl, rfl, rfl, by omega⟩ ?_
    rintro m fr M' ⟨k, hk, hpre, hbox, h1, h10, h11, h12, hj⟩
    have h' : Tri M' t o cs := h.pre hpre
    have ht := h'.lt
    simp (disch := omega) only [h1, h10, h11, h12, ↓SXd, SXu, slBounds, ↓sop, ↓aop, ↓reduceIte, LV.cells, AOp.dst, LV.I, LV.B, LV.U, LV.S, LV.nil, Nat.reduceEqDiff, Nat.reduceAdd, Nat.reduceMul, Nat.reduceSub, Nat.reduceLeDiff, Nat.reduceBEq, Nat.reduceDiv, Nat.reduceMod, Int.reduceToNat, Int.reduceLT, Int.reduceLE, Int.reduceAdd, Int.reduceSub, Int.reduceMul, Int.reduceEq, Int.reduceNeg, reduceCtorEq, resV, resAll, ARes.ev, LV.flat, ite_true, ite_false, exists_eq_left', exists_eq_left, keyOf, implies_true, fillC, capOf]
    refine condC_dec (fun hlt => ?_) (fun hlt => ?_)
    · have hbox' : ∀ {L : Mem} {o n : Nat}, getCells (M' ++ L) M.length o n = _ := fun {L o n} => (hbox.app (L := L)).cells
      have hboxc : ∀ {L : Mem} {o : Nat}, getCell (M' ++ L) M.length o = _ := fun {L o} => (hbox.app (L := L)).cell
      simp (disch := omega) only [h1, h10, h11, h12, Tri.get h', Cell.row, hbox', hboxc, ↓SXd, SXu, slBounds, ↓sop, ↓aop, ↓reduceIte, LV.cells, AOp.dst, LV.I, LV.B, LV.U, LV.S, LV.nil, Nat.reduceEqDiff, Nat.reduceAdd, Nat.reduceMul, Nat.reduceSub, Nat.reduceLeDiff, Nat.reduceBEq, Nat.reduceDiv, Nat.reduceMod, Int.reduceToNat, Int.reduceLT, Int.reduceLE, Int.reduceAdd, Int.reduceSub, Int.reduceMul, Int.reduceEq, Int.reduceNeg, reduceCtorEq, resV, resAll, ARes.ev, LV.flat, ite_true, ite_false, exists_eq_left', exists_eq_left, keyOf, implies_true, fillC, capOf]
      refine callK_of g_box ?_
      simp (disch := omega) only [h1, h10, h11, h12, Tri.get h', Cell.row, hbox', hboxc, ↓SXd, SXu, slBounds, ↓sop, ↓aop, ↓reduceIte, LV.cells, AOp.dst, LV.I, LV.B, LV.U, LV.S, LV.nil, Nat.reduceEqDiff, Nat.reduceAdd, Nat.reduceMul, Nat.reduceSub, Nat.reduceLeDiff, Nat.reduceBEq, Nat.reduceDiv, Nat.reduceMod, Int.reduceToNat, Int.reduceLT, Int.reduceLE, Int.reduceAdd, Int.reduceSub, Int.reduceMul, Int.reduceEq, Int.reduceNeg, reduceCtorEq, resV, resAll, ARes.ev, LV.flat, ite_true, ite_false, exists_eq_left', exists_eq_left, keyOf, implies_true, fillC, capOf]
      refine callK_of (g_has hS) ?_
      simp (disch := omega) only [h1, h10, h11, h12, Cell.row, cell_eta, ↓SXd, SXu, slBounds, ↓sop, ↓aop, ↓reduceIte, LV.cells, AOp.dst, LV.I, LV.B, LV.U, LV.S, LV.nil, Nat.reduceEqDiff, Nat.reduceAdd, Nat.reduceMul, Nat.reduceSub, Nat.reduceLeDiff, Nat.reduceBEq, Nat.reduceDiv, Nat.reduceMod, Int.reduceToNat, Int.reduceLT, Int.reduceLE, Int.reduceAdd, Int.reduceSub, Int.reduceMul, Int.reduceEq, Int.reduceNeg, reduceCtorEq, resV, resAll, ARes.ev, LV.flat, ite_true, ite_false, exists_eq_left', exists_eq_left, keyOf, implies_true, fillC, capOf]
      by_cases hin : (cs.getD k default).inBox x y z
      · by_cases hk0 : k = 0
        · subst hk0
          simp (disch := omega) only [hin, h1, h10, h11, h12, cell_eta, Int.natCast_zero, gt_iff_lt, Int.lt_irrefl, ↓SXd, SXu, slBounds, ↓sop, ↓aop, ↓reduceIte, LV.cells, AOp.dst, LV.I, LV.B, LV.U, LV.S, LV.nil, Nat.reduceEqDiff, Nat.reduceAdd, Nat.reduceMul, Nat.reduceSub, Nat.reduceLeDiff, Nat.reduceBEq, Nat.reduceDiv, Nat.reduceMod, Int.reduceToNat, Int.reduceLT, Int.reduceLE, Int.reduceAdd, Int.reduceSub, Int.reduceMul, Int.reduceEq, Int.reduceNeg, reduceCtorEq, resV, resAll, ARes.ev, LV.flat, ite_true, ite_false, exists_eq_left', exists_eq_left, keyOf, implies_true, fillC, capOf]
          exact ⟨m - 1, by omega, 1, by omega, Pre.app' hpre, hbox.app, h1, h10, h11, rfl, fun j hj1 => by
            have : j = 0 := by omega
            subst this
            exact ⟨hin, by omega⟩⟩
        · have e1 : ((k : Int) - 1).toNat = k - 1 := by omega
          have e2 : (0 : Int) < k := by omega
          simp (disch := omega) only [hin, h1, h10, h11, h12, getCells_app, Tri.get h', Cell.row, cell_eta, hbox', hboxc, e1, e2, ↓SXd, SXu, slBounds, ↓sop, ↓aop, ↓reduceIte, LV.cells, AOp.dst, LV.I, LV.B, LV.U, LV.S, LV.nil, Nat.reduceEqDiff, Nat.reduceAdd, Nat.reduceMul, Nat.reduceSub, Nat.reduceLeDiff, Nat.reduceBEq, Nat.reduceDiv, Nat.reduceMod, Int.reduceToNat, Int.reduceLT, Int.reduceLE, Int.reduceAdd, Int.reduceSub, Int.reduceMul, Int.reduceEq, Int.reduceNeg, reduceCtorEq, resV, resAll, ARes.ev, LV.flat, ite_true, ite_false, exists_eq_left', exists_eq_left, keyOf, implies_true, fillC, capOf]
          refine callK_of g_compareCells ?_
          simp (disch := omega) only [hin, h1, h10, h11, h12, cell_eta, ↓SXd, SXu, slBounds, ↓sop, ↓aop, ↓reduceIte, LV.cells, AOp.dst, LV.I, LV.B, LV.U, LV.S, LV.nil, Nat.reduceEqDiff, Nat.reduceAdd, Nat.reduceMul, Nat.reduceSub, Nat.reduceLeDiff, Nat.reduceBEq, Nat.reduceDiv, Nat.reduceMod, Int.reduceToNat, Int.reduceLT, Int.reduceLE, Int.reduceAdd, Int.reduceSub, Int.reduceMul, Int.reduceEq, Int.reduceNeg, reduceCtorEq, resV, resAll, ARes.ev, LV.flat, ite_true, ite_false, exists_eq_left', exists_eq_left, keyOf, implies_true, fillC, capOf]
          by_cases hb : (cs.getD (k - 1) default).lt (cs.getD k default)
          · have hb' : ¬ 0 ≤ cmpL [(cs.getD (k - 1) default).a, (cs.getD (k - 1) default).b, (cs.getD (k - 1) default).c] [(cs.getD k default).a, (cs.getD k default).b, (cs.getD k default).c] := fun e => (cmpL_lt.1 e) hb
            simp (disch := omega) only [hb', h1, h10, h11, h12, ↓SXd, SXu, slBounds, ↓sop, ↓aop, ↓reduceIte, LV.cells, AOp.dst, LV.I, LV.B, LV.U, LV.S, LV.nil, Nat.reduceEqDiff, Nat.reduceAdd, Nat.reduceMul, Nat.reduceSub, Nat.reduceLeDiff, Nat.reduceBEq, Nat.reduceDiv, Nat.reduceMod, Int.reduceToNat, Int.reduceLT, Int.reduceLE, Int.reduceAdd, Int.reduceSub, Int.reduceMul, Int.reduceEq, Int.reduceNeg, reduceCtorEq, resV, resAll, ARes.ev, LV.flat, ite_true, ite_false, exists_eq_left', exists_eq_left, keyOf, implies_true, fillC, capOf]
            exact ⟨m - 1, by omega, k + 1, by omega, Pre.app' hpre, hbox.app, h1, h10, h11, eqI (natI _), fun j hj1 => by
              by_cases hjk : j = k
              · subst hjk; exact ⟨hin, fun _ => hb⟩
              · exact hj j (by omega)⟩
          · have hb' : 0 ≤ cmpL [(cs.getD (k - 1) default).a, (cs.getD (k - 1) default).b, (cs.getD (k - 1) default).c] [(cs.getD k default).a, (cs.getD k default).b, (cs.getD k default).c] := cmpL_lt.2 hb
            simp (disch := omega) only [hb', h1, h10, h11, h12, ↓SXd, SXu, slBounds, ↓sop, ↓aop, ↓reduceIte, LV.cells, AOp.dst, LV.I, LV.B, LV.U, LV.S, LV.nil, Nat.reduceEqDiff, Nat.reduceAdd, Nat.reduceMul, Nat.reduceSub, Nat.reduceLeDiff, Nat.reduceBEq, Nat.reduceDiv, Nat.reduceMod, Int.reduceToNat, Int.reduceLT, Int.reduceLE, Int.reduceAdd, Int.reduceSub, Int.reduceMul, Int.reduceEq, Int.reduceNeg, reduceCtorEq, resV, resAll, ARes.ev, LV.flat, ite_true, ite_false, exists_eq_left', exists_eq_left, keyOf, implies_true, fillC, capOf]
            rw [decide_eq_false (fun hh : HeapOK x y z cs => hb ((hh.2 k (by omega)).2 (by omega)))]
            exact cmp_pre (Pre.app' hpre) rfl
      · simp (disch := omega) only [hin, h1, h10, h11, h12, ↓SXd, SXu, slBounds, ↓sop, ↓aop, ↓reduceIte, LV.cells, AOp.dst, LV.I, LV.B, LV.U, LV.S, LV.nil, Nat.reduceEqDiff, Nat.reduceAdd, Nat.reduceMul, Nat.reduceSub, Nat.reduceLeDiff, Nat.reduceBEq, Nat.reduceDiv, Nat.reduceMod, Int.reduceToNat, Int.reduceLT, Int.reduceLE, Int.reduceAdd, Int.reduceSub, Int.reduceMul, Int.reduceEq, Int.reduceNeg, reduceCtorEq, resV, resAll, ARes.ev, LV.flat, ite_true, ite_false, exists_eq_left', exists_eq_left, keyOf, implies_true, fillC, capOf]
        rw [decide_eq_false (fun hh : HeapOK x y z cs => hin (hh.2 k (by omega)).1)]
        exact cmp_pre (Pre.app' hpre) rfl
    · simp (disch := omega) only [h1, h10, h11, h12, ↓SXd, SXu, slBounds, ↓sop, ↓aop, ↓reduceIte, LV.cells, AOp.dst, LV.I, LV.B, LV.U, LV.S, LV.nil, Nat.reduceEqDiff, Nat.reduceAdd, Nat.reduceMul, Nat.reduceSub, Nat.reduceLeDiff, Nat.reduceBEq, Nat.reduceDiv, Nat.reduceMod, Int.reduceToNat, Int.reduceLT, Int.reduceLE, Int.reduceAdd, Int.reduceSub, Int.reduceMul, Int.reduceEq, Int.reduceNeg, reduceCtorEq, resV, resAll, ARes.ev, LV.flat, ite_true, ite_false, exists_eq_left', exists_eq_left, keyOf, implies_true, fillC, capOf]
      rw [decide_eq_true (show HeapOK x y z cs from ⟨hS, fun j hj1 => hj j (by omega)⟩)]
      exact cmp_pre hpre rfl
  · simp (disch := omega) only [hS, ↓SXd, SXu, slBounds, ↓sop, ↓aop, ↓reduceIte, LV.cells, AOp.dst, LV.I, LV.B, LV.U, LV.S, LV.nil, Nat.reduceEqDiff, Nat.reduceAdd, Nat.reduceMul, Nat.reduceSub, Nat.reduceLeDiff, Nat.reduceBEq, Nat.reduceDiv, Nat.reduceMod, Int.reduceToNat, Int.reduceLT, Int.reduceLE, Int.reduceAdd, Int.reduceSub, Int.reduceMul, Int.reduceEq, Int.reduceNeg, reduceCtorEq, resV, resAll, ARes.ev, LV.flat, ite_true, ite_false, exists_eq_left', exists_eq_left, keyOf, implies_true, fillC, capOf]
    exact cmp_dropF fun hh => hS hh.1
end Go.Ab

/- The abstract code of some functions (written by a program of mine from the translation, by way of prepF). -/
namespace Go.Ab.C
open Go.Ab
def spec_l1In : AFn :=
  ⟨3, 15, [.tmp 6],
    .seq (.ops [(none, .mv 6 (.c (.B false)))])
    (.seq (.ops [(none, .mv 7 (.t 0)),
        (none, .mv 8 (.t 1)),
        (none, .bin 9 .geq (.t 7) (.t 8)),
        (none, .mv 10 (.t 9)),
        (some (10, true), .mv 11 (.t 0)),
        (some (10, true), .mv 12 (.t 2)),
        (some (10, true), .bin 13 .leq (.t 11) (.t 12)),
        (none, .pick 14 (.t 10) (.t 13) (.c (.B false))),
        (none, .mv 6 (.t 14))])
     (.ret))⟩
def spec_l2Sides : AFn :=
  ⟨3, 17, [.tmp 6],
    .seq (.ops [(none, .mv 6 (.c (.B false)))])
    (.seq (.ops [(none, .mv 7 (.t 0)),
        (none, .call (some 8) F.spec_l1In [(.t 7), (.c (.I 1)), (.c (.I 4))]),
        (none, .mv 9 (.t 8)),
        (some (9, true), .mv 10 (.t 1)),
        (some (9, true), .call (some 11) F.spec_l1In [(.t 10), (.c (.I 1)), (.c (.I 4))]),
        (none, .pick 12 (.t 9) (.t 11) (.c (.B false))),
        (none, .mv 13 (.t 12)),
        (some (13, true), .mv 14 (.t 2)),
        (some (13, true), .call (some 15) F.spec_l1In [(.t 14), (.c (.I 1)), (.c (.I 4))]),
        (none, .pick 16 (.t 13) (.t 15) (.c (.B false))),
        (none, .mv 6 (.t 16))])
     (.ret))⟩
def spec_l2Before : AFn :=
  ⟨2, 24, [.tmp 4],
    .seq (.ops [(none, .box 2 (.t 0)),
       (none, .box 3 (.t 1)),
       (none, .mv 4 (.c (.B false)))])
    (.seq (.seq (.ops [(none, .mv 5 (.c (.I 0)))])
      (.block 0 (.loop (.seq (.seq (.ops [(none, .mv 6 (.t 5)),
             (none, .bin 7 .lss (.t 6) (.c (.I 3)))])
          (.cond (.t 7) (.skip)
           (.exit 0)))
         (.seq (.block 1 (.seq (.draw [⟨(none, .mv 10 (.t 5)), [], []⟩,
               ⟨(none, .idxA 11 3 1 (.t 2) (.t 10)), [], []⟩,
               ⟨(none, .load1 12 (.t 11)), [], []⟩,
               ⟨(none, .mv 13 (.t 5)), [], []⟩,
               ⟨(none, .idxA 14 3 1 (.t 3) (.t 13)), [], []⟩,
               ⟨(none, .load1 15 (.t 14)), [], []⟩,
               ⟨(none, .bin 16 .neq (.t 12) (.t 15)), [], []⟩])
            (.cond (.t 16) (.seq (.draw [⟨(none, .mv 17 (.t 5)), [], []⟩,
                 ⟨(none, .idxA 18 3 1 (.t 2) (.t 17)), [], []⟩,
                 ⟨(none, .load1 19 (.t 18)), [], []⟩,
                 ⟨(none, .mv 20 (.t 5)), [], []⟩,
                 ⟨(none, .idxA 21 3 1 (.t 3) (.t 20)), [], []⟩,
                 ⟨(none, .load1 22 (.t 21)), [], []⟩,
                 ⟨(none, .bin 23 .lss (.t 19) (.t 22)), [], []⟩,
                 ⟨(none, .mv 4 (.t 23)), [], []⟩])
              (.ret))
             (.skip))))
          (.ops [(none, .mv 8 (.t 5)),
             (none, .bin 9 .add (.t 8) (.c (.I 1))),
             (none, .mv 5 (.t 9))]))))))
     (.seq (.ops [(none, .mv 4 (.c (.B false)))])
      (.ret)))⟩
def spec_l2In : AFn :=
  ⟨2, 27, [.tmp 4],
    .seq (.ops [(none, .box 2 (.t 0)),
       (none, .box 3 (.t 1)),
       (none, .mv 4 (.c (.B false)))])
    (.seq (.ops [(none, .idxA 5 3 1 (.t 3) (.c (.I 0))),
        (none, .load1 6 (.t 5)),
        (none, .fieldAddr 7 (.t 2) 0),
        (none, .load1 8 (.t 7)),
        (none, .bin 9 .sub (.t 8) (.c (.I 1))),
        (none, .call (some 10) F.spec_l1In [(.t 6), (.c (.I 0)), (.t 9)]),
        (none, .mv 11 (.t 10)),
        (some (11, true), .idxA 12 3 1 (.t 3) (.c (.I 1))),
        (some (11, true), .load1 13 (.t 12)),
        (some (11, true), .fieldAddr 14 (.t 2) 1),
        (some (11, true), .load1 15 (.t 14)),
        (some (11, true), .bin 16 .sub (.t 15) (.c (.I 1))),
        (some (11, true), .call (some 17) F.spec_l1In [(.t 13), (.c (.I 0)), (.t 16)]),
        (none, .pick 18 (.t 11) (.t 17) (.c (.B false))),
        (none, .mv 19 (.t 18)),
        (some (19, true), .idxA 20 3 1 (.t 3) (.c (.I 2))),
        (some (19, true), .load1 21 (.t 20)),
        (some (19, true), .fieldAddr 22 (.t 2) 2),
        (some (19, true), .load1 23 (.t 22)),
        (some (19, true), .bin 24 .sub (.t 23) (.c (.I 1))),
        (some (19, true), .call (some 25) F.spec_l1In [(.t 21), (.c (.I 0)), (.t 24)]),
        (none, .pick 26 (.t 19) (.t 25) (.c (.B false))),
        (none, .mv 4 (.t 26))])
     (.ret))⟩
end Go.Ab.C

/- That the program has this code. -/
namespace Go.Ab.K
open Go Go.Ab
theorem spec_l1In : prepF Go.Proofs.Try.prog F.spec_l1In = some C.spec_l1In := by kernel_rfl
theorem spec_l2Sides : prepF Go.Proofs.Try.prog F.spec_l2Sides = some C.spec_l2Sides := by kernel_rfl
theorem spec_l2Before : prepF Go.Proofs.Try.prog F.spec_l2Before = some C.spec_l2Before := by kernel_rfl
theorem spec_l2In : prepF Go.Proofs.Try.prog F.spec_l2In = some C.spec_l2In := by kernel_rfl
end Go.Ab.K

/- Contracts: the reference's heaps and columns. -/
namespace Go.Ab
open Go
set_option linter.unusedSimpArgs false
set_option linter.unusedVariables false

theorem h_l1In {n lo hi : Int} {M : Mem} : CallsTo PG F.spec_l1In [.I n, .I lo, .I hi] M (.B (decide (lo ≤ n ∧ n ≤ hi))) M := by
  refine calls_run K.spec_l1In rfl ?_
  simp (disch := omega) only [C.spec_l1In, ↓SXd, SXu, slBounds, ↓sop, ↓aop, ↓reduceIte, LV.cells, AOp.dst, LV.I, LV.B, LV.U, LV.S, LV.nil, Nat.reduceEqDiff, Nat.reduceAdd, Nat.reduceMul, Nat.reduceSub, Nat.reduceLeDiff, Nat.reduceBEq, Nat.reduceDiv, Nat.reduceMod, Int.reduceToNat, Int.reduceLT, Int.reduceLE, Int.reduceAdd, Int.reduceSub, Int.reduceMul, Int.reduceEq, Int.reduceNeg, reduceCtorEq, resV, resAll, ARes.ev, LV.flat, ite_true, ite_false, exists_eq_left', exists_eq_left, keyOf, implies_true, fillC, capOf]
  by_cases h1 : lo ≤ n
  · simp (disch := omega) only [h1, ↓SXd, SXu, slBounds, ↓sop, ↓aop, ↓reduceIte, LV.cells, AOp.dst, LV.I, LV.B, LV.U, LV.S, LV.nil, Nat.reduceEqDiff, Nat.reduceAdd, Nat.reduceMul, Nat.reduceSub, Nat.reduceLeDiff, Nat.reduceBEq, Nat.reduceDiv, Nat.reduceMod, Int.reduceToNat, Int.reduceLT, Int.reduceLE, Int.reduceAdd, Int.reduceSub, Int.reduceMul, Int.reduceEq, Int.reduceNeg, reduceCtorEq, resV, resAll, ARes.ev, LV.flat, ite_true, ite_false, exists_eq_left', exists_eq_left, keyOf, implies_true, fillC, capOf]
    exact cmp_drop0 rfl
  · simp (disch := omega) only [h1, ↓SXd, SXu, slBounds, ↓sop, ↓aop, ↓reduceIte, LV.cells, AOp.dst, LV.I, LV.B, LV.U, LV.S, LV.nil, Nat.reduceEqDiff, Nat.reduceAdd, Nat.reduceMul, Nat.reduceSub, Nat.reduceLeDiff, Nat.reduceBEq, Nat.reduceDiv, Nat.reduceMod, Int.reduceToNat, Int.reduceLT, Int.reduceLE, Int.reduceAdd, Int.reduceSub, Int.reduceMul, Int.reduceEq, Int.reduceNeg, reduceCtorEq, resV, resAll, ARes.ev, LV.flat, ite_true, ite_false, exists_eq_left', exists_eq_left, keyOf, implies_true, fillC, capOf]
    exact cmp_drop0 rfl

theorem h_l2Sides {x y z : Int} {M : Mem} : CallsTo PG F.spec_l2Sides [.I x, .I y, .I z] M (.B (decide (Sides x y z))) M := by
  refine calls_run K.spec_l2Sides rfl ?_
  simp (disch := omega) only [C.spec_l2Sides, ↓SXd, SXu, slBounds, ↓sop, ↓aop, ↓reduceIte, LV.cells, AOp.dst, LV.I, LV.B, LV.U, LV.S, LV.nil, Nat.reduceEqDiff, Nat.reduceAdd, Nat.reduceMul, Nat.reduceSub, Nat.reduceLeDiff, Nat.reduceBEq, Nat.reduceDiv, Nat.reduceMod, Int.reduceToNat, Int.reduceLT, Int.reduceLE, Int.reduceAdd, Int.reduceSub, Int.reduceMul, Int.reduceEq, Int.reduceNeg, reduceCtorEq, resV, resAll, ARes.ev, LV.flat, ite_true, ite_false, exists_eq_left', exists_eq_left, keyOf, implies_true, fillC, capOf]
  refine callK_of h_l1In ?_
  simp (disch := omega) only [↓SXd, SXu, slBounds, ↓sop, ↓aop, ↓reduceIte, LV.cells, AOp.dst, LV.I, LV.B, LV.U, LV.S, LV.nil, Nat.reduceEqDiff, Nat.reduceAdd, Nat.reduceMul, Nat.reduceSub, Nat.reduceLeDiff, Nat.reduceBEq, Nat.reduceDiv, Nat.reduceMod, Int.reduceToNat, Int.reduceLT, Int.reduceLE, Int.reduceAdd, Int.reduceSub, Int.reduceMul, Int.reduceEq, Int.reduceNeg, reduceCtorEq, resV, resAll, ARes.ev, LV.flat, ite_true, ite_false, exists_eq_left', exists_eq_left, keyOf, implies_true, fillC, capOf]
  unfold Sides
  by_cases h1 : 1 ≤ x ∧ x ≤ 4
  · simp (disch := omega) only [h1, ↓SXd, SXu, slBounds, ↓sop, ↓aop, ↓reduceIte, LV.cells, AOp.dst, LV.I, LV.B, LV.U, LV.S, LV.nil, Nat.reduceEqDiff, Nat.reduceAdd, Nat.reduceMul, Nat.reduceSub, Nat.reduceLeDiff, Nat.reduceBEq, Nat.reduceDiv, Nat.reduceMod, Int.reduceToNat, Int.reduceLT, Int.reduceLE, Int.reduceAdd, Int.reduceSub, Int.reduceMul, Int.reduceEq, Int.reduceNeg, reduceCtorEq, resV, resAll, ARes.ev, LV.flat, ite_true, ite_false, exists_eq_left', exists_eq_left, keyOf, implies_true, fillC, capOf]
    refine callK_of h_l1In ?_
    simp (disch := omega) only [↓SXd, SXu, slBounds, ↓sop, ↓aop, ↓reduceIte, LV.cells, AOp.dst, LV.I, LV.B, LV.U, LV.S, LV.nil, Nat.reduceEqDiff, Nat.reduceAdd, Nat.reduceMul, Nat.reduceSub, Nat.reduceLeDiff, Nat.reduceBEq, Nat.reduceDiv, Nat.reduceMod, Int.reduceToNat, Int.reduceLT, Int.reduceLE, Int.reduceAdd, Int.reduceSub, Int.reduceMul, Int.reduceEq, Int.reduceNeg, reduceCtorEq, resV, resAll, ARes.ev, LV.flat, ite_true, ite_false, exists_eq_left', exists_eq_left, keyOf, implies_true, fillC, capOf]
    by_cases h2 : 1 ≤ y ∧ y ≤ 4
    · simp (disch := omega) only [h2, ↓SXd, SXu, slBounds, ↓sop, ↓aop, ↓reduceIte, LV.cells, AOp.dst, LV.I, LV.B, LV.U, LV.S, LV.nil, Nat.reduceEqDiff, Nat.reduceAdd, Nat.reduceMul, Nat.reduceSub, Nat.reduceLeDiff, Nat.reduceBEq, Nat.reduceDiv, Nat.reduceMod, Int.reduceToNat, Int.reduceLT, Int.reduceLE, Int.reduceAdd, Int.reduceSub, Int.reduceMul, Int.reduceEq, Int.reduceNeg, reduceCtorEq, resV, resAll, ARes.ev, LV.flat, ite_true, ite_false, exists_eq_left', exists_eq_left, keyOf, implies_true, fillC, capOf]
      refine callK_of h_l1In ?_
      simp (disch := omega) only [↓SXd, SXu, slBounds, ↓sop, ↓aop, ↓reduceIte, LV.cells, AOp.dst, LV.I, LV.B, LV.U, LV.S, LV.nil, Nat.reduceEqDiff, Nat.reduceAdd, Nat.reduceMul, Nat.reduceSub, Nat.reduceLeDiff, Nat.reduceBEq, Nat.reduceDiv, Nat.reduceMod, Int.reduceToNat, Int.reduceLT, Int.reduceLE, Int.reduceAdd, Int.reduceSub, Int.reduceMul, Int.reduceEq, Int.reduceNeg, reduceCtorEq, resV, resAll, ARes.ev, LV.flat, ite_true, ite_false, exists_eq_left', exists_eq_left, keyOf, implies_true, fillC, capOf]
      exact cmp_drop0 rfl
    · simp (disch := omega) only [h2, false_and, ↓SXd, SXu, slBounds, ↓sop, ↓aop, ↓reduceIte, LV.cells, AOp.dst, LV.I, LV.B, LV.U, LV.S, LV.nil, Nat.reduceEqDiff, Nat.reduceAdd, Nat.reduceMul, Nat.reduceSub, Nat.reduceLeDiff, Nat.reduceBEq, Nat.reduceDiv, Nat.reduceMod, Int.reduceToNat, Int.reduceLT, Int.reduceLE, Int.reduceAdd, Int.reduceSub, Int.reduceMul, Int.reduceEq, Int.reduceNeg, reduceCtorEq, resV, resAll, ARes.ev, LV.flat, ite_true, ite_false, exists_eq_left', exists_eq_left, keyOf, implies_true, fillC, capOf]
      exact cmp_drop0 rfl
  · simp (disch := omega) only [h1, false_and, ↓SXd, SXu, slBounds, ↓sop, ↓aop, ↓reduceIte, LV.cells, AOp.dst, LV.I, LV.B, LV.U, LV.S, LV.nil, Nat.reduceEqDiff, Nat.reduceAdd, Nat.reduceMul, Nat.reduceSub, Nat.reduceLeDiff, Nat.reduceBEq, Nat.reduceDiv, Nat.reduceMod, Int.reduceToNat, Int.reduceLT, Int.reduceLE, Int.reduceAdd, Int.reduceSub, Int.reduceMul, Int.reduceEq, Int.reduceNeg, reduceCtorEq, resV, resAll, ARes.ev, LV.flat, ite_true, ite_false, exists_eq_left', exists_eq_left, keyOf, implies_true, fillC, capOf]
    exact cmp_drop0 rfl

theorem h_l2Before {a b c a' b' c' : Int} {M : Mem} : CallsTo PG F.spec_l2Before [.agg [.I a, .I b, .I c], .agg [.I a', .I b', .I c']] M (.B (decide (Cell.lt ⟨a, b, c⟩ ⟨a', b', c'⟩))) M := by
  refine calls_run K.spec_l2Before rfl ?_
  simp (disch := omega) only [C.spec_l2Before, ↓SXd, SXu, slBounds, ↓sop, ↓aop, ↓reduceIte, LV.cells, AOp.dst, LV.I, LV.B, LV.U, LV.S, LV.nil, Nat.reduceEqDiff, Nat.reduceAdd, Nat.reduceMul, Nat.reduceSub, Nat.reduceLeDiff, Nat.reduceBEq, Nat.reduceDiv, Nat.reduceMod, Int.reduceToNat, Int.reduceLT, Int.reduceLE, Int.reduceAdd, Int.reduceSub, Int.reduceMul, Int.reduceEq, Int.reduceNeg, reduceCtorEq, resV, resAll, ARes.ev, LV.flat, ite_true, ite_false, exists_eq_left', exists_eq_left, keyOf, implies_true, fillC, capOf]
  refine ev_loop (fun m fr M' => ∃ k : Nat, k + m = 3 ∧ M' = M ++ [some (Blk.row [.I a, .I b, .I c] true 0), some (Blk.row [.I a', .I b', .I c'] true 0)] ∧ fr 2 = .ptr M.length 0 ∧ fr 3 = .ptr (M.length + 1) 0 ∧ fr 5 = .I k ∧
    (0 < k → a = a') ∧ (1 < k → b = b') ∧ (2 < k → c = c')) 3 ⟨0, rfl, rfl, rfl, rfl, rfl, by omega, by omega, by omega⟩ ?_
  rintro m fr M' ⟨k, hk, rfl, h2, h3, h5, ha, hb, hc⟩
  simp (disch := omega) only [h2, h3, h5, ↓SXd, SXu, slBounds, ↓sop, ↓aop, ↓reduceIte, LV.cells, AOp.dst, LV.I, LV.B, LV.U, LV.S, LV.nil, Nat.reduceEqDiff, Nat.reduceAdd, Nat.reduceMul, Nat.reduceSub, Nat.reduceLeDiff, Nat.reduceBEq, Nat.reduceDiv, Nat.reduceMod, Int.reduceToNat, Int.reduceLT, Int.reduceLE, Int.reduceAdd, Int.reduceSub, Int.reduceMul, Int.reduceEq, Int.reduceNeg, reduceCtorEq, resV, resAll, ARes.ev, LV.flat, ite_true, ite_false, exists_eq_left', exists_eq_left, keyOf, implies_true, fillC, capOf]
  refine condC_dec (fun hlt => ?_) (fun hlt => ?_)
  · have hk3 : k = 0 ∨ k = 1 ∨ k = 2 := by omega
    rcases hk3 with rfl | rfl | rfl
    all_goals
      simp (disch := omega) only [h2, h3, h5, ↓SXd, SXu, slBounds, ↓sop, ↓aop, ↓reduceIte, LV.cells, AOp.dst, LV.I, LV.B, LV.U, LV.S, LV.nil, Nat.reduceEqDiff, Nat.reduceAdd, Nat.reduceMul, Nat.reduceSub, Nat.reduceLeDiff, Nat.reduceBEq, Nat.reduceDiv, Nat.reduceMod, Int.reduceToNat, Int.reduceLT, Int.reduceLE, Int.reduceAdd, Int.reduceSub, Int.reduceMul, Int.reduceEq, Int.reduceNeg, reduceCtorEq, resV, resAll, ARes.ev, LV.flat, ite_true, ite_false, exists_eq_left', exists_eq_left, keyOf, implies_true, fillC, capOf]
      refine condC_dec (fun he => ?_) (fun he => ?_)
      · simp (disch := omega) only [h2, h3, h5, ↓SXd, SXu, slBounds, ↓sop, ↓aop, ↓reduceIte, LV.cells, AOp.dst, LV.I, LV.B, LV.U, LV.S, LV.nil, Nat.reduceEqDiff, Nat.reduceAdd, Nat.reduceMul, Nat.reduceSub, Nat.reduceLeDiff, Nat.reduceBEq, Nat.reduceDiv, Nat.reduceMod, Int.reduceToNat, Int.reduceLT, Int.reduceLE, Int.reduceAdd, Int.reduceSub, Int.reduceMul, Int.reduceEq, Int.reduceNeg, reduceCtorEq, resV, resAll, ARes.ev, LV.flat, ite_true, ite_false, exists_eq_left', exists_eq_left, keyOf, implies_true, fillC, capOf]
        exact ⟨m - 1, by omega, _, by omega, rfl, h2, h3, eqI (natI _), by omega, by omega, by omega⟩
      · simp (disch := omega) only [h2, h3, h5, ↓SXd, SXu, slBounds, ↓sop, ↓aop, ↓reduceIte, LV.cells, AOp.dst, LV.I, LV.B, LV.U, LV.S, LV.nil, Nat.reduceEqDiff, Nat.reduceAdd, Nat.reduceMul, Nat.reduceSub, Nat.reduceLeDiff, Nat.reduceBEq, Nat.reduceDiv, Nat.reduceMod, Int.reduceToNat, Int.reduceLT, Int.reduceLE, Int.reduceAdd, Int.reduceSub, Int.reduceMul, Int.reduceEq, Int.reduceNeg, reduceCtorEq, resV, resAll, ARes.ev, LV.flat, ite_true, ite_false, exists_eq_left', exists_eq_left, keyOf, implies_true, fillC, capOf]
        exact cmp_dropB (by simp only [Cell.lt]; omega)
  · simp (disch := omega) only [h2, h3, h5, ↓SXd, SXu, slBounds, ↓sop, ↓aop, ↓reduceIte, LV.cells, AOp.dst, LV.I, LV.B, LV.U, LV.S, LV.nil, Nat.reduceEqDiff, Nat.reduceAdd, Nat.reduceMul, Nat.reduceSub, Nat.reduceLeDiff, Nat.reduceBEq, Nat.reduceDiv, Nat.reduceMod, Int.reduceToNat, Int.reduceLT, Int.reduceLE, Int.reduceAdd, Int.reduceSub, Int.reduceMul, Int.reduceEq, Int.reduceNeg, reduceCtorEq, resV, resAll, ARes.ev, LV.flat, ite_true, ite_false, exists_eq_left', exists_eq_left, keyOf, implies_true, fillC, capOf]
    exact cmp_dropF (by simp only [Cell.lt]; omega)

theorem h_l2In {x y z a b c : Int} {v : LV} {M : Mem} (hS : Sides x y z) : CallsTo PG F.spec_l2In [.agg [.I x, .I y, .I z, v], .agg [.I a, .I b, .I c]] M (.B (decide (Cell.inBox x y z ⟨a, b, c⟩))) M := by
  obtain ⟨hx, hy, hz⟩ := hS
  refine calls_run K.spec_l2In rfl ?_
  simp (disch := omega) only [C.spec_l2In, ↓SXd, SXu, slBounds, ↓sop, ↓aop, ↓reduceIte, LV.cells, AOp.dst, LV.I, LV.B, LV.U, LV.S, LV.nil, Nat.reduceEqDiff, Nat.reduceAdd, Nat.reduceMul, Nat.reduceSub, Nat.reduceLeDiff, Nat.reduceBEq, Nat.reduceDiv, Nat.reduceMod, Int.reduceToNat, Int.reduceLT, Int.reduceLE, Int.reduceAdd, Int.reduceSub, Int.reduceMul, Int.reduceEq, Int.reduceNeg, reduceCtorEq, resV, resAll, ARes.ev, LV.flat, ite_true, ite_false, exists_eq_left', exists_eq_left, keyOf, implies_true, fillC, capOf]
  refine callK_of h_l1In ?_
  simp (disch := omega) only [↓SXd, SXu, slBounds, ↓sop, ↓aop, ↓reduceIte, LV.cells, AOp.dst, LV.I, LV.B, LV.U, LV.S, LV.nil, Nat.reduceEqDiff, Nat.reduceAdd, Nat.reduceMul, Nat.reduceSub, Nat.reduceLeDiff, Nat.reduceBEq, Nat.reduceDiv, Nat.reduceMod, Int.reduceToNat, Int.reduceLT, Int.reduceLE, Int.reduceAdd, Int.reduceSub, Int.reduceMul, Int.reduceEq, Int.reduceNeg, reduceCtorEq, resV, resAll, ARes.ev, LV.flat, ite_true, ite_false, exists_eq_left', exists_eq_left, keyOf, implies_true, fillC, capOf]
  unfold Cell.inBox
  by_cases h1 : 0 ≤ a ∧ a ≤ x - 1
  · simp (disch := omega) only [h1, ↓SXd, SXu, slBounds, ↓sop, ↓aop, ↓reduceIte, LV.cells, AOp.dst, LV.I, LV.B, LV.U, LV.S, LV.nil, Nat.reduceEqDiff, Nat.reduceAdd, Nat.reduceMul, Nat.reduceSub, Nat.reduceLeDiff, Nat.reduceBEq, Nat.reduceDiv, Nat.reduceMod, Int.reduceToNat, Int.reduceLT, Int.reduceLE, Int.reduceAdd, Int.reduceSub, Int.reduceMul, Int.reduceEq, Int.reduceNeg, reduceCtorEq, resV, resAll, ARes.ev, LV.flat, ite_true, ite_false, exists_eq_left', exists_eq_left, keyOf, implies_true, fillC, capOf]
    refine callK_of h_l1In ?_
    simp (disch := omega) only [↓SXd, SXu, slBounds, ↓sop, ↓aop, ↓reduceIte, LV.cells, AOp.dst, LV.I, LV.B, LV.U, LV.S, LV.nil, Nat.reduceEqDiff, Nat.reduceAdd, Nat.reduceMul, Nat.reduceSub, Nat.reduceLeDiff, Nat.reduceBEq, Nat.reduceDiv, Nat.reduceMod, Int.reduceToNat, Int.reduceLT, Int.reduceLE, Int.reduceAdd, Int.reduceSub, Int.reduceMul, Int.reduceEq, Int.reduceNeg, reduceCtorEq, resV, resAll, ARes.ev, LV.flat, ite_true, ite_false, exists_eq_left', exists_eq_left, keyOf, implies_true, fillC, capOf]
    by_cases h2 : 0 ≤ b ∧ b ≤ y - 1
    · simp (disch := omega) only [h2, ↓SXd, SXu, slBounds, ↓sop, ↓aop, ↓reduceIte, LV.cells, AOp.dst, LV.I, LV.B, LV.U, LV.S, LV.nil, Nat.reduceEqDiff, Nat.reduceAdd, Nat.reduceMul, Nat.reduceSub, Nat.reduceLeDiff, Nat.reduceBEq, Nat.reduceDiv, Nat.reduceMod, Int.reduceToNat, Int.reduceLT, Int.reduceLE, Int.reduceAdd, Int.reduceSub, Int.reduceMul, Int.reduceEq, Int.reduceNeg, reduceCtorEq, resV, resAll, ARes.ev, LV.flat, ite_true, ite_false, exists_eq_left', exists_eq_left, keyOf, implies_true, fillC, capOf]
      refine callK_of h_l1In ?_
      simp (disch := omega) only [↓SXd, SXu, slBounds, ↓sop, ↓aop, ↓reduceIte, LV.cells, AOp.dst, LV.I, LV.B, LV.U, LV.S, LV.nil, Nat.reduceEqDiff, Nat.reduceAdd, Nat.reduceMul, Nat.reduceSub, Nat.reduceLeDiff, Nat.reduceBEq, Nat.reduceDiv, Nat.reduceMod, Int.reduceToNat, Int.reduceLT, Int.reduceLE, Int.reduceAdd, Int.reduceSub, Int.reduceMul, Int.reduceEq, Int.reduceNeg, reduceCtorEq, resV, resAll, ARes.ev, LV.flat, ite_true, ite_false, exists_eq_left', exists_eq_left, keyOf, implies_true, fillC, capOf]
      exact cmp_drop rfl
    · simp (disch := omega) only [h2, false_and, ↓SXd, SXu, slBounds, ↓sop, ↓aop, ↓reduceIte, LV.cells, AOp.dst, LV.I, LV.B, LV.U, LV.S, LV.nil, Nat.reduceEqDiff, Nat.reduceAdd, Nat.reduceMul, Nat.reduceSub, Nat.reduceLeDiff, Nat.reduceBEq, Nat.reduceDiv, Nat.reduceMod, Int.reduceToNat, Int.reduceLT, Int.reduceLE, Int.reduceAdd, Int.reduceSub, Int.reduceMul, Int.reduceEq, Int.reduceNeg, reduceCtorEq, resV, resAll, ARes.ev, LV.flat, ite_true, ite_false, exists_eq_left', exists_eq_left, keyOf, implies_true, fillC, capOf]
      exact cmp_drop rfl
  · simp (disch := omega) only [h1, false_and, ↓SXd, SXu, slBounds, ↓sop, ↓aop, ↓reduceIte, LV.cells, AOp.dst, LV.I, LV.B, LV.U, LV.S, LV.nil, Nat.reduceEqDiff, Nat.reduceAdd, Nat.reduceMul, Nat.reduceSub, Nat.reduceLeDiff, Nat.reduceBEq, Nat.reduceDiv, Nat.reduceMod, Int.reduceToNat, Int.reduceLT, Int.reduceLE, Int.reduceAdd, Int.reduceSub, Int.reduceMul, Int.reduceEq, Int.reduceNeg, reduceCtorEq, resV, resAll, ARes.ev, LV.flat, ite_true, ite_false, exists_eq_left', exists_eq_left, keyOf, implies_true, fillC, capOf]
    exact cmp_drop rfl
end Go.Ab
