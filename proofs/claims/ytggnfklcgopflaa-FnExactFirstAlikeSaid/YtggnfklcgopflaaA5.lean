/- Parts of the proof of FnExactFirstAlikeSaid: Da Gb Gd Gc Ge C_Cj K_Cj C_Ci K_Ci C_Cg K_Cg C_Cf K_Cf C_Cc K_Cc C_Cb K_Cb Ca C_Kc K_Kc C_Kb K_Kb C_Ol K_Ol C_Og K_Og C_Of K_Of C_Od K_Od C_Ob K_Ob C_Oa K_Oa C_Dd K_Dd C_Dc K_Dc C_Db K_Db Ma Db Dc Dd. -/
import Derived.Test.YtggnfklcgopflaaA4
import Derived.Test.YtggnfklcgopflaaA3
import Derived.Test.YtggnfklcgopflaaProg
import Derived.KernelRfl
set_option linter.all false
/- Contracts: the laws' helpers on heaps. -/
namespace Go.Ab
open Go
set_option linter.unusedSimpArgs false
set_option linter.unusedVariables false

theorem h_szIntA3S {t o n : Nat} {left : Int} {M : Mem} (h : 0 ≤ left) (h' : left ≤ 10000000) (hn : n ≤ 9223372036854775807) :
    CallsTo PG F.laws_szIntA3S [.ref t o n, .I left] M (.I (if left < n then -1 else left - n)) M := by
  refine calls_run K.laws_szIntA3S rfl ?_
  simp (disch := omega) only [C.laws_szIntA3S, ↓SXd, SXu, slBounds, ↓sop, ↓aop, ↓reduceIte, LV.cells, AOp.dst, LV.I, LV.B, LV.U, LV.S, LV.nil, Nat.reduceEqDiff, Nat.reduceAdd, Nat.reduceMul, Nat.reduceSub, Nat.reduceLeDiff, Nat.reduceBEq, Nat.reduceDiv, Nat.reduceMod, Int.reduceToNat, Int.reduceLT, Int.reduceLE, Int.reduceAdd, Int.reduceSub, Int.reduceMul, Int.reduceEq, Int.reduceNeg, reduceCtorEq, resV, resAll, ARes.ev, LV.flat, ite_true, ite_false, exists_eq_left', exists_eq_left, keyOf, implies_true, fillC, capOf]
  refine condC_dec (fun h => ?_) (fun h => ?_)
  · simp (disch := omega) only [↓SXd, SXu, slBounds, ↓sop, ↓aop, ↓reduceIte, LV.cells, AOp.dst, LV.I, LV.B, LV.U, LV.S, LV.nil, Nat.reduceEqDiff, Nat.reduceAdd, Nat.reduceMul, Nat.reduceSub, Nat.reduceLeDiff, Nat.reduceBEq, Nat.reduceDiv, Nat.reduceMod, Int.reduceToNat, Int.reduceLT, Int.reduceLE, Int.reduceAdd, Int.reduceSub, Int.reduceMul, Int.reduceEq, Int.reduceNeg, reduceCtorEq, resV, resAll, ARes.ev, LV.flat, ite_true, ite_false, exists_eq_left', exists_eq_left, keyOf, implies_true, fillC, capOf]
    rw [if_pos (by omega)]; exact cmp_drop0 rfl
  · simp (disch := omega) only [↓SXd, SXu, slBounds, ↓sop, ↓aop, ↓reduceIte, LV.cells, AOp.dst, LV.I, LV.B, LV.U, LV.S, LV.nil, Nat.reduceEqDiff, Nat.reduceAdd, Nat.reduceMul, Nat.reduceSub, Nat.reduceLeDiff, Nat.reduceBEq, Nat.reduceDiv, Nat.reduceMod, Int.reduceToNat, Int.reduceLT, Int.reduceLE, Int.reduceAdd, Int.reduceSub, Int.reduceMul, Int.reduceEq, Int.reduceNeg, reduceCtorEq, resV, resAll, ARes.ev, LV.flat, ite_true, ite_false, exists_eq_left', exists_eq_left, keyOf, implies_true, fillC, capOf]
    rw [if_neg (by omega)]; exact cmp_drop0 rfl

theorem h_szHeap {x y z : Int} {t o n : Nat} {left : Int} {M : Mem} (h : 0 ≤ left) (h' : left ≤ 10000000) (hn : n ≤ 9223372036854775807) :
    CallsTo PG F.laws_szHeap [.agg [.I x, .I y, .I z, .ref t o n], .I left] M (.I (if left < n then -1 else left - n)) M := by
  refine calls_run K.laws_szHeap rfl ?_
  simp (disch := omega) only [C.laws_szHeap, ↓SXd, SXu, slBounds, ↓sop, ↓aop, ↓reduceIte, LV.cells, AOp.dst, LV.I, LV.B, LV.U, LV.S, LV.nil, Nat.reduceEqDiff, Nat.reduceAdd, Nat.reduceMul, Nat.reduceSub, Nat.reduceLeDiff, Nat.reduceBEq, Nat.reduceDiv, Nat.reduceMod, Int.reduceToNat, Int.reduceLT, Int.reduceLE, Int.reduceAdd, Int.reduceSub, Int.reduceMul, Int.reduceEq, Int.reduceNeg, reduceCtorEq, resV, resAll, ARes.ev, LV.flat, ite_true, ite_false, exists_eq_left', exists_eq_left, keyOf, implies_true, fillC, capOf]
  refine callK_of (h_szIntA3S h h' hn) ?_
  simp (disch := omega) only [↓SXd, SXu, slBounds, ↓sop, ↓aop, ↓reduceIte, LV.cells, AOp.dst, LV.I, LV.B, LV.U, LV.S, LV.nil, Nat.reduceEqDiff, Nat.reduceAdd, Nat.reduceMul, Nat.reduceSub, Nat.reduceLeDiff, Nat.reduceBEq, Nat.reduceDiv, Nat.reduceMod, Int.reduceToNat, Int.reduceLT, Int.reduceLE, Int.reduceAdd, Int.reduceSub, Int.reduceMul, Int.reduceEq, Int.reduceNeg, reduceCtorEq, resV, resAll, ARes.ev, LV.flat, ite_true, ite_false, exists_eq_left', exists_eq_left, keyOf, implies_true, fillC, capOf]
  by_cases hl : left < n
  · rw [if_pos hl]
    refine condC_dec (fun h => ?_) (fun h => by omega)
    simp (disch := omega) only [↓SXd, SXu, slBounds, ↓sop, ↓aop, ↓reduceIte, LV.cells, AOp.dst, LV.I, LV.B, LV.U, LV.S, LV.nil, Nat.reduceEqDiff, Nat.reduceAdd, Nat.reduceMul, Nat.reduceSub, Nat.reduceLeDiff, Nat.reduceBEq, Nat.reduceDiv, Nat.reduceMod, Int.reduceToNat, Int.reduceLT, Int.reduceLE, Int.reduceAdd, Int.reduceSub, Int.reduceMul, Int.reduceEq, Int.reduceNeg, reduceCtorEq, resV, resAll, ARes.ev, LV.flat, ite_true, ite_false, exists_eq_left', exists_eq_left, keyOf, implies_true, fillC, capOf]
    exact cmp_drop rfl
  · rw [if_neg hl]
    refine condC_dec (fun h => by omega) (fun h => ?_)
    simp (disch := omega) only [↓SXd, SXu, slBounds, ↓sop, ↓aop, ↓reduceIte, LV.cells, AOp.dst, LV.I, LV.B, LV.U, LV.S, LV.nil, Nat.reduceEqDiff, Nat.reduceAdd, Nat.reduceMul, Nat.reduceSub, Nat.reduceLeDiff, Nat.reduceBEq, Nat.reduceDiv, Nat.reduceMod, Int.reduceToNat, Int.reduceLT, Int.reduceLE, Int.reduceAdd, Int.reduceSub, Int.reduceMul, Int.reduceEq, Int.reduceNeg, reduceCtorEq, resV, resAll, ARes.ev, LV.flat, ite_true, ite_false, exists_eq_left', exists_eq_left, keyOf, implies_true, fillC, capOf]
    exact cmp_drop rfl

theorem h_eqIntA3 {a b c a' b' c' : Int} {M : Mem} : CallsTo PG F.laws_eqIntA3 [.agg [.I a, .I b, .I c], .agg [.I a', .I b', .I c']] M (.B (decide ((⟨a, b, c⟩ : Cell) = ⟨a', b', c'⟩))) M := by
  refine calls_run K.laws_eqIntA3 rfl ?_
  simp (disch := omega) only [C.laws_eqIntA3, ↓SXd, SXu, slBounds, ↓sop, ↓aop, ↓reduceIte, LV.cells, AOp.dst, LV.I, LV.B, LV.U, LV.S, LV.nil, Nat.reduceEqDiff, Nat.reduceAdd, Nat.reduceMul, Nat.reduceSub, Nat.reduceLeDiff, Nat.reduceBEq, Nat.reduceDiv, Nat.reduceMod, Int.reduceToNat, Int.reduceLT, Int.reduceLE, Int.reduceAdd, Int.reduceSub, Int.reduceMul, Int.reduceEq, Int.reduceNeg, reduceCtorEq, resV, resAll, ARes.ev, LV.flat, ite_true, ite_false, exists_eq_left', exists_eq_left, keyOf, implies_true, fillC, capOf]
  refine ev_loop (fun m fr M' => ∃ k : Nat, k + m = 3 ∧ M' = M ++ [some (Blk.row [.I a, .I b, .I c] true 0), some (Blk.row [.I a', .I b', .I c'] true 0)] ∧ fr 2 = .ptr M.length 0 ∧ fr 3 = .ptr (M.length + 1) 0 ∧ fr 5 = .I k ∧
    (0 < k → a = a') ∧ (1 < k → b = b') ∧ (2 < k → c = c')) 3 ⟨0, rfl, rfl, rfl, rfl, rfl, by omega, by omega, by omega⟩ ?_
  rintro m fr M' ⟨k, hk, rfl, h2, h3, h5, ha, hb, hc⟩
  simp (disch := omega) only [h2, h3, h5, ↓SXd, SXu, slBounds, ↓sop, ↓aop, ↓reduceIte, LV.cells, AOp.dst, LV.I, LV.B, LV.U, LV.S, LV.nil, Nat.reduceEqDiff, Nat.reduceAdd, Nat.reduceMul, Nat.reduceSub, Nat.reduceLeDiff, Nat.reduceBEq, Nat.reduceDiv, Nat.reduceMod, Int.reduceToNat, Int.reduceLT, Int.reduceLE, Int.reduceAdd, Int.reduceSub, Int.reduceMul, Int.reduceEq, Int.reduceNeg, reduceCtorEq, resV, resAll, ARes.ev, LV.flat, ite_true, ite_false, exists_eq_left', exists_eq_left, keyOf, implies_true, fillC, capOf]
  refine condC_dec (fun hlt => ?_) (fun hlt => ?_)
  · have hk3 : k = 0 ∨ k = 1 ∨ k = 2 := by omega
    rcases hk3 with rfl | rfl | rfl
    all_goals
      simp (disch := omega) only [h2, h3, h5, ↓SXd, SXu, slBounds, ↓sop, ↓aop, ↓reduceIte, LV.cells, AOp.dst, LV.I, LV.B, LV.U, LV.S, LV.nil, Nat.reduceEqDiff, Nat.reduceAdd, Nat.reduceMul, Nat.reduceSub, Nat.reduceLeDiff, Nat.reduceBEq, Nat.reduceDiv, Nat.reduceMod, Int.reduceToNat, Int.reduceLT, Int.reduceLE, Int.reduceAdd, Int.reduceSub, Int.reduceMul, Int.reduceEq, Int.reduceNeg, reduceCtorEq, resV, resAll, ARes.ev, LV.flat, ite_true, ite_false, exists_eq_left', exists_eq_left, keyOf, implies_true, fillC, capOf]
      refine condC_dec (fun he => ?_) (fun he => ?_)
      · simp (disch := omega) only [h2, h3, h5, ↓SXd, SXu, slBounds, ↓sop, ↓aop, ↓reduceIte, LV.cells, AOp.dst, LV.I, LV.B, LV.U, LV.S, LV.nil, Nat.reduceEqDiff, Nat.reduceAdd, Nat.reduceMul, Nat.reduceSub, Nat.reduceLeDiff, Nat.reduceBEq, Nat.reduceDiv, Nat.reduceMod, Int.reduceToNat, Int.reduceLT, Int.reduceLE, Int.reduceAdd, Int.reduceSub, Int.reduceMul, Int.reduceEq, Int.reduceNeg, reduceCtorEq, resV, resAll, ARes.ev, LV.flat, ite_true, ite_false, exists_eq_left', exists_eq_left, keyOf, implies_true, fillC, capOf]
        exact ⟨m - 1, by omega, _, by omega, rfl, h2, h3, eqI (natI _), by omega, by omega, by omega⟩
      · simp (disch := omega) only [h2, h3, h5, ↓SXd, SXu, slBounds, ↓sop, ↓aop, ↓reduceIte, LV.cells, AOp.dst, LV.I, LV.B, LV.U, LV.S, LV.nil, Nat.reduceEqDiff, Nat.reduceAdd, Nat.reduceMul, Nat.reduceSub, Nat.reduceLeDiff, Nat.reduceBEq, Nat.reduceDiv, Nat.reduceMod, Int.reduceToNat, Int.reduceLT, Int.reduceLE, Int.reduceAdd, Int.reduceSub, Int.reduceMul, Int.reduceEq, Int.reduceNeg, reduceCtorEq, resV, resAll, ARes.ev, LV.flat, ite_true, ite_false, exists_eq_left', exists_eq_left, keyOf, implies_true, fillC, capOf]
        rw [decide_eq_false (fun e => he (by injection e))]
        exact cmp_drop rfl
  · simp (disch := omega) only [h2, h3, h5, ↓SXd, SXu, slBounds, ↓sop, ↓aop, ↓reduceIte, LV.cells, AOp.dst, LV.I, LV.B, LV.U, LV.S, LV.nil, Nat.reduceEqDiff, Nat.reduceAdd, Nat.reduceMul, Nat.reduceSub, Nat.reduceLeDiff, Nat.reduceBEq, Nat.reduceDiv, Nat.reduceMod, Int.reduceToNat, Int.reduceLT, Int.reduceLE, Int.reduceAdd, Int.reduceSub, Int.reduceMul, Int.reduceEq, Int.reduceNeg, reduceCtorEq, resV, resAll, ARes.ev, LV.flat, ite_true, ite_false, exists_eq_left', exists_eq_left, keyOf, implies_true, fillC, capOf]
    rw [decide_eq_true (cell_eq.2 ⟨ha (by omega), hb (by omega), hc (by omega)⟩)]
    exact cmp_drop rfl

theorem h_eqIntA3S {t o t' o' : Nat} {cs ds : List Cell} {M : Mem} (h : Tri M t o cs) (h' : Tri M t' o' ds) (hn : cs.length ≤ 1000000000) (hn' : ds.length ≤ 1000000000) :
    CallsTo PG F.laws_eqIntA3S [.ref t o cs.length, .ref t' o' ds.length] M (.B (decide (cs = ds))) M := by
  refine calls_run K.laws_eqIntA3S rfl ?_
  simp (disch := omega) only [C.laws_eqIntA3S, ↓SXd, SXu, slBounds, ↓sop, ↓aop, ↓reduceIte, LV.cells, AOp.dst, LV.I, LV.B, LV.U, LV.S, LV.nil, Nat.reduceEqDiff, Nat.reduceAdd, Nat.reduceMul, Nat.reduceSub, Nat.reduceLeDiff, Nat.reduceBEq, Nat.reduceDiv, Nat.reduceMod, Int.reduceToNat, Int.reduceLT, Int.reduceLE, Int.reduceAdd, Int.reduceSub, Int.reduceMul, Int.reduceEq, Int.reduceNeg, reduceCtorEq, resV, resAll, ARes.ev, LV.flat, ite_true, ite_false, exists_eq_left', exists_eq_left, keyOf, implies_true, fillC, capOf]
  refine condC_dec (fun hl => ?_) (fun hl => ?_)
  · simp (disch := omega) only [↓SXd, SXu, slBounds, ↓sop, ↓aop, ↓reduceIte, LV.cells, AOp.dst, LV.I, LV.B, LV.U, LV.S, LV.nil, Nat.reduceEqDiff, Nat.reduceAdd, Nat.reduceMul, Nat.reduceSub, Nat.reduceLeDiff, Nat.reduceBEq, Nat.reduceDiv, Nat.reduceMod, Int.reduceToNat, Int.reduceLT, Int.reduceLE, Int.reduceAdd, Int.reduceSub, Int.reduceMul, Int.reduceEq, Int.reduceNeg, reduceCtorEq, resV, resAll, ARes.ev, LV.flat, ite_true, ite_false, exists_eq_left', exists_eq_left, keyOf, implies_true, fillC, capOf]
    refine ev_loop (fun m fr M' => ∃ k : Nat, k + m = cs.length ∧ M' = M ∧ fr 0 = .ref t o cs.length ∧ fr 1 = .ref t' o' ds.length ∧ fr 5 = .I k ∧ cs.take k = ds.take k) cs.length ⟨0, by omega, rfl, rfl, rfl, rfl, by simp⟩ ?_
    rintro m fr M' ⟨k, hk, rfl, h0, h1, h5, heq⟩
    simp (disch := omega) only [h0, h1, h5, ↓SXd, SXu, slBounds, ↓sop, ↓aop, ↓reduceIte, LV.cells, AOp.dst, LV.I, LV.B, LV.U, LV.S, LV.nil, Nat.reduceEqDiff, Nat.reduceAdd, Nat.reduceMul, Nat.reduceSub, Nat.reduceLeDiff, Nat.reduceBEq, Nat.reduceDiv, Nat.reduceMod, Int.reduceToNat, Int.reduceLT, Int.reduceLE, Int.reduceAdd, Int.reduceSub, Int.reduceMul, Int.reduceEq, Int.reduceNeg, reduceCtorEq, resV, resAll, ARes.ev, LV.flat, ite_true, ite_false, exists_eq_left', exists_eq_left, keyOf, implies_true, fillC, capOf]
    refine condC_dec (fun hlt => ?_) (fun hlt => ?_)
    · simp (disch := omega) only [h0, h1, h5, h.get, h'.get, ↓SXd, SXu, slBounds, ↓sop, ↓aop, ↓reduceIte, LV.cells, AOp.dst, LV.I, LV.B, LV.U, LV.S, LV.nil, Nat.reduceEqDiff, Nat.reduceAdd, Nat.reduceMul, Nat.reduceSub, Nat.reduceLeDiff, Nat.reduceBEq, Nat.reduceDiv, Nat.reduceMod, Int.reduceToNat, Int.reduceLT, Int.reduceLE, Int.reduceAdd, Int.reduceSub, Int.reduceMul, Int.reduceEq, Int.reduceNeg, reduceCtorEq, resV, resAll, ARes.ev, LV.flat, ite_true, ite_false, exists_eq_left', exists_eq_left, keyOf, implies_true, fillC, capOf]
      refine callK_of h_eqIntA3 ?_
      simp (disch := omega) only [h0, h1, h5, ↓SXd, SXu, slBounds, ↓sop, ↓aop, ↓reduceIte, LV.cells, AOp.dst, LV.I, LV.B, LV.U, LV.S, LV.nil, Nat.reduceEqDiff, Nat.reduceAdd, Nat.reduceMul, Nat.reduceSub, Nat.reduceLeDiff, Nat.reduceBEq, Nat.reduceDiv, Nat.reduceMod, Int.reduceToNat, Int.reduceLT, Int.reduceLE, Int.reduceAdd, Int.reduceSub, Int.reduceMul, Int.reduceEq, Int.reduceNeg, reduceCtorEq, resV, resAll, ARes.ev, LV.flat, ite_true, ite_false, exists_eq_left', exists_eq_left, keyOf, implies_true, fillC, capOf]
      refine condC_dec (fun he => ?_) (fun he => ?_)
      · simp (disch := omega) only [h0, h1, h5, ↓SXd, SXu, slBounds, ↓sop, ↓aop, ↓reduceIte, LV.cells, AOp.dst, LV.I, LV.B, LV.U, LV.S, LV.nil, Nat.reduceEqDiff, Nat.reduceAdd, Nat.reduceMul, Nat.reduceSub, Nat.reduceLeDiff, Nat.reduceBEq, Nat.reduceDiv, Nat.reduceMod, Int.reduceToNat, Int.reduceLT, Int.reduceLE, Int.reduceAdd, Int.reduceSub, Int.reduceMul, Int.reduceEq, Int.reduceNeg, reduceCtorEq, resV, resAll, ARes.ev, LV.flat, ite_true, ite_false, exists_eq_left', exists_eq_left, keyOf, implies_true, fillC, capOf]
        refine ⟨m - 1, by omega, _, by omega, rfl, h0, h1, eqI (natI _), ?_⟩
        have e1 : k < cs.length := by omega
        have e2 : k < ds.length := by omega
        rw [List.take_add_one, List.take_add_one, heq]
        simp only [List.getD_eq_getElem?_getD, e1, e2, getElem?_pos, Option.getD_some] at he
        simp only [e1, e2, getElem?_pos, Option.toList]
        rw [show cs[k] = ds[k] from he]
      · simp (disch := omega) only [h0, h1, h5, ↓SXd, SXu, slBounds, ↓sop, ↓aop, ↓reduceIte, LV.cells, AOp.dst, LV.I, LV.B, LV.U, LV.S, LV.nil, Nat.reduceEqDiff, Nat.reduceAdd, Nat.reduceMul, Nat.reduceSub, Nat.reduceLeDiff, Nat.reduceBEq, Nat.reduceDiv, Nat.reduceMod, Int.reduceToNat, Int.reduceLT, Int.reduceLE, Int.reduceAdd, Int.reduceSub, Int.reduceMul, Int.reduceEq, Int.reduceNeg, reduceCtorEq, resV, resAll, ARes.ev, LV.flat, ite_true, ite_false, exists_eq_left', exists_eq_left, keyOf, implies_true, fillC, capOf]
        rw [decide_eq_false (fun e => he (by rw [e]))]
        exact cmp_drop0 rfl
    · simp (disch := omega) only [↓SXd, SXu, slBounds, ↓sop, ↓aop, ↓reduceIte, LV.cells, AOp.dst, LV.I, LV.B, LV.U, LV.S, LV.nil, Nat.reduceEqDiff, Nat.reduceAdd, Nat.reduceMul, Nat.reduceSub, Nat.reduceLeDiff, Nat.reduceBEq, Nat.reduceDiv, Nat.reduceMod, Int.reduceToNat, Int.reduceLT, Int.reduceLE, Int.reduceAdd, Int.reduceSub, Int.reduceMul, Int.reduceEq, Int.reduceNeg, reduceCtorEq, resV, resAll, ARes.ev, LV.flat, ite_true, ite_false, exists_eq_left', exists_eq_left, keyOf, implies_true, fillC, capOf]
      have : cs = ds := by
        rw [List.take_of_length_le (by omega), List.take_of_length_le (by omega)] at heq
        exact heq
      rw [decide_eq_true this]
      exact cmp_drop0 rfl
  · simp (disch := omega) only [↓SXd, SXu, slBounds, ↓sop, ↓aop, ↓reduceIte, LV.cells, AOp.dst, LV.I, LV.B, LV.U, LV.S, LV.nil, Nat.reduceEqDiff, Nat.reduceAdd, Nat.reduceMul, Nat.reduceSub, Nat.reduceLeDiff, Nat.reduceBEq, Nat.reduceDiv, Nat.reduceMod, Int.reduceToNat, Int.reduceLT, Int.reduceLE, Int.reduceAdd, Int.reduceSub, Int.reduceMul, Int.reduceEq, Int.reduceNeg, reduceCtorEq, resV, resAll, ARes.ev, LV.flat, ite_true, ite_false, exists_eq_left', exists_eq_left, keyOf, implies_true, fillC, capOf]
    rw [decide_eq_false (fun e => hl (by rw [e]))]
    exact cmp_drop0 rfl

theorem h_toIntA3 {a b c : Int} {M : Mem} : CallsTo PG F.laws_toIntA3 [.agg [.I a, .I b, .I c]] M (.agg [.I a, .I b, .I c]) M := by
  refine calls_run K.laws_toIntA3 rfl ?_
  simp (disch := omega) only [C.laws_toIntA3, ↓SXd, SXu, slBounds, ↓sop, ↓aop, ↓reduceIte, LV.cells, AOp.dst, LV.I, LV.B, LV.U, LV.S, LV.nil, Nat.reduceEqDiff, Nat.reduceAdd, Nat.reduceMul, Nat.reduceSub, Nat.reduceLeDiff, Nat.reduceBEq, Nat.reduceDiv, Nat.reduceMod, Int.reduceToNat, Int.reduceLT, Int.reduceLE, Int.reduceAdd, Int.reduceSub, Int.reduceMul, Int.reduceEq, Int.reduceNeg, reduceCtorEq, resV, resAll, ARes.ev, LV.flat, ite_true, ite_false, exists_eq_left', exists_eq_left, keyOf, implies_true, fillC, capOf]
  refine ev_loop (fun m fr M' => ∃ (k : Nat) (x y z : Int), k + m = 3 ∧ M' = M ++ [some (Blk.row [.I a, .I b, .I c] true 0), some (Blk.row [.I 0, .I 0, .I 0] true 0), some (Blk.row [.I x, .I y, .I z] true 0)] ∧
    fr 1 = .ptr M.length 0 ∧ fr 2 = .ptr (M.length + 1) 0 ∧ fr 3 = .ptr (M.length + 2) 0 ∧ fr 4 = .I k ∧ (0 < k → x = a) ∧ (1 < k → y = b) ∧ (2 < k → z = c)) 3 ⟨0, 0, 0, 0, rfl, rfl, rfl, rfl, rfl, rfl, by omega, by omega, by omega⟩ ?_
  rintro m fr M' ⟨k, x, y, z, hk, rfl, h1, h2, h3, h4, ha, hb, hc⟩
  simp (disch := omega) only [h1, h2, h3, h4, ↓SXd, SXu, slBounds, ↓sop, ↓aop, ↓reduceIte, LV.cells, AOp.dst, LV.I, LV.B, LV.U, LV.S, LV.nil, Nat.reduceEqDiff, Nat.reduceAdd, Nat.reduceMul, Nat.reduceSub, Nat.reduceLeDiff, Nat.reduceBEq, Nat.reduceDiv, Nat.reduceMod, Int.reduceToNat, Int.reduceLT, Int.reduceLE, Int.reduceAdd, Int.reduceSub, Int.reduceMul, Int.reduceEq, Int.reduceNeg, reduceCtorEq, resV, resAll, ARes.ev, LV.flat, ite_true, ite_false, exists_eq_left', exists_eq_left, keyOf, implies_true, fillC, capOf]
  refine condC_dec (fun hlt => ?_) (fun hlt => ?_)
  · have hk3 : k = 0 ∨ k = 1 ∨ k = 2 := by omega
    rcases hk3 with rfl | rfl | rfl
    · simp (disch := omega) only [h1, h2, h3, h4, splice, ↓SXd, SXu, slBounds, ↓sop, ↓aop, ↓reduceIte, LV.cells, AOp.dst, LV.I, LV.B, LV.U, LV.S, LV.nil, Nat.reduceEqDiff, Nat.reduceAdd, Nat.reduceMul, Nat.reduceSub, Nat.reduceLeDiff, Nat.reduceBEq, Nat.reduceDiv, Nat.reduceMod, Int.reduceToNat, Int.reduceLT, Int.reduceLE, Int.reduceAdd, Int.reduceSub, Int.reduceMul, Int.reduceEq, Int.reduceNeg, reduceCtorEq, resV, resAll, ARes.ev, LV.flat, ite_true, ite_false, exists_eq_left', exists_eq_left, keyOf, implies_true, fillC, capOf]
      exact ⟨m - 1, by omega, 1, a, y, z, by omega, rfl, h1, h2, h3, rfl, by omega, by omega, by omega⟩
    · simp (disch := omega) only [h1, h2, h3, h4, splice, ↓SXd, SXu, slBounds, ↓sop, ↓aop, ↓reduceIte, LV.cells, AOp.dst, LV.I, LV.B, LV.U, LV.S, LV.nil, Nat.reduceEqDiff, Nat.reduceAdd, Nat.reduceMul, Nat.reduceSub, Nat.reduceLeDiff, Nat.reduceBEq, Nat.reduceDiv, Nat.reduceMod, Int.reduceToNat, Int.reduceLT, Int.reduceLE, Int.reduceAdd, Int.reduceSub, Int.reduceMul, Int.reduceEq, Int.reduceNeg, reduceCtorEq, resV, resAll, ARes.ev, LV.flat, ite_true, ite_false, exists_eq_left', exists_eq_left, keyOf, implies_true, fillC, capOf]
      exact ⟨m - 1, by omega, 2, x, b, z, by omega, rfl, h1, h2, h3, rfl, by omega, by omega, by omega⟩
    · simp (disch := omega) only [h1, h2, h3, h4, splice, ↓SXd, SXu, slBounds, ↓sop, ↓aop, ↓reduceIte, LV.cells, AOp.dst, LV.I, LV.B, LV.U, LV.S, LV.nil, Nat.reduceEqDiff, Nat.reduceAdd, Nat.reduceMul, Nat.reduceSub, Nat.reduceLeDiff, Nat.reduceBEq, Nat.reduceDiv, Nat.reduceMod, Int.reduceToNat, Int.reduceLT, Int.reduceLE, Int.reduceAdd, Int.reduceSub, Int.reduceMul, Int.reduceEq, Int.reduceNeg, reduceCtorEq, resV, resAll, ARes.ev, LV.flat, ite_true, ite_false, exists_eq_left', exists_eq_left, keyOf, implies_true, fillC, capOf]
      exact ⟨m - 1, by omega, 3, x, y, c, by omega, rfl, h1, h2, h3, rfl, by omega, by omega, by omega⟩
  · simp (disch := omega) only [h1, h2, h3, h4, splice, ↓SXd, SXu, slBounds, ↓sop, ↓aop, ↓reduceIte, LV.cells, AOp.dst, LV.I, LV.B, LV.U, LV.S, LV.nil, Nat.reduceEqDiff, Nat.reduceAdd, Nat.reduceMul, Nat.reduceSub, Nat.reduceLeDiff, Nat.reduceBEq, Nat.reduceDiv, Nat.reduceMod, Int.reduceToNat, Int.reduceLT, Int.reduceLE, Int.reduceAdd, Int.reduceSub, Int.reduceMul, Int.reduceEq, Int.reduceNeg, reduceCtorEq, resV, resAll, ARes.ev, LV.flat, ite_true, ite_false, exists_eq_left', exists_eq_left, keyOf, implies_true, fillC, capOf]
    rw [ha (by omega), hb (by omega), hc (by omega)]
    exact cmp_drop rfl

theorem h_toIntA3S {t o : Nat} {cs : List Cell} {M : Mem} (h : Tri M t o cs) (hn : cs.length ≤ 1000000000) :
    CallsTo PG F.laws_toIntA3S [.ref t o cs.length] M (.ref M.length 0 cs.length) (M ++ [some (.row (triL cs) true 3)]) := by
  refine calls_run K.laws_toIntA3S rfl ?_
  simp (disch := omega) only [C.laws_toIntA3S, made_tri, ↓SXd, SXu, slBounds, ↓sop, ↓aop, ↓reduceIte, LV.cells, AOp.dst, LV.I, LV.B, LV.U, LV.S, LV.nil, Nat.reduceEqDiff, Nat.reduceAdd, Nat.reduceMul, Nat.reduceSub, Nat.reduceLeDiff, Nat.reduceBEq, Nat.reduceDiv, Nat.reduceMod, Int.reduceToNat, Int.reduceLT, Int.reduceLE, Int.reduceAdd, Int.reduceSub, Int.reduceMul, Int.reduceEq, Int.reduceNeg, reduceCtorEq, resV, resAll, ARes.ev, LV.flat, ite_true, ite_false, exists_eq_left', exists_eq_left, keyOf, implies_true, fillC, capOf]
  refine ev_loop (fun m fr M' => ∃ k : Nat, k + m = cs.length ∧ M' = M ++ [some (.row (triL (cs.take k ++ List.replicate (cs.length - k) default)) true 3)] ∧ fr 0 = .ref t o cs.length ∧ fr 3 = .ref M.length 0 cs.length ∧ fr 4 = .I k) cs.length
    ⟨0, by omega, rfl, rfl, rfl, rfl⟩ ?_
  rintro m fr M' ⟨k, hk, rfl, h0, h3, h4⟩
  have hlen : (cs.take k ++ List.replicate (cs.length - k) default).length = cs.length := by simp; omega
  have ht := h.lt
  simp (disch := omega) only [h0, h3, h4, ↓SXd, SXu, slBounds, ↓sop, ↓aop, ↓reduceIte, LV.cells, AOp.dst, LV.I, LV.B, LV.U, LV.S, LV.nil, Nat.reduceEqDiff, Nat.reduceAdd, Nat.reduceMul, Nat.reduceSub, Nat.reduceLeDiff, Nat.reduceBEq, Nat.reduceDiv, Nat.reduceMod, Int.reduceToNat, Int.reduceLT, Int.reduceLE, Int.reduceAdd, Int.reduceSub, Int.reduceMul, Int.reduceEq, Int.reduceNeg, reduceCtorEq, resV, resAll, ARes.ev, LV.flat, ite_true, ite_false, exists_eq_left', exists_eq_left, keyOf, implies_true, fillC, capOf]
  refine condC_dec (fun hlt => ?_) (fun hlt => ?_)
  · simp (disch := omega) only [h0, h3, h4, getCells_app, h.get, Cell.row, ↓SXd, SXu, slBounds, ↓sop, ↓aop, ↓reduceIte, LV.cells, AOp.dst, LV.I, LV.B, LV.U, LV.S, LV.nil, Nat.reduceEqDiff, Nat.reduceAdd, Nat.reduceMul, Nat.reduceSub, Nat.reduceLeDiff, Nat.reduceBEq, Nat.reduceDiv, Nat.reduceMod, Int.reduceToNat, Int.reduceLT, Int.reduceLE, Int.reduceAdd, Int.reduceSub, Int.reduceMul, Int.reduceEq, Int.reduceNeg, reduceCtorEq, resV, resAll, ARes.ev, LV.flat, ite_true, ite_false, exists_eq_left', exists_eq_left, keyOf, implies_true, fillC, capOf]
    refine callK_of h_toIntA3 ?_
    simp (disch := omega) only [h0, h3, h4, triL_len, hlen, splice_tri, ↓SXd, SXu, slBounds, ↓sop, ↓aop, ↓reduceIte, LV.cells, AOp.dst, LV.I, LV.B, LV.U, LV.S, LV.nil, Nat.reduceEqDiff, Nat.reduceAdd, Nat.reduceMul, Nat.reduceSub, Nat.reduceLeDiff, Nat.reduceBEq, Nat.reduceDiv, Nat.reduceMod, Int.reduceToNat, Int.reduceLT, Int.reduceLE, Int.reduceAdd, Int.reduceSub, Int.reduceMul, Int.reduceEq, Int.reduceNeg, reduceCtorEq, resV, resAll, ARes.ev, LV.flat, ite_true, ite_false, exists_eq_left', exists_eq_left, keyOf, implies_true, fillC, capOf]
    refine ⟨m - 1, by omega, k + 1, by omega, ?_, h0, h3, eqI (natI _)⟩
    rw [← fill_step (by omega)]
  · simp (disch := omega) only [h0, h3, h4, ↓SXd, SXu, slBounds, ↓sop, ↓aop, ↓reduceIte, LV.cells, AOp.dst, LV.I, LV.B, LV.U, LV.S, LV.nil, Nat.reduceEqDiff, Nat.reduceAdd, Nat.reduceMul, Nat.reduceSub, Nat.reduceLeDiff, Nat.reduceBEq, Nat.reduceDiv, Nat.reduceMod, Int.reduceToNat, Int.reduceLT, Int.reduceLE, Int.reduceAdd, Int.reduceSub, Int.reduceMul, Int.reduceEq, Int.reduceNeg, reduceCtorEq, resV, resAll, ARes.ev, LV.flat, ite_true, ite_false, exists_eq_left', exists_eq_left, keyOf, implies_true, fillC, capOf]
    have hk' : k = cs.length := by omega
    subst hk'
    rw [List.take_length, Nat.sub_self, List.replicate_zero, List.append_nil]
    exact cmp_keep0 (triL_lo cs)

theorem h_toHeap {x y z : Int} {t o : Nat} {cs : List Cell} {M : Mem} (h : Tri M t o cs) (hn : cs.length ≤ 1000000000) :
    CallsTo PG F.laws_toHeap [.agg [.I x, .I y, .I z, .ref t o cs.length]] M (.agg [.I x, .I y, .I z, .ref M.length 0 cs.length]) (M ++ [some (.row (triL cs) true 3)]) := by
  refine calls_run K.laws_toHeap rfl ?_
  simp (disch := omega) only [C.laws_toHeap, splice, ↓SXd, SXu, slBounds, ↓sop, ↓aop, ↓reduceIte, LV.cells, AOp.dst, LV.I, LV.B, LV.U, LV.S, LV.nil, Nat.reduceEqDiff, Nat.reduceAdd, Nat.reduceMul, Nat.reduceSub, Nat.reduceLeDiff, Nat.reduceBEq, Nat.reduceDiv, Nat.reduceMod, Int.reduceToNat, Int.reduceLT, Int.reduceLE, Int.reduceAdd, Int.reduceSub, Int.reduceMul, Int.reduceEq, Int.reduceNeg, reduceCtorEq, resV, resAll, ARes.ev, LV.flat, ite_true, ite_false, exists_eq_left', exists_eq_left, keyOf, implies_true, fillC, capOf]
  refine callK_of (h_toIntA3S h.app hn) ?_
  simp (disch := omega) only [splice, ↓SXd, SXu, slBounds, ↓sop, ↓aop, ↓reduceIte, LV.cells, AOp.dst, LV.I, LV.B, LV.U, LV.S, LV.nil, Nat.reduceEqDiff, Nat.reduceAdd, Nat.reduceMul, Nat.reduceSub, Nat.reduceLeDiff, Nat.reduceBEq, Nat.reduceDiv, Nat.reduceMod, Int.reduceToNat, Int.reduceLT, Int.reduceLE, Int.reduceAdd, Int.reduceSub, Int.reduceMul, Int.reduceEq, Int.reduceNeg, reduceCtorEq, resV, resAll, ARes.ev, LV.flat, ite_true, ite_false, exists_eq_left', exists_eq_left, keyOf, implies_true, fillC, capOf]
  exact cmp_keep1 (j := 3) rfl (triL_lo cs) (by simp [rn, rn0, rn1, keepR_n, keepR_lt h.lt])

theorem h_eqHeap {x y z x' y' z' : Int} {t o t' o' : Nat} {cs ds : List Cell} {M : Mem} (h : Tri M t o cs) (h' : Tri M t' o' ds) (hn : cs.length ≤ 1000000000) (hn' : ds.length ≤ 1000000000) :
    CallsTo PG F.laws_eqHeap [.agg [.I x, .I y, .I z, .ref t o cs.length], .agg [.I x', .I y', .I z', .ref t' o' ds.length]] M (.B (decide (x = x' ∧ y = y' ∧ z = z' ∧ cs = ds))) M := by
  refine calls_run K.laws_eqHeap rfl ?_
  simp (disch := omega) only [C.laws_eqHeap, ↓SXd, SXu, slBounds, ↓sop, ↓aop, ↓reduceIte, LV.cells, AOp.dst, LV.I, LV.B, LV.U, LV.S, LV.nil, Nat.reduceEqDiff, Nat.reduceAdd, Nat.reduceMul, Nat.reduceSub, Nat.reduceLeDiff, Nat.reduceBEq, Nat.reduceDiv, Nat.reduceMod, Int.reduceToNat, Int.reduceLT, Int.reduceLE, Int.reduceAdd, Int.reduceSub, Int.reduceMul, Int.reduceEq, Int.reduceNeg, reduceCtorEq, resV, resAll, ARes.ev, LV.flat, ite_true, ite_false, exists_eq_left', exists_eq_left, keyOf, implies_true, fillC, capOf]
  refine condC_dec (fun h1 => ?_) (fun h1 => ?_) <;> simp (disch := omega) only [↓SXd, SXu, slBounds, ↓sop, ↓aop, ↓reduceIte, LV.cells, AOp.dst, LV.I, LV.B, LV.U, LV.S, LV.nil, Nat.reduceEqDiff, Nat.reduceAdd, Nat.reduceMul, Nat.reduceSub, Nat.reduceLeDiff, Nat.reduceBEq, Nat.reduceDiv, Nat.reduceMod, Int.reduceToNat, Int.reduceLT, Int.reduceLE, Int.reduceAdd, Int.reduceSub, Int.reduceMul, Int.reduceEq, Int.reduceNeg, reduceCtorEq, resV, resAll, ARes.ev, LV.flat, ite_true, ite_false, exists_eq_left', exists_eq_left, keyOf, implies_true, fillC, capOf]
  · refine condC_dec (fun h2 => ?_) (fun h2 => ?_) <;> simp (disch := omega) only [↓SXd, SXu, slBounds, ↓sop, ↓aop, ↓reduceIte, LV.cells, AOp.dst, LV.I, LV.B, LV.U, LV.S, LV.nil, Nat.reduceEqDiff, Nat.reduceAdd, Nat.reduceMul, Nat.reduceSub, Nat.reduceLeDiff, Nat.reduceBEq, Nat.reduceDiv, Nat.reduceMod, Int.reduceToNat, Int.reduceLT, Int.reduceLE, Int.reduceAdd, Int.reduceSub, Int.reduceMul, Int.reduceEq, Int.reduceNeg, reduceCtorEq, resV, resAll, ARes.ev, LV.flat, ite_true, ite_false, exists_eq_left', exists_eq_left, keyOf, implies_true, fillC, capOf]
    · refine condC_dec (fun h3 => ?_) (fun h3 => ?_) <;> simp (disch := omega) only [↓SXd, SXu, slBounds, ↓sop, ↓aop, ↓reduceIte, LV.cells, AOp.dst, LV.I, LV.B, LV.U, LV.S, LV.nil, Nat.reduceEqDiff, Nat.reduceAdd, Nat.reduceMul, Nat.reduceSub, Nat.reduceLeDiff, Nat.reduceBEq, Nat.reduceDiv, Nat.reduceMod, Int.reduceToNat, Int.reduceLT, Int.reduceLE, Int.reduceAdd, Int.reduceSub, Int.reduceMul, Int.reduceEq, Int.reduceNeg, reduceCtorEq, resV, resAll, ARes.ev, LV.flat, ite_true, ite_false, exists_eq_left', exists_eq_left, keyOf, implies_true, fillC, capOf]
      · refine callK_of (h_eqIntA3S h.app h'.app hn hn') ?_
        simp (disch := omega) only [↓SXd, SXu, slBounds, ↓sop, ↓aop, ↓reduceIte, LV.cells, AOp.dst, LV.I, LV.B, LV.U, LV.S, LV.nil, Nat.reduceEqDiff, Nat.reduceAdd, Nat.reduceMul, Nat.reduceSub, Nat.reduceLeDiff, Nat.reduceBEq, Nat.reduceDiv, Nat.reduceMod, Int.reduceToNat, Int.reduceLT, Int.reduceLE, Int.reduceAdd, Int.reduceSub, Int.reduceMul, Int.reduceEq, Int.reduceNeg, reduceCtorEq, resV, resAll, ARes.ev, LV.flat, ite_true, ite_false, exists_eq_left', exists_eq_left, keyOf, implies_true, fillC, capOf]
        refine condC_dec (fun h4 => ?_) (fun h4 => ?_) <;> simp (disch := omega) only [↓SXd, SXu, slBounds, ↓sop, ↓aop, ↓reduceIte, LV.cells, AOp.dst, LV.I, LV.B, LV.U, LV.S, LV.nil, Nat.reduceEqDiff, Nat.reduceAdd, Nat.reduceMul, Nat.reduceSub, Nat.reduceLeDiff, Nat.reduceBEq, Nat.reduceDiv, Nat.reduceMod, Int.reduceToNat, Int.reduceLT, Int.reduceLE, Int.reduceAdd, Int.reduceSub, Int.reduceMul, Int.reduceEq, Int.reduceNeg, reduceCtorEq, resV, resAll, ARes.ev, LV.flat, ite_true, ite_false, exists_eq_left', exists_eq_left, keyOf, implies_true, fillC, capOf]
        · rw [decide_eq_true ⟨h1, h2, h3, h4⟩]; exact cmp_drop rfl
        · rw [decide_eq_false (fun e => h4 e.2.2.2)]; exact cmp_drop rfl
      · rw [decide_eq_false (fun e => h3 e.2.2.1)]; exact cmp_drop rfl
    · rw [decide_eq_false (fun e => h2 e.2.1)]; exact cmp_drop rfl
  · rw [decide_eq_false (fun e => h1 e.1)]; exact cmp_drop rfl
end Go.Ab

/- Contracts: the laws' helpers on lists of cells, and on heaps. -/
namespace Go.Ab
open Go
set_option linter.unusedSimpArgs false
set_option linter.unusedVariables false

/-- A list of cells that may be read. -/
def CellsV (N : Mem) (v : LV) (l : List Cell) : Prop := (v = .nil ∧ l = []) ∨ ∃ t o, v = .ref t o l.length ∧ Tri N t o l
/-- A list of cells that is one's own. -/
def SlC (N : Mem) (v : LV) (l : List Cell) : Prop := (v = .nil ∧ l = []) ∨ ∃ t ex, v = .ref t 0 l.length ∧ Live N t (.row (triL (l ++ ex)) true 3)
theorem SlC.v {N : Mem} {v : LV} {l : List Cell} (h : SlC N v l) : CellsV N v l := by
  rcases h with h | ⟨t, ex, h1, h2⟩
  · exact .inl h
  · rw [triL_append] at h2; exact .inr ⟨t, 0, h1, h2.hasL⟩
theorem CellsV.pre {M N : Mem} {v : LV} {l : List Cell} (h : CellsV M v l) (hp : Pre M N) : CellsV N v l := by
  rcases h with h | ⟨t, o, h1, h2⟩
  · exact .inl h
  · exact .inr ⟨t, o, h1, h2.pre hp⟩
theorem SlC.pre {M N : Mem} {v : LV} {l : List Cell} (h : SlC M v l) (hp : Pre M N) : SlC N v l := by
  rcases h with h | ⟨t, ex, h1, h2⟩
  · exact .inl h
  · exact .inr ⟨t, ex, h1, h2.pre hp⟩
theorem SlC.nil {N : Mem} : SlC N .nil [] := .inl ⟨rfl, rfl⟩
theorem CellsV.nil {N : Mem} : CellsV N .nil [] := .inl ⟨rfl, rfl⟩
theorem SlC.of {N : Mem} {t : Nat} {l : List Cell} (h : Live N t (.row (triL l) true 3)) : SlC N (.ref t 0 l.length) l := .inr ⟨t, [], rfl, by simpa using h⟩
theorem CellsV.of {N : Mem} {t o : Nat} {l : List Cell} (h : Tri N t o l) : CellsV N (.ref t o l.length) l := .inr ⟨t, o, rfl, h⟩

def marks3 (k : Int) (n : Nat) : List Cell := (List.range n).map fun (i : Nat) => ⟨k + 3 * (i : Int), k + 3 * (i : Int) + 1, k + 3 * (i : Int) + 2⟩
theorem marks3_len (k : Int) (n : Nat) : (marks3 k n).length = n := by simp [marks3]
theorem marks3_get {k : Int} {n i : Nat} (h : i < n) : (marks3 k n).getD i default = ⟨k + 3 * i, k + 3 * i + 1, k + 3 * i + 2⟩ := by simp [marks3, h]

theorem h_eqIntA3S_n {l' : List Cell} {v' : LV} {M : Mem} (h' : CellsV M v' l') (hn' : l'.length ≤ 1000000000) : CallsTo PG F.laws_eqIntA3S [.nil, v'] M (.B (decide ([] = l'))) M := by
  refine calls_run K.laws_eqIntA3S rfl ?_
  have hlen : lenV v' = some (l'.length : Int) := by
    rcases h' with ⟨rfl, rfl⟩ | ⟨t, o, rfl, _⟩ <;> rfl
  simp (disch := omega) only [C.laws_eqIntA3S, hlen, ↓SXd, SXu, slBounds, ↓sop, ↓aop, ↓reduceIte, LV.cells, AOp.dst, LV.I, LV.B, LV.U, LV.S, LV.nil, Nat.reduceEqDiff, Nat.reduceAdd, Nat.reduceMul, Nat.reduceSub, Nat.reduceLeDiff, Nat.reduceBEq, Nat.reduceDiv, Nat.reduceMod, Int.reduceToNat, Int.reduceLT, Int.reduceLE, Int.reduceAdd, Int.reduceSub, Int.reduceMul, Int.reduceEq, Int.reduceNeg, reduceCtorEq, resV, resAll, ARes.ev, LV.flat, ite_true, ite_false, exists_eq_left', exists_eq_left, keyOf, implies_true, fillC, capOf]
  refine condC_dec (fun hl => ?_) (fun hl => ?_)
  rotate_left
  · rw [show decide ([] = l') = false from decide_eq_false (fun e => by subst e; exact (hl rfl).elim)]
    simp (disch := omega) only [↓SXd, SXu, slBounds, ↓sop, ↓aop, ↓reduceIte, LV.cells, AOp.dst, LV.I, LV.B, LV.U, LV.S, LV.nil, Nat.reduceEqDiff, Nat.reduceAdd, Nat.reduceMul, Nat.reduceSub, Nat.reduceLeDiff, Nat.reduceBEq, Nat.reduceDiv, Nat.reduceMod, Int.reduceToNat, Int.reduceLT, Int.reduceLE, Int.reduceAdd, Int.reduceSub, Int.reduceMul, Int.reduceEq, Int.reduceNeg, reduceCtorEq, resV, resAll, ARes.ev, LV.flat, ite_true, ite_false, exists_eq_left', exists_eq_left, keyOf, implies_true, fillC, capOf]
    exact cmp_drop0 rfl
  · simp (disch := omega) only [↓SXd, SXu, slBounds, ↓sop, ↓aop, ↓reduceIte, LV.cells, AOp.dst, LV.I, LV.B, LV.U, LV.S, LV.nil, Nat.reduceEqDiff, Nat.reduceAdd, Nat.reduceMul, Nat.reduceSub, Nat.reduceLeDiff, Nat.reduceBEq, Nat.reduceDiv, Nat.reduceMod, Int.reduceToNat, Int.reduceLT, Int.reduceLE, Int.reduceAdd, Int.reduceSub, Int.reduceMul, Int.reduceEq, Int.reduceNeg, reduceCtorEq, resV, resAll, ARes.ev, LV.flat, ite_true, ite_false, exists_eq_left', exists_eq_left, keyOf, implies_true, fillC, capOf]
    refine ev_loop (fun m fr M' => M' = M ∧ fr 0 = .nil ∧ fr 5 = .I 0) 0 ⟨rfl, rfl, rfl⟩ ?_
    rintro m fr M' ⟨rfl, h0, h5⟩
    simp (disch := omega) only [h0, h5, ↓SXd, SXu, slBounds, ↓sop, ↓aop, ↓reduceIte, LV.cells, AOp.dst, LV.I, LV.B, LV.U, LV.S, LV.nil, Nat.reduceEqDiff, Nat.reduceAdd, Nat.reduceMul, Nat.reduceSub, Nat.reduceLeDiff, Nat.reduceBEq, Nat.reduceDiv, Nat.reduceMod, Int.reduceToNat, Int.reduceLT, Int.reduceLE, Int.reduceAdd, Int.reduceSub, Int.reduceMul, Int.reduceEq, Int.reduceNeg, reduceCtorEq, resV, resAll, ARes.ev, LV.flat, ite_true, ite_false, exists_eq_left', exists_eq_left, keyOf, implies_true, fillC, capOf]
    rw [decide_eq_true (List.eq_nil_of_length_eq_zero (by simpa using hl.symm)).symm]
    exact cmp_drop0 rfl

theorem h_eqIntA3S_rn {l : List Cell} {t o : Nat} {M : Mem} (h : Tri M t o l) (hn : l.length ≤ 1000000000) : CallsTo PG F.laws_eqIntA3S [.ref t o l.length, .nil] M (.B (decide (l = []))) M := by
  refine calls_run K.laws_eqIntA3S rfl ?_
  simp (disch := omega) only [C.laws_eqIntA3S, ↓SXd, SXu, slBounds, ↓sop, ↓aop, ↓reduceIte, LV.cells, AOp.dst, LV.I, LV.B, LV.U, LV.S, LV.nil, Nat.reduceEqDiff, Nat.reduceAdd, Nat.reduceMul, Nat.reduceSub, Nat.reduceLeDiff, Nat.reduceBEq, Nat.reduceDiv, Nat.reduceMod, Int.reduceToNat, Int.reduceLT, Int.reduceLE, Int.reduceAdd, Int.reduceSub, Int.reduceMul, Int.reduceEq, Int.reduceNeg, reduceCtorEq, resV, resAll, ARes.ev, LV.flat, ite_true, ite_false, exists_eq_left', exists_eq_left, keyOf, implies_true, fillC, capOf]
  refine condC_dec (fun hl => ?_) (fun hl => ?_)
  rotate_left
  · rw [show decide (l = []) = false from decide_eq_false (fun e => by subst e; exact (hl rfl).elim)]
    simp (disch := omega) only [↓SXd, SXu, slBounds, ↓sop, ↓aop, ↓reduceIte, LV.cells, AOp.dst, LV.I, LV.B, LV.U, LV.S, LV.nil, Nat.reduceEqDiff, Nat.reduceAdd, Nat.reduceMul, Nat.reduceSub, Nat.reduceLeDiff, Nat.reduceBEq, Nat.reduceDiv, Nat.reduceMod, Int.reduceToNat, Int.reduceLT, Int.reduceLE, Int.reduceAdd, Int.reduceSub, Int.reduceMul, Int.reduceEq, Int.reduceNeg, reduceCtorEq, resV, resAll, ARes.ev, LV.flat, ite_true, ite_false, exists_eq_left', exists_eq_left, keyOf, implies_true, fillC, capOf]
    exact cmp_drop0 rfl
  · simp (disch := omega) only [↓SXd, SXu, slBounds, ↓sop, ↓aop, ↓reduceIte, LV.cells, AOp.dst, LV.I, LV.B, LV.U, LV.S, LV.nil, Nat.reduceEqDiff, Nat.reduceAdd, Nat.reduceMul, Nat.reduceSub, Nat.reduceLeDiff, Nat.reduceBEq, Nat.reduceDiv, Nat.reduceMod, Int.reduceToNat, Int.reduceLT, Int.reduceLE, Int.reduceAdd, Int.reduceSub, Int.reduceMul, Int.reduceEq, Int.reduceNeg, reduceCtorEq, resV, resAll, ARes.ev, LV.flat, ite_true, ite_false, exists_eq_left', exists_eq_left, keyOf, implies_true, fillC, capOf]
    have hz : l.length = 0 := by omega
    refine ev_loop (fun m fr M' => M' = M ∧ fr 0 = .ref t o l.length ∧ fr 5 = .I 0) 0 ⟨rfl, rfl, rfl⟩ ?_
    rintro m fr M' ⟨rfl, h0, h5⟩
    simp (disch := omega) only [h0, h5, hz, ↓SXd, SXu, slBounds, ↓sop, ↓aop, ↓reduceIte, LV.cells, AOp.dst, LV.I, LV.B, LV.U, LV.S, LV.nil, Nat.reduceEqDiff, Nat.reduceAdd, Nat.reduceMul, Nat.reduceSub, Nat.reduceLeDiff, Nat.reduceBEq, Nat.reduceDiv, Nat.reduceMod, Int.reduceToNat, Int.reduceLT, Int.reduceLE, Int.reduceAdd, Int.reduceSub, Int.reduceMul, Int.reduceEq, Int.reduceNeg, reduceCtorEq, resV, resAll, ARes.ev, LV.flat, ite_true, ite_false, exists_eq_left', exists_eq_left, keyOf, implies_true, fillC, capOf]
    rw [decide_eq_true (List.eq_nil_of_length_eq_zero hz)]
    exact cmp_drop0 rfl

theorem h_eqCells {l l' : List Cell} {v v' : LV} {M : Mem} (h : CellsV M v l) (h' : CellsV M v' l') (hn : l.length ≤ 1000000000) (hn' : l'.length ≤ 1000000000) :
    CallsTo PG F.laws_eqIntA3S [v, v'] M (.B (decide (l = l'))) M := by
  rcases h with ⟨rfl, rfl⟩ | ⟨t, o, rfl, h⟩
  · exact h_eqIntA3S_n h' hn'
  · rcases h' with ⟨rfl, rfl⟩ | ⟨t', o', rfl, h'⟩
    · exact h_eqIntA3S_rn h hn
    · exact h_eqIntA3S h h' hn hn'

theorem h_eqHeapV {x y z x' y' z' : Int} {v v' : LV} {cs ds : List Cell} {M : Mem} (h : CellsV M v cs) (h' : CellsV M v' ds) (hn : cs.length ≤ 1000000000) (hn' : ds.length ≤ 1000000000) :
    CallsTo PG F.laws_eqHeap [.agg [.I x, .I y, .I z, v], .agg [.I x', .I y', .I z', v']] M (.B (decide (x = x' ∧ y = y' ∧ z = z' ∧ cs = ds))) M := by
  have hv : ∀ {v : LV} {l : List Cell}, CellsV M v l → v.one = true ∧ v.cells = some [v] ∧ v.lo1 M.length = true := fun {v l} h => by
    rcases h with ⟨rfl, rfl⟩ | ⟨t, o, rfl, h⟩
    · exact ⟨rfl, rfl, rfl⟩
    · exact ⟨rfl, rfl, decide_eq_true h.lt⟩
  refine calls_run K.laws_eqHeap rfl ?_
  simp (disch := omega) only [C.laws_eqHeap, ↓SXd, SXu, slBounds, ↓sop, ↓aop, ↓reduceIte, LV.cells, AOp.dst, LV.I, LV.B, LV.U, LV.S, LV.nil, Nat.reduceEqDiff, Nat.reduceAdd, Nat.reduceMul, Nat.reduceSub, Nat.reduceLeDiff, Nat.reduceBEq, Nat.reduceDiv, Nat.reduceMod, Int.reduceToNat, Int.reduceLT, Int.reduceLE, Int.reduceAdd, Int.reduceSub, Int.reduceMul, Int.reduceEq, Int.reduceNeg, reduceCtorEq, resV, resAll, ARes.ev, LV.flat, ite_true, ite_false, exists_eq_left', exists_eq_left, keyOf, implies_true, fillC, capOf]
  refine condC_dec (fun h1 => ?_) (fun h1 => ?_) <;> simp (disch := omega) only [↓SXd, SXu, slBounds, ↓sop, ↓aop, ↓reduceIte, LV.cells, AOp.dst, LV.I, LV.B, LV.U, LV.S, LV.nil, Nat.reduceEqDiff, Nat.reduceAdd, Nat.reduceMul, Nat.reduceSub, Nat.reduceLeDiff, Nat.reduceBEq, Nat.reduceDiv, Nat.reduceMod, Int.reduceToNat, Int.reduceLT, Int.reduceLE, Int.reduceAdd, Int.reduceSub, Int.reduceMul, Int.reduceEq, Int.reduceNeg, reduceCtorEq, resV, resAll, ARes.ev, LV.flat, ite_true, ite_false, exists_eq_left', exists_eq_left, keyOf, implies_true, fillC, capOf]
  · refine condC_dec (fun h2 => ?_) (fun h2 => ?_) <;> simp (disch := omega) only [↓SXd, SXu, slBounds, ↓sop, ↓aop, ↓reduceIte, LV.cells, AOp.dst, LV.I, LV.B, LV.U, LV.S, LV.nil, Nat.reduceEqDiff, Nat.reduceAdd, Nat.reduceMul, Nat.reduceSub, Nat.reduceLeDiff, Nat.reduceBEq, Nat.reduceDiv, Nat.reduceMod, Int.reduceToNat, Int.reduceLT, Int.reduceLE, Int.reduceAdd, Int.reduceSub, Int.reduceMul, Int.reduceEq, Int.reduceNeg, reduceCtorEq, resV, resAll, ARes.ev, LV.flat, ite_true, ite_false, exists_eq_left', exists_eq_left, keyOf, implies_true, fillC, capOf]
    · refine condC_dec (fun h3 => ?_) (fun h3 => ?_) <;> simp (disch := omega) only [↓SXd, SXu, slBounds, ↓sop, ↓aop, ↓reduceIte, LV.cells, AOp.dst, LV.I, LV.B, LV.U, LV.S, LV.nil, Nat.reduceEqDiff, Nat.reduceAdd, Nat.reduceMul, Nat.reduceSub, Nat.reduceLeDiff, Nat.reduceBEq, Nat.reduceDiv, Nat.reduceMod, Int.reduceToNat, Int.reduceLT, Int.reduceLE, Int.reduceAdd, Int.reduceSub, Int.reduceMul, Int.reduceEq, Int.reduceNeg, reduceCtorEq, resV, resAll, ARes.ev, LV.flat, ite_true, ite_false, exists_eq_left', exists_eq_left, keyOf, implies_true, fillC, capOf]
      · refine callK_of (h_eqCells (h.pre (Pre.app _ _)) (h'.pre (Pre.app _ _)) hn hn') ?_
        simp (disch := omega) only [↓SXd, SXu, slBounds, ↓sop, ↓aop, ↓reduceIte, LV.cells, AOp.dst, LV.I, LV.B, LV.U, LV.S, LV.nil, Nat.reduceEqDiff, Nat.reduceAdd, Nat.reduceMul, Nat.reduceSub, Nat.reduceLeDiff, Nat.reduceBEq, Nat.reduceDiv, Nat.reduceMod, Int.reduceToNat, Int.reduceLT, Int.reduceLE, Int.reduceAdd, Int.reduceSub, Int.reduceMul, Int.reduceEq, Int.reduceNeg, reduceCtorEq, resV, resAll, ARes.ev, LV.flat, ite_true, ite_false, exists_eq_left', exists_eq_left, keyOf, implies_true, fillC, capOf]
        refine condC_dec (fun h4 => ?_) (fun h4 => ?_) <;> simp (disch := omega) only [↓SXd, SXu, slBounds, ↓sop, ↓aop, ↓reduceIte, LV.cells, AOp.dst, LV.I, LV.B, LV.U, LV.S, LV.nil, Nat.reduceEqDiff, Nat.reduceAdd, Nat.reduceMul, Nat.reduceSub, Nat.reduceLeDiff, Nat.reduceBEq, Nat.reduceDiv, Nat.reduceMod, Int.reduceToNat, Int.reduceLT, Int.reduceLE, Int.reduceAdd, Int.reduceSub, Int.reduceMul, Int.reduceEq, Int.reduceNeg, reduceCtorEq, resV, resAll, ARes.ev, LV.flat, ite_true, ite_false, exists_eq_left', exists_eq_left, keyOf, implies_true, fillC, capOf]
        · rw [decide_eq_true ⟨h1, h2, h3, h4⟩]; exact cmp_drop rfl
        · rw [decide_eq_false (fun e => h4 e.2.2.2)]; exact cmp_drop rfl
      · rw [decide_eq_false (fun e => h3 e.2.2.1)]; exact cmp_drop rfl
    · rw [decide_eq_false (fun e => h2 e.2.1)]; exact cmp_drop rfl
  · rw [decide_eq_false (fun e => h1 e.1)]; exact cmp_drop rfl

theorem marks3_step {k : Int} {l : List Cell} {i : Nat} (h : i < l.length) : (marks3 k i ++ l.drop i).set i ⟨k + 3 * i, k + 3 * i + 1, k + 3 * i + 2⟩ = marks3 k (i + 1) ++ l.drop (i + 1) := by
  rw [List.set_append_right _ _ (by rw [marks3_len]; omega), marks3_len, Nat.sub_self, List.drop_eq_getElem_cons h, List.set_cons_zero]
  simp [marks3, List.range_succ, List.append_assoc]

/-- What a marking leaves. -/
def Marked3 (M : Mem) (v : LV) (k : Int) (n : Nat) (r : LV) (N : Mem) : Prop := r = .I (k + 3 * n) ∧ SlC N v (marks3 k n) ∧ N.length = M.length ∧ ∀ u, Off v u → N[u]? = M[u]?

def cellSet (c : Cell) (j : Nat) (v : Int) : Cell := match j with | 0 => ⟨v, c.b, c.c⟩ | 1 => ⟨c.a, v, c.c⟩ | _ => ⟨c.a, c.b, v⟩
theorem triL_set1 (cs : List Cell) : ∀ (k j : Nat) (v : Int), k < cs.length → j < 3 → splice (triL cs) (k * 3 + j) [LV.val (.int .i64 v)] = triL (cs.set k (cellSet (cs.getD k default) j v)) := by
  induction cs with
  | nil => intro k j v h; simp at h
  | cons c cs ih =>
    intro k j v h hj
    rw [splice_1 (by rw [triL_len]; simp only [List.length_cons] at h ⊢; omega)]
    cases k with
    | zero =>
      match j, hj with
      | 0, _ => rfl
      | 1, _ => rfl
      | 2, _ => rfl
    | succ k =>
      have h2 := ih k j v (by simpa using h) hj
      rw [splice_1 (by rw [triL_len]; simp only [List.length_cons] at h; omega)] at h2
      have e : (k + 1) * 3 + j = (k * 3 + j) + 3 := by omega
      rw [e]
      show c.row ++ (triL cs).set (k * 3 + j) (LV.val (.int .i64 v)) = c.row ++ triL (cs.set k (cellSet (cs.getD k default) j v))
      rw [h2]

theorem memK_cell {M : Mem} {t k j : Nat} {cs : List Cell} {v : Int} {A : Mem → Prop} (ht : Live M t (.row (triL cs) true 3)) (hk : k < cs.length) (hj : j < 3)
    (hA : ∀ M', M'.length = M.length → Live M' t (.row (triL (cs.set k (cellSet (cs.getD k default) j v))) true 3) → (∀ u, u ≠ t → u < M.length → M'[u]? = M[u]?) → A M') :
    memK (setCells M t (k * 3 + j) [.val (.int .i64 v)]) A := by
  rw [ht.setC, if_pos (by rw [triL_len]; simp; omega), triL_set1 _ _ _ _ hk hj]
  exact hA _ (by simp) ht.set_eq fun u hu _ => List.getElem?_set_ne (fun e => hu e.symm)

theorem h_markIntA3S {v : LV} {l : List Cell} {k : Int} {M : Mem} (h : SlC M v l) (hn : l.length ≤ 1000000000) (hk : 0 ≤ k ∧ k ≤ 1000000000) :
    CallsR PG F.laws_markIntA3S [v, .I k] M (Marked3 M v k l.length) := by
  refine callsR_run K.laws_markIntA3S rfl ?_
  rcases h with ⟨rfl, rfl⟩ | ⟨t, ex, rfl, h⟩
  · simp (disch := omega) only [C.laws_markIntA3S, ↓SXd, SXu, slBounds, ↓sop, ↓aop, ↓reduceIte, LV.cells, AOp.dst, LV.I, LV.B, LV.U, LV.S, LV.nil, Nat.reduceEqDiff, Nat.reduceAdd, Nat.reduceMul, Nat.reduceSub, Nat.reduceLeDiff, Nat.reduceBEq, Nat.reduceDiv, Nat.reduceMod, Int.reduceToNat, Int.reduceLT, Int.reduceLE, Int.reduceAdd, Int.reduceSub, Int.reduceMul, Int.reduceEq, Int.reduceNeg, reduceCtorEq, resV, resAll, ARes.ev, LV.flat, ite_true, ite_false, exists_eq_left', exists_eq_left, keyOf, implies_true, fillC, capOf]
    refine ev_loop (fun m fr M' => M' = M ∧ fr 0 = .nil ∧ fr 1 = .I k ∧ fr 5 = .I 0) 0 ⟨rfl, rfl, rfl, rfl⟩ ?_
    rintro m fr M' ⟨rfl, h0, h1, h5⟩
    simp (disch := omega) only [h0, h1, h5, ↓SXd, SXu, slBounds, ↓sop, ↓aop, ↓reduceIte, LV.cells, AOp.dst, LV.I, LV.B, LV.U, LV.S, LV.nil, Nat.reduceEqDiff, Nat.reduceAdd, Nat.reduceMul, Nat.reduceSub, Nat.reduceLeDiff, Nat.reduceBEq, Nat.reduceDiv, Nat.reduceMod, Int.reduceToNat, Int.reduceLT, Int.reduceLE, Int.reduceAdd, Int.reduceSub, Int.reduceMul, Int.reduceEq, Int.reduceNeg, reduceCtorEq, resV, resAll, ARes.ev, LV.flat, ite_true, ite_false, exists_eq_left', exists_eq_left, keyOf, implies_true, fillC, capOf]
    exact ⟨eqI (by simp), (SlC.nil (N := M') : SlC M' LV.nil []), rfl, fun _ _ => rfl⟩
  · simp (disch := omega) only [C.laws_markIntA3S, ↓SXd, SXu, slBounds, ↓sop, ↓aop, ↓reduceIte, LV.cells, AOp.dst, LV.I, LV.B, LV.U, LV.S, LV.nil, Nat.reduceEqDiff, Nat.reduceAdd, Nat.reduceMul, Nat.reduceSub, Nat.reduceLeDiff, Nat.reduceBEq, Nat.reduceDiv, Nat.reduceMod, Int.reduceToNat, Int.reduceLT, Int.reduceLE, Int.reduceAdd, Int.reduceSub, Int.reduceMul, Int.reduceEq, Int.reduceNeg, reduceCtorEq, resV, resAll, ARes.ev, LV.flat, ite_true, ite_false, exists_eq_left', exists_eq_left, keyOf, implies_true, fillC, capOf]
    refine ev_loop (fun m fr M' => ∃ i : Nat, i + m = l.length ∧ M'.length = M.length ∧ Live M' t (.row (triL (marks3 k i ++ (l ++ ex).drop i)) true 3) ∧ (∀ u, u ≠ t → M'[u]? = M[u]?) ∧ fr 0 = .ref t 0 l.length ∧ fr 1 = .I (k + 3 * i) ∧ fr 5 = .I i) l.length
      ⟨0, by omega, rfl, by simpa [marks3] using h, fun _ _ => rfl, rfl, eqI (by omega), rfl⟩ ?_
    rintro m fr M' ⟨i, hi, hlen, hlive, hoff, h0, h1, h5⟩
    simp (disch := omega) only [h0, h1, h5, ↓SXd, SXu, slBounds, ↓sop, ↓aop, ↓reduceIte, LV.cells, AOp.dst, LV.I, LV.B, LV.U, LV.S, LV.nil, Nat.reduceEqDiff, Nat.reduceAdd, Nat.reduceMul, Nat.reduceSub, Nat.reduceLeDiff, Nat.reduceBEq, Nat.reduceDiv, Nat.reduceMod, Int.reduceToNat, Int.reduceLT, Int.reduceLE, Int.reduceAdd, Int.reduceSub, Int.reduceMul, Int.reduceEq, Int.reduceNeg, reduceCtorEq, resV, resAll, ARes.ev, LV.flat, ite_true, ite_false, exists_eq_left', exists_eq_left, keyOf, implies_true, fillC, capOf]
    refine condC_dec (fun hlt => ?_) (fun hlt => ?_)
    · simp (disch := omega) only [h0, h1, h5, ↓SXd, SXu, slBounds, ↓sop, ↓aop, ↓reduceIte, LV.cells, AOp.dst, LV.I, LV.B, LV.U, LV.S, LV.nil, Nat.reduceEqDiff, Nat.reduceAdd, Nat.reduceMul, Nat.reduceSub, Nat.reduceLeDiff, Nat.reduceBEq, Nat.reduceDiv, Nat.reduceMod, Int.reduceToNat, Int.reduceLT, Int.reduceLE, Int.reduceAdd, Int.reduceSub, Int.reduceMul, Int.reduceEq, Int.reduceNeg, reduceCtorEq, resV, resAll, ARes.ev, LV.flat, ite_true, ite_false, exists_eq_left', exists_eq_left, keyOf, implies_true, fillC, capOf]
      generalize hds : marks3 k i ++ (l ++ ex).drop i = ds at hlive
      have hdl : i < ds.length := by rw [← hds]; simp [marks3_len]; omega
      refine ev_loop (fun m2 fr N => ∃ j : Nat, j + m2 = 3 ∧ N.length = M.length ∧ Live N t (.row (triL (ds.set i ⟨if 0 < j then k + 3 * i else (ds.getD i default).a, if 1 < j then k + 3 * i + 1 else (ds.getD i default).b, if 2 < j then k + 3 * i + 2 else (ds.getD i default).c⟩)) true 3) ∧ (∀ u, u ≠ t → N[u]? = M[u]?) ∧
        fr 0 = .ref t 0 l.length ∧ fr 1 = .I (k + 3 * i + j) ∧ fr 5 = .I i ∧ fr 6 = .I j) 3
        ⟨0, rfl, hlen, by
          simp only [Nat.lt_irrefl, Nat.not_lt_zero, if_false]
          rw [show (ds.set i ⟨(ds.getD i default).a, (ds.getD i default).b, (ds.getD i default).c⟩) = ds from by
            rw [cell_eta]; simp [hdl]]
          exact hlive, hoff, h0, h1.trans (eqI (by omega)), h5, rfl⟩ ?_
      rintro m2 fr N ⟨j, hj, hlen, hlive, hoff, h0, h1, h5, h6⟩
      simp (disch := omega) only [h0, h1, h5, h6, ↓SXd, SXu, slBounds, ↓sop, ↓aop, ↓reduceIte, LV.cells, AOp.dst, LV.I, LV.B, LV.U, LV.S, LV.nil, Nat.reduceEqDiff, Nat.reduceAdd, Nat.reduceMul, Nat.reduceSub, Nat.reduceLeDiff, Nat.reduceBEq, Nat.reduceDiv, Nat.reduceMod, Int.reduceToNat, Int.reduceLT, Int.reduceLE, Int.reduceAdd, Int.reduceSub, Int.reduceMul, Int.reduceEq, Int.reduceNeg, reduceCtorEq, resV, resAll, ARes.ev, LV.flat, ite_true, ite_false, exists_eq_left', exists_eq_left, keyOf, implies_true, fillC, capOf]
      refine condC_dec (fun hlt2 => ?_) (fun hlt2 => ?_)
      · simp (disch := omega) only [h0, h1, h5, h6, ↓SXd, SXu, slBounds, ↓sop, ↓aop, ↓reduceIte, LV.cells, AOp.dst, LV.I, LV.B, LV.U, LV.S, LV.nil, Nat.reduceEqDiff, Nat.reduceAdd, Nat.reduceMul, Nat.reduceSub, Nat.reduceLeDiff, Nat.reduceBEq, Nat.reduceDiv, Nat.reduceMod, Int.reduceToNat, Int.reduceLT, Int.reduceLE, Int.reduceAdd, Int.reduceSub, Int.reduceMul, Int.reduceEq, Int.reduceNeg, reduceCtorEq, resV, resAll, ARes.ev, LV.flat, ite_true, ite_false, exists_eq_left', exists_eq_left, keyOf, implies_true, fillC, capOf]
        refine memK_cell hlive (by simpa using hdl) (by omega) fun N' l1 l2 l3 => ?_
        simp (disch := omega) only [h0, h1, h5, h6, ↓SXd, SXu, slBounds, ↓sop, ↓aop, ↓reduceIte, LV.cells, AOp.dst, LV.I, LV.B, LV.U, LV.S, LV.nil, Nat.reduceEqDiff, Nat.reduceAdd, Nat.reduceMul, Nat.reduceSub, Nat.reduceLeDiff, Nat.reduceBEq, Nat.reduceDiv, Nat.reduceMod, Int.reduceToNat, Int.reduceLT, Int.reduceLE, Int.reduceAdd, Int.reduceSub, Int.reduceMul, Int.reduceEq, Int.reduceNeg, reduceCtorEq, resV, resAll, ARes.ev, LV.flat, ite_true, ite_false, exists_eq_left', exists_eq_left, keyOf, implies_true, fillC, capOf]
        refine ⟨m2 - 1, by omega, j + 1, by omega, by omega, ?_, fun u hu => by
          rcases Nat.lt_or_ge u N.length with h2 | h2
          · rw [l3 u hu h2]; exact hoff u hu
          · rw [List.getElem?_eq_none (by omega), List.getElem?_eq_none (by omega)], h0, eqI (by omega), h5, eqI (natI _)⟩
        rw [List.set_set, getD_set, if_pos ⟨rfl, hdl⟩] at l2
        have hj3 : j = 0 ∨ j = 1 ∨ j = 2 := by omega
        rcases hj3 with rfl | rfl | rfl
        · simpa [cellSet] using l2
        · simpa [cellSet] using l2
        · simpa [cellSet] using l2
      · simp (disch := omega) only [h0, h1, h5, h6, ↓SXd, SXu, slBounds, ↓sop, ↓aop, ↓reduceIte, LV.cells, AOp.dst, LV.I, LV.B, LV.U, LV.S, LV.nil, Nat.reduceEqDiff, Nat.reduceAdd, Nat.reduceMul, Nat.reduceSub, Nat.reduceLeDiff, Nat.reduceBEq, Nat.reduceDiv, Nat.reduceMod, Int.reduceToNat, Int.reduceLT, Int.reduceLE, Int.reduceAdd, Int.reduceSub, Int.reduceMul, Int.reduceEq, Int.reduceNeg, reduceCtorEq, resV, resAll, ARes.ev, LV.flat, ite_true, ite_false, exists_eq_left', exists_eq_left, keyOf, implies_true, fillC, capOf]
        have : j = 3 := by omega
        subst this
        refine ⟨m - 1, by omega, i + 1, by omega, hlen, ?_, hoff, h0, h1.trans (eqI (by omega)), eqI (natI _)⟩
        rw [← hds] at hlive
        simp only [show (0 < 3) = True by simp, show (1 < 3) = True by simp, show (2 < 3) = True by simp, if_true] at hlive
        rw [marks3_step (by simp; omega)] at hlive
        exact hlive
    · simp (disch := omega) only [h0, h1, h5, ↓SXd, SXu, slBounds, ↓sop, ↓aop, ↓reduceIte, LV.cells, AOp.dst, LV.I, LV.B, LV.U, LV.S, LV.nil, Nat.reduceEqDiff, Nat.reduceAdd, Nat.reduceMul, Nat.reduceSub, Nat.reduceLeDiff, Nat.reduceBEq, Nat.reduceDiv, Nat.reduceMod, Int.reduceToNat, Int.reduceLT, Int.reduceLE, Int.reduceAdd, Int.reduceSub, Int.reduceMul, Int.reduceEq, Int.reduceNeg, reduceCtorEq, resV, resAll, ARes.ev, LV.flat, ite_true, ite_false, exists_eq_left', exists_eq_left, keyOf, implies_true, fillC, capOf]
      have : i = l.length := by omega
      subst this
      refine ⟨rfl, .inr ⟨t, ex, by rw [marks3_len], ?_⟩, hlen, fun u hu => hoff u hu⟩
      have e : (l ++ ex).drop l.length = ex := by simp
      rw [e] at hlive; exact hlive

theorem h_markHeap {x y z : Int} {v : LV} {l : List Cell} {k : Int} {M : Mem} (h : SlC M v l) (hn : l.length ≤ 1000000000) (hk : 0 ≤ k ∧ k ≤ 1000000000) :
    CallsR PG F.laws_markHeap [.agg [.I x, .I y, .I z, v], .I k] M fun r N => r = .I (k + 3 * l.length) ∧ SlC N v (marks3 k l.length) ∧ M.length ≤ N.length ∧ ∀ u, u < M.length → Off v u → N[u]? = M[u]? := by
  refine callsR_run K.laws_markHeap rfl ?_
  simp (disch := omega) only [C.laws_markHeap, ↓SXd, SXu, slBounds, ↓sop, ↓aop, ↓reduceIte, LV.cells, AOp.dst, LV.I, LV.B, LV.U, LV.S, LV.nil, Nat.reduceEqDiff, Nat.reduceAdd, Nat.reduceMul, Nat.reduceSub, Nat.reduceLeDiff, Nat.reduceBEq, Nat.reduceDiv, Nat.reduceMod, Int.reduceToNat, Int.reduceLT, Int.reduceLE, Int.reduceAdd, Int.reduceSub, Int.reduceMul, Int.reduceEq, Int.reduceNeg, reduceCtorEq, resV, resAll, ARes.ev, LV.flat, ite_true, ite_false, exists_eq_left', exists_eq_left, keyOf, implies_true, fillC, capOf]
  refine callR_of (h_markIntA3S (h.pre (Pre.app _ _)) hn hk) ?_
  rintro _ _ ⟨rfl, h1, h2, h3⟩
  simp (disch := omega) only [↓SXd, SXu, slBounds, ↓sop, ↓aop, ↓reduceIte, LV.cells, AOp.dst, LV.I, LV.B, LV.U, LV.S, LV.nil, Nat.reduceEqDiff, Nat.reduceAdd, Nat.reduceMul, Nat.reduceSub, Nat.reduceLeDiff, Nat.reduceBEq, Nat.reduceDiv, Nat.reduceMod, Int.reduceToNat, Int.reduceLT, Int.reduceLE, Int.reduceAdd, Int.reduceSub, Int.reduceMul, Int.reduceEq, Int.reduceNeg, reduceCtorEq, resV, resAll, ARes.ev, LV.flat, ite_true, ite_false, exists_eq_left', exists_eq_left, keyOf, implies_true, fillC, capOf]
  exact ⟨rfl, h1, by rw [h2]; simp, fun u hu ho => by rw [h3 u ho]; exact List.getElem?_append_left hu⟩
end Go.Ab

/- Memories of which one slice's block may have changed; what laws are told of results. -/
namespace Go.Ab
open Go
set_option linter.unusedSimpArgs false
set_option linter.unusedVariables false

/-- What M holds, N holds, but for the block of v. -/
def PreV (v : LV) (M N : Mem) : Prop := M.length ≤ N.length ∧ ∀ u, u < M.length → Off v u → N[u]? = M[u]?
/-- The slices v and w have not the same block. -/
def Apart (v w : LV) : Prop := ∀ t o n, w = .ref t o n → Off v t
theorem PreV.live {v : LV} {M N : Mem} {t : Nat} {b : Blk} (hp : PreV v M N) (h : Live M t b) (ho : Off v t) : Live N t b := by unfold Live; rw [hp.2 t h.lt ho]; exact h
theorem PreV.has {v : LV} {M N : Mem} {t o : Nat} {vs : List LV} (hp : PreV v M N) (h : Has M t o vs) (ho : Off v t) : Has N t o vs := by
  obtain ⟨row, h1, h2⟩ := h
  refine ⟨row, ?_, h2⟩
  unfold getRow at *
  rw [hp.2 t (row_lt (M := M) (by unfold getRow; exact h1)) ho]; exact h1
theorem PreV.slC {v w : LV} {M N : Mem} {l : List Cell} (hp : PreV v M N) (h : SlC M w l) (ho : Apart v w) : SlC N w l := by
  rcases h with h | ⟨t, ex, h1, h2⟩
  · exact .inl h
  · exact .inr ⟨t, ex, h1, hp.live h2 (ho _ _ _ h1)⟩
theorem Marked.pre {M N : Mem} {v r : LV} {k : Int} {n : Nat} (h : Marked M v k n r N) : PreV v M N := ⟨by rw [h.2.2.1]; exact Nat.le_refl _, fun u _ ho => h.2.2.2 u ho⟩
theorem Marked3.pre {M N : Mem} {v r : LV} {k : Int} {n : Nat} (h : Marked3 M v k n r N) : PreV v M N := ⟨by rw [h.2.2.1]; exact Nat.le_refl _, fun u _ ho => h.2.2.2 u ho⟩
theorem PreV.pre {M0 M N : Mem} {v : LV} (hp : PreV v M N) (h : Pre M0 M) (hv : Newer M0 v) : Pre M0 N := ⟨Nat.le_trans h.1 hp.1, fun u hu => by rw [hp.2 u (Nat.lt_of_lt_of_le hu h.1) (hv u hu)]; exact h.2 u hu⟩
/-- The block of the slice lies in M. -/
def Older (M : Mem) (v : LV) : Prop := ∀ t o n, v = .ref t o n → t < M.length
theorem SlI.older {M : Mem} {v : LV} {l : List Int} (h : SlI M v l) : Older M v := fun t o n e => by
  rcases h with ⟨rfl, _⟩ | ⟨t', ex, h1, h2⟩
  · cases e
  · rw [h1] at e; cases e; exact h2.lt
theorem SlC.older {M : Mem} {v : LV} {l : List Cell} (h : SlC M v l) : Older M v := fun t o n e => by
  rcases h with ⟨rfl, _⟩ | ⟨t', ex, h1, h2⟩
  · cases e
  · rw [h1] at e; cases e; exact h2.lt
theorem CellsV.older {M : Mem} {v : LV} {l : List Cell} (h : CellsV M v l) : Older M v := fun t o n e => by
  rcases h with ⟨rfl, _⟩ | ⟨t', o', h1, h2⟩
  · cases e
  · rw [h1] at e; cases e; exact h2.lt
theorem IntsV.older {M : Mem} {v : LV} {l : List Int} (h : IntsV M v l) : Older M v := fun t o n e => by
  rcases h with ⟨rfl, _⟩ | ⟨t', o', h1, h2⟩
  · cases e
  · rw [h1] at e; cases e; exact h2.lt
/-- A newer slice is apart from an older one, and the other way. -/
theorem Newer.apart {M : Mem} {v w : LV} (hv : Newer M v) (hw : Older M w) : Apart v w := fun t o n e => hv t (hw t o n e)
theorem Apart.symm {v w : LV} (h : Apart v w) : Apart w v := fun t o n e => by
  cases w with
  | ref t' o' n' => have := h t' o' n' rfl; subst e; exact fun e => this e.symm
  | _ => trivial
theorem Newer.mono {M N : Mem} {v : LV} (h : Newer N v) (hp : Pre M N) : Newer M v := fun u hu => h u (Nat.lt_of_lt_of_le hu hp.1)

/-- A list of numbers, or none, and whether there is one. -/
def IntsRes (M : Mem) (r : Option (List Int)) (v : LV) (N : Mem) : Prop := ∃ w, v = .tup [w, .B r.isSome] ∧ SlI N w (r.getD []) ∧ Newer M w ∧ Pre M N
/-- A list of cells, or none, and whether there is one. -/
def CellsRes (M : Mem) (r : Option (List Cell)) (v : LV) (N : Mem) : Prop := ∃ w, v = .tup [w, .B r.isSome] ∧ SlC N w (r.getD []) ∧ Newer M w ∧ Pre M N
/-- The same for a heap. -/
theorem callH_of {P : Program} {f : FuncId} {args : List LV} {M : Mem} {n e : Nat} {a b c : LV} {vs : List LV} {A : LV → Mem → Prop} (h : CallsTo P f args M (.agg [a, b, c, .ref M.length 0 n]) (M ++ [some (.row vs true e)]))
    (hA : ∀ (t : Nat) (N : Mem), M.length ≤ t → Pre M N → Live N t (.row vs true e) → A (.agg [a, b, c, .ref t 0 n]) N) : callK P f args M A := callK_of h (hA _ _ (Nat.le_refl _) (Pre.app _ _) Live.new)
theorem Live.tri {M : Mem} {t k : Nat} {w : Bool} {cs ex : List Cell} (h : Live M t (.row (triL (cs ++ ex)) w 3)) (hk : k < cs.length) : getCells M t (k * 3) 3 = some (cs.getD k default).row := by
  rw [triL_append] at h
  have := Tri.get (cs := cs) h.hasL hk
  rwa [Nat.zero_add] at this
theorem Live.tri0 {M : Mem} {t k : Nat} {w : Bool} {cs : List Cell} (h : Live M t (.row (triL cs) w 3)) (hk : k < cs.length) : getCells M t (k * 3) 3 = some (cs.getD k default).row := Live.tri (ex := []) (by simpa using h) hk
end Go.Ab

/- Contracts: marks that are held, on lists of cells and on heaps. -/
namespace Go.Ab
open Go
set_option linter.unusedSimpArgs false
set_option linter.unusedVariables false

theorem h_heldIntA3S {v : LV} {n : Nat} {k : Int} {M : Mem} (h : CellsV M v (marks3 k n)) (hn : n ≤ 1000000000) (hk : 0 ≤ k ∧ k ≤ 1000000000) :
    CallsTo PG F.laws_heldIntA3S [v, .I k] M (.I (k + 3 * n)) M := by
  refine calls_run K.laws_heldIntA3S rfl ?_
  have hlen : lenV v = some (n : Int) := by
    rcases h with ⟨rfl, h⟩ | ⟨t, o, rfl, _⟩
    · have := congrArg List.length h; rw [marks3_len] at this; simp at this; subst this; rfl
    · rw [marks3_len]; rfl
  simp (disch := omega) only [C.laws_heldIntA3S, ↓SXd, SXu, slBounds, ↓sop, ↓aop, ↓reduceIte, LV.cells, AOp.dst, LV.I, LV.B, LV.U, LV.S, LV.nil, Nat.reduceEqDiff, Nat.reduceAdd, Nat.reduceMul, Nat.reduceSub, Nat.reduceLeDiff, Nat.reduceBEq, Nat.reduceDiv, Nat.reduceMod, Int.reduceToNat, Int.reduceLT, Int.reduceLE, Int.reduceAdd, Int.reduceSub, Int.reduceMul, Int.reduceEq, Int.reduceNeg, reduceCtorEq, resV, resAll, ARes.ev, LV.flat, ite_true, ite_false, exists_eq_left', exists_eq_left, keyOf, implies_true, fillC, capOf]
  refine ev_loop (fun m fr M' => ∃ i : Nat, i + m = n ∧ M' = M ∧ fr 0 = v ∧ fr 1 = .I (k + 3 * i) ∧ fr 5 = .I i) n ⟨0, by omega, rfl, rfl, eqI (by omega), rfl⟩ ?_
  rintro m fr M' ⟨i, hi, rfl, h0, h1, h5⟩
  simp (disch := omega) only [h0, h1, h5, hlen, ↓SXd, SXu, slBounds, ↓sop, ↓aop, ↓reduceIte, LV.cells, AOp.dst, LV.I, LV.B, LV.U, LV.S, LV.nil, Nat.reduceEqDiff, Nat.reduceAdd, Nat.reduceMul, Nat.reduceSub, Nat.reduceLeDiff, Nat.reduceBEq, Nat.reduceDiv, Nat.reduceMod, Int.reduceToNat, Int.reduceLT, Int.reduceLE, Int.reduceAdd, Int.reduceSub, Int.reduceMul, Int.reduceEq, Int.reduceNeg, reduceCtorEq, resV, resAll, ARes.ev, LV.flat, ite_true, ite_false, exists_eq_left', exists_eq_left, keyOf, implies_true, fillC, capOf]
  refine condC_dec (fun hlt => ?_) (fun hlt => ?_)
  · rcases h with ⟨_, h⟩ | ⟨t, o, rfl, h⟩
    · have := congrArg List.length h; rw [marks3_len] at this; simp at this; omega
    · have hml := marks3_len k n
      have h0' : fr 0 = .ref t o n := by rw [h0, hml]
      have hg := fun j (hj : j < 3) => Tri.get1 h (k := i) (j := j) (by omega) hj
      rw [marks3_get (by omega)] at hg
      simp (disch := omega) only [h0', h1, h5, ↓SXd, SXu, slBounds, ↓sop, ↓aop, ↓reduceIte, LV.cells, AOp.dst, LV.I, LV.B, LV.U, LV.S, LV.nil, Nat.reduceEqDiff, Nat.reduceAdd, Nat.reduceMul, Nat.reduceSub, Nat.reduceLeDiff, Nat.reduceBEq, Nat.reduceDiv, Nat.reduceMod, Int.reduceToNat, Int.reduceLT, Int.reduceLE, Int.reduceAdd, Int.reduceSub, Int.reduceMul, Int.reduceEq, Int.reduceNeg, reduceCtorEq, resV, resAll, ARes.ev, LV.flat, ite_true, ite_false, exists_eq_left', exists_eq_left, keyOf, implies_true, fillC, capOf]
      refine ev_loop (fun m2 fr N => ∃ j : Nat, j + m2 = 3 ∧ N = M' ∧ fr 0 = .ref t o n ∧ fr 1 = .I (k + 3 * i + j) ∧ fr 5 = .I i ∧ fr 6 = .I j) 3 ⟨0, rfl, rfl, h0', h1.trans (eqI (by omega)), h5, rfl⟩ ?_
      rintro m2 fr N ⟨j, hj, rfl, h0, h1, h5, h6⟩
      simp (disch := omega) only [h0, h1, h5, h6, ↓SXd, SXu, slBounds, ↓sop, ↓aop, ↓reduceIte, LV.cells, AOp.dst, LV.I, LV.B, LV.U, LV.S, LV.nil, Nat.reduceEqDiff, Nat.reduceAdd, Nat.reduceMul, Nat.reduceSub, Nat.reduceLeDiff, Nat.reduceBEq, Nat.reduceDiv, Nat.reduceMod, Int.reduceToNat, Int.reduceLT, Int.reduceLE, Int.reduceAdd, Int.reduceSub, Int.reduceMul, Int.reduceEq, Int.reduceNeg, reduceCtorEq, resV, resAll, ARes.ev, LV.flat, ite_true, ite_false, exists_eq_left', exists_eq_left, keyOf, implies_true, fillC, capOf]
      refine condC_dec (fun hlt2 => ?_) (fun hlt2 => ?_)
      · have hj3 : j = 0 ∨ j = 1 ∨ j = 2 := by omega
        have hgj := hg j (by omega)
        rcases hj3 with rfl | rfl | rfl
        all_goals
          simp only [Cell.row, List.getElem?_cons_zero, List.getElem?_cons_succ, Nat.add_zero] at hgj
          simp (disch := omega) only [h0, h1, h5, h6, hgj, ↓SXd, SXu, slBounds, ↓sop, ↓aop, ↓reduceIte, LV.cells, AOp.dst, LV.I, LV.B, LV.U, LV.S, LV.nil, Nat.reduceEqDiff, Nat.reduceAdd, Nat.reduceMul, Nat.reduceSub, Nat.reduceLeDiff, Nat.reduceBEq, Nat.reduceDiv, Nat.reduceMod, Int.reduceToNat, Int.reduceLT, Int.reduceLE, Int.reduceAdd, Int.reduceSub, Int.reduceMul, Int.reduceEq, Int.reduceNeg, reduceCtorEq, resV, resAll, ARes.ev, LV.flat, ite_true, ite_false, exists_eq_left', exists_eq_left, keyOf, implies_true, fillC, capOf]
          first
          | exact ⟨m2 - 1, by omega, 1, by omega, rfl, h0, eqI (by omega), h5, rfl⟩
          | exact ⟨m2 - 1, by omega, 2, by omega, rfl, h0, eqI (by omega), h5, rfl⟩
          | exact ⟨m2 - 1, by omega, 3, by omega, rfl, h0, eqI (by omega), h5, rfl⟩
      · simp (disch := omega) only [h0, h1, h5, h6, ↓SXd, SXu, slBounds, ↓sop, ↓aop, ↓reduceIte, LV.cells, AOp.dst, LV.I, LV.B, LV.U, LV.S, LV.nil, Nat.reduceEqDiff, Nat.reduceAdd, Nat.reduceMul, Nat.reduceSub, Nat.reduceLeDiff, Nat.reduceBEq, Nat.reduceDiv, Nat.reduceMod, Int.reduceToNat, Int.reduceLT, Int.reduceLE, Int.reduceAdd, Int.reduceSub, Int.reduceMul, Int.reduceEq, Int.reduceNeg, reduceCtorEq, resV, resAll, ARes.ev, LV.flat, ite_true, ite_false, exists_eq_left', exists_eq_left, keyOf, implies_true, fillC, capOf]
        have : j = 3 := by omega
        subst this
        exact ⟨m - 1, by omega, i + 1, by omega, rfl, by rw [hml]; exact h0, h1.trans (eqI (by omega)), eqI (natI _)⟩
  · simp (disch := omega) only [h0, h1, h5, ↓SXd, SXu, slBounds, ↓sop, ↓aop, ↓reduceIte, LV.cells, AOp.dst, LV.I, LV.B, LV.U, LV.S, LV.nil, Nat.reduceEqDiff, Nat.reduceAdd, Nat.reduceMul, Nat.reduceSub, Nat.reduceLeDiff, Nat.reduceBEq, Nat.reduceDiv, Nat.reduceMod, Int.reduceToNat, Int.reduceLT, Int.reduceLE, Int.reduceAdd, Int.reduceSub, Int.reduceMul, Int.reduceEq, Int.reduceNeg, reduceCtorEq, resV, resAll, ARes.ev, LV.flat, ite_true, ite_false, exists_eq_left', exists_eq_left, keyOf, implies_true, fillC, capOf]
    rw [show i = n by omega]
    exact cmp_drop0 rfl

theorem h_heldHeap {x y z : Int} {v : LV} {n : Nat} {k : Int} {M : Mem} (h : CellsV M v (marks3 k n)) (hn : n ≤ 1000000000) (hk : 0 ≤ k ∧ k ≤ 1000000000) :
    CallsTo PG F.laws_heldHeap [.agg [.I x, .I y, .I z, v], .I k] M (.I (k + 3 * n)) M := by
  have hv : v.cells = some [v] := by
    rcases h with ⟨rfl, _⟩ | ⟨t, o, rfl, _⟩ <;> rfl
  have hneg : ¬ (k + 3 * (n : Int) < 0) := by omega
  refine calls_run K.laws_heldHeap rfl ?_
  simp (disch := omega) only [C.laws_heldHeap, ↓SXd, SXu, slBounds, ↓sop, ↓aop, ↓reduceIte, LV.cells, AOp.dst, LV.I, LV.B, LV.U, LV.S, LV.nil, Nat.reduceEqDiff, Nat.reduceAdd, Nat.reduceMul, Nat.reduceSub, Nat.reduceLeDiff, Nat.reduceBEq, Nat.reduceDiv, Nat.reduceMod, Int.reduceToNat, Int.reduceLT, Int.reduceLE, Int.reduceAdd, Int.reduceSub, Int.reduceMul, Int.reduceEq, Int.reduceNeg, reduceCtorEq, resV, resAll, ARes.ev, LV.flat, ite_true, ite_false, exists_eq_left', exists_eq_left, keyOf, implies_true, fillC, capOf]
  refine callK_of (h_heldIntA3S (h.pre (Pre.app _ _)) hn hk) ?_
  simp (disch := omega) only [hneg, ↓SXd, SXu, slBounds, ↓sop, ↓aop, ↓reduceIte, LV.cells, AOp.dst, LV.I, LV.B, LV.U, LV.S, LV.nil, Nat.reduceEqDiff, Nat.reduceAdd, Nat.reduceMul, Nat.reduceSub, Nat.reduceLeDiff, Nat.reduceBEq, Nat.reduceDiv, Nat.reduceMod, Int.reduceToNat, Int.reduceLT, Int.reduceLE, Int.reduceAdd, Int.reduceSub, Int.reduceMul, Int.reduceEq, Int.reduceNeg, reduceCtorEq, resV, resAll, ARes.ev, LV.flat, ite_true, ite_false, exists_eq_left', exists_eq_left, keyOf, implies_true, fillC, capOf]
  exact cmp_drop rfl
end Go.Ab

/- What laws are told of heaps as results. -/
namespace Go.Ab
open Go

structure Hp where
  x : Int
  y : Int
  z : Int
  cs : List Cell
def Hp.none : Hp := ⟨0, 0, 0, []⟩
abbrev Hp.row (r : Hp) (w : LV) : Blk := .row [.I r.x, .I r.y, .I r.z, w] true 0
/-- A heap, or the one of all zeros, what else there is, and whether there is one. -/
def HeapRes (M : Mem) (r : Option Hp) (ext : List LV) (v : LV) (N : Mem) : Prop :=
  ∃ w, v = .tup (.agg [.I (r.getD Hp.none).x, .I (r.getD Hp.none).y, .I (r.getD Hp.none).z, w] :: (ext ++ [.B r.isSome])) ∧ SlC N w (r.getD Hp.none).cs ∧ Newer M w ∧ Pre M N
theorem Older.off {M : Mem} {v : LV} {u : Nat} (h : Older M v) (hu : M.length ≤ u) : Off v u := by
  cases v with
  | ref t o n => have := h t o n rfl; show u ≠ t; omega
  | _ => trivial
end Go.Ab

/- The abstract code of some functions (written by a program of mine from the translation, by way of prepF). -/
namespace Go.Ab.C
open Go.Ab
def impl_FirstAlike : AFn :=
 ⟨3, 68, [.cellN 6 4, .tmp 7],
 .seq (.ops [(none, .box 3 (.t 0)),
 (none, .alloc 6 [(.I 0), (.I 0), (.I 0), .nil]),
 (none, .mv 7 (.c (.B false)))])
 (.seq (.seq (.ops [(none, .loadN 19 4 (.t 3)),
 (none, .call (some 20) F.impl_IsHeap [(.t 19)]),
 (none, .un 21 .not (.t 20)),
 (none, .mv 22 (.t 21)),
 (some (22, false), .mv 23 (.t 1)),
 (some (22, false), .mv 24 (.t 2)),
 (some (22, false), .call (some 25) F.impl_areDirections [(.t 23), (.t 24)]),
 (some (22, false), .un 26 .not (.t 25)),
 (none, .pick 27 (.t 22) (.c (.B true)) (.t 26))])
 (.cond (.t 27) (.seq (.ops [(none, .build 28 [(.I 0), (.I 0), (.I 0), .nil] []),
 (none, .store 4 (.t 6) (.t 28)),
 (none, .mv 7 (.c (.B false)))])
 (.ret))
 (.skip)))
 (.seq (.draw [⟨(none, .mv 29 (.t 1)), [], []⟩,
 ⟨(none, .mv 30 (.t 2)), [], []⟩,
 ⟨(none, .loadN 32 4 (.t 3)), [], []⟩,
 ⟨(none, .alloc 8 [(.I 0)]), [], []⟩,
 ⟨(none, .alloc 9 [(.I 0), (.I 0), (.I 0)]), [], []⟩,
 ⟨(none, .call (some 31) F.impl_third [(.t 29), (.t 30)]), [3, 4], [2]⟩,
 ⟨(none, .call (some 33) F.impl_Heap_box [(.t 32)]), [3, 4], []⟩,
 ⟨(none, .store 1 (.t 8) (.t 31)), [], []⟩,
 ⟨(none, .store 3 (.t 9) (.t 33)), [], []⟩])
 (.seq (.ops [(none, .load1 35 (.t 8)),
 (none, .call (some 36) F.impl_others [(.t 35)]),
 (none, .mv 34 (.t 36)),
 (none, .extract 37 (.t 34) 0),
 (none, .extract 38 (.t 34) 1),
 (none, .alloc 10 [(.I 0)]),
 (none, .alloc 11 [(.I 0)]),
 (none, .store 1 (.t 10) (.t 37)),
 (none, .store 1 (.t 11) (.t 38))])
 (.seq (.ops [(none, .mv 12 (.c (.U 0)))])
 (.seq (.seq (.ops [(none, .load1 39 (.t 8)),
 (none, .idxA 40 3 1 (.t 9) (.t 39)),
 (none, .load1 41 (.t 40)),
 (none, .mv 42 (.c (.I 0)))])
 (.block 0 (.loop (.seq (.ops [(none, .bin 43 .lss (.t 42) (.t 41))])
 (.seq (.cond (.t 43) (.skip)
 (.exit 0))
 (.seq (.block 1 (.seq (.ops [(none, .mv 44 (.t 42)),
 (none, .alloc 13 [(.I 0)]),
 (none, .store 1 (.t 13) (.t 44))])
 (.seq (.ops [(none, .loadN 46 4 (.t 3)),
 (none, .load1 47 (.t 8)),
 (none, .load1 48 (.t 13)),
 (none, .call (some 49) F.impl_Heap_layer [(.t 46), (.t 47), (.t 48)]),
 (none, .mv 45 (.t 49)),
 (none, .extract 50 (.t 45) 0),
 (none, .extract 51 (.t 45) 1),
 (none, .extract 52 (.t 45) 2),
 (none, .mv 14 (.t 50)),
 (none, .mv 15 (.t 51)),
 (none, .mv 16 (.t 52))])
 (.seq (.ops [(none, .mv 54 (.t 15)),
 (none, .mv 55 (.t 16)),
 (none, .call (some 56) F.impl_firstTable [(.t 54), (.t 55)]),
 (none, .mv 53 (.t 56)),
 (none, .extract 57 (.t 53) 0),
 (none, .extract 58 (.t 53) 1),
 (none, .alloc 17 [(.U 0)]),
 (none, .store 1 (.t 17) (.t 57)),
 (none, .mv 18 (.t 58))])
 (.ops [(none, .mv 59 (.t 12)),
 (none, .loadN 60 3 (.t 9)),
 (none, .mkf 61 F.impl_FirstAlike_1 [(.t 8), (.t 13), (.t 17), (.t 10), (.t 9), (.t 11)]),
 (none, .call (some 62) F.impl_box_those [(.t 60), (.t 61)]),
 (none, .bin 63 .or (.t 59) (.t 62)),
 (none, .mv 12 (.t 63))])))))
 (.ops [(none, .bin 64 .add (.t 42) (.c (.I 1))),
 (none, .mv 42 (.t 64))])))))))
 (.seq (.ops [(none, .loadN 65 3 (.t 9)),
 (none, .mv 66 (.t 12)),
 (none, .call (some 67) F.impl_box_heap [(.t 65), (.t 66)]),
 (none, .store 4 (.t 6) (.t 67)),
 (none, .mv 7 (.c (.B true)))])
 (.ret)))))))⟩
def impl_FirstAlike_1 : AFn :=
 ⟨7, 29, [.tmp 8],
 .seq (.ops [(none, .box 7 (.t 0)),
 (none, .mv 8 (.c (.B false)))])
 (.seq (.draw [⟨(none, .load1 9 (.t 1)), [], []⟩,
 ⟨(none, .idxA 10 3 1 (.t 7) (.t 9)), [], []⟩,
 ⟨(none, .load1 11 (.t 10)), [], []⟩,
 ⟨(none, .load1 12 (.t 2)), [], []⟩,
 ⟨(none, .bin 13 .eql (.t 11) (.t 12)), [], []⟩,
 ⟨(none, .mv 14 (.t 13)), [], []⟩,
 ⟨(some (14, true), .load1 15 (.t 3)), [], []⟩,
 ⟨(some (14, true), .load1 16 (.t 4)), [], []⟩,
 ⟨(some (14, true), .idxA 17 3 1 (.t 7) (.t 16)), [], []⟩,
 ⟨(some (14, true), .load1 18 (.t 17)), [], []⟩,
 ⟨(some (14, true), .load1 19 (.t 6)), [], []⟩,
 ⟨(some (14, true), .idxA 20 3 1 (.t 5) (.t 19)), [], []⟩,
 ⟨(some (14, true), .load1 21 (.t 20)), [], []⟩,
 ⟨(some (14, true), .bin 22 .mul (.t 18) (.t 21)), [], []⟩,
 ⟨(some (14, true), .load1 23 (.t 6)), [], []⟩,
 ⟨(some (14, true), .idxA 24 3 1 (.t 7) (.t 23)), [], []⟩,
 ⟨(some (14, true), .load1 25 (.t 24)), [], []⟩,
 ⟨(some (14, true), .bin 26 .add (.t 22) (.t 25)), [], []⟩,
 ⟨(some (14, true), .call (some 27) F.impl_set_has [(.t 15), (.t 26)]), [], []⟩,
 ⟨(none, .pick 28 (.t 14) (.t 27) (.c (.B false))), [], []⟩,
 ⟨(none, .mv 8 (.t 28)), [], []⟩])
 (.ret))⟩
def impl_third : AFn :=
 ⟨2, 9, [.tmp 4],
 .seq (.ops [(none, .mv 4 (.c (.I 0)))])
 (.seq (.ops [(none, .mv 5 (.t 0)),
 (none, .bin 6 .sub (.c (.I 3)) (.t 5)),
 (none, .mv 7 (.t 1)),
 (none, .bin 8 .sub (.t 6) (.t 7)),
 (none, .mv 4 (.t 8))])
 (.ret))⟩
def impl_areDirections : AFn :=
 ⟨2, 16, [.tmp 4],
 .seq (.ops [(none, .mv 4 (.c (.B false)))])
 (.seq (.ops [(none, .mv 5 (.t 0)),
 (none, .call (some 6) F.impl_isDirection [(.t 5)]),
 (none, .mv 7 (.t 6)),
 (some (7, true), .mv 8 (.t 1)),
 (some (7, true), .call (some 9) F.impl_isDirection [(.t 8)]),
 (none, .pick 10 (.t 7) (.t 9) (.c (.B false))),
 (none, .mv 11 (.t 10)),
 (some (11, true), .mv 12 (.t 0)),
 (some (11, true), .mv 13 (.t 1)),
 (some (11, true), .bin 14 .neq (.t 12) (.t 13)),
 (none, .pick 15 (.t 11) (.t 14) (.c (.B false))),
 (none, .mv 4 (.t 15))])
 (.ret))⟩
end Go.Ab.C

/- That the program has this code. -/
namespace Go.Ab.K
open Go Go.Ab
theorem impl_FirstAlike : prepF Go.Proofs.Try.prog F.impl_FirstAlike = some C.impl_FirstAlike := by kernel_rfl
theorem impl_FirstAlike_1 : prepF Go.Proofs.Try.prog F.impl_FirstAlike_1 = some C.impl_FirstAlike_1 := by kernel_rfl
theorem impl_third : prepF Go.Proofs.Try.prog F.impl_third = some C.impl_third := by kernel_rfl
theorem impl_areDirections : prepF Go.Proofs.Try.prog F.impl_areDirections = some C.impl_areDirections := by kernel_rfl
end Go.Ab.K

/- The abstract code of some functions (written by a program of mine from the translation, by way of prepF). -/
namespace Go.Ab.C
open Go.Ab
def impl_Heap_layer : AFn :=
 ⟨3, 78, [.tmp 6, .tmp 7, .tmp 8],
 .seq (.ops [(none, .box 3 (.t 0)),
 (none, .mv 6 (.c (.U 0))),
 (none, .mv 7 (.c .nil)),
 (none, .mv 8 (.c .nil))])
 (.seq (.ops [(none, .mv 18 (.t 1)),
 (none, .call (some 19) F.impl_others [(.t 18)]),
 (none, .mv 17 (.t 19)),
 (none, .extract 20 (.t 17) 0),
 (none, .extract 21 (.t 17) 1),
 (none, .mv 9 (.t 20)),
 (none, .mv 10 (.t 21))])
 (.seq (.ops [(none, .loadN 22 4 (.t 3)),
 (none, .call (some 23) F.impl_Heap_box [(.t 22)]),
 (none, .alloc 11 [(.I 0), (.I 0), (.I 0)]),
 (none, .store 3 (.t 11) (.t 23))])
 (.seq (.draw [⟨(none, .mv 24 (.t 9)), [], []⟩,
 ⟨(none, .idxA 25 3 1 (.t 11) (.t 24)), [], []⟩,
 ⟨(none, .load1 26 (.t 25)), [], []⟩,
 ⟨(none, .mv 28 (.t 10)), [], []⟩,
 ⟨(none, .idxA 29 3 1 (.t 11) (.t 28)), [], []⟩,
 ⟨(none, .load1 30 (.t 29)), [], []⟩,
 ⟨(none, .mv 12 (.c (.U 0))), [], []⟩,
 ⟨(none, .mksl 27 1 8 [(.I 0)] (.t 26) (.t 26)), [], []⟩,
 ⟨(none, .mv 13 (.t 27)), [], []⟩,
 ⟨(none, .mksl 31 1 8 [(.I 0)] (.t 30) (.t 30)), [], []⟩,
 ⟨(none, .mv 14 (.t 31)), [], []⟩])
 (.seq (.seq (.ops [(none, .fieldAddr 32 (.t 3) 3),
 (none, .load1 33 (.t 32)),
 (none, .len 34 (.t 33)),
 (none, .mv 35 (.c (.I 0)))])
 (.block 0 (.loop (.seq (.ops [(none, .bin 36 .lss (.t 35) (.t 34))])
 (.seq (.cond (.t 36) (.skip)
 (.exit 0))
 (.seq (.block 1 (.seq (.ops [(none, .idxS 37 3 (.t 33) (.t 35)),
 (none, .loadN 38 3 (.t 37)),
 (none, .alloc 16 [(.I 0), (.I 0), (.I 0)]),
 (none, .store 3 (.t 16) (.t 38))])
 (.seq (.ops [(none, .mv 39 (.t 1)),
 (none, .idxA 40 3 1 (.t 16) (.t 39)),
 (none, .load1 41 (.t 40)),
 (none, .mv 42 (.t 2)),
 (none, .bin 43 .eql (.t 41) (.t 42))])
 (.cond (.t 43) (.seq (.draw [⟨(none, .mv 44 (.t 12)), [], []⟩,
 ⟨(none, .mv 45 (.t 9)), [], []⟩,
 ⟨(none, .idxA 46 3 1 (.t 16) (.t 45)), [], []⟩,
 ⟨(none, .load1 47 (.t 46)), [], []⟩,
 ⟨(none, .mv 48 (.t 10)), [], []⟩,
 ⟨(none, .idxA 49 3 1 (.t 11) (.t 48)), [], []⟩,
 ⟨(none, .load1 50 (.t 49)), [], []⟩,
 ⟨(none, .bin 51 .mul (.t 47) (.t 50)), [], []⟩,
 ⟨(none, .mv 52 (.t 10)), [], []⟩,
 ⟨(none, .idxA 53 3 1 (.t 16) (.t 52)), [], []⟩,
 ⟨(none, .load1 54 (.t 53)), [], []⟩,
 ⟨(none, .bin 55 .add (.t 51) (.t 54)), [], []⟩,
 ⟨(none, .bin 56 .shl (.c (.U 1)) (.t 55)), [], []⟩,
 ⟨(none, .bin 57 .or (.t 44) (.t 56)), [], []⟩,
 ⟨(none, .mv 12 (.t 57)), [], []⟩])
 (.seq (.ops [(none, .mv 58 (.t 13)),
 (none, .mv 59 (.t 9)),
 (none, .idxA 60 3 1 (.t 16) (.t 59)),
 (none, .load1 61 (.t 60)),
 (none, .idxS 62 1 (.t 58) (.t 61)),
 (none, .load1 63 (.t 62)),
 (none, .bin 64 .add (.t 63) (.c (.I 1))),
 (none, .idxS 65 1 (.t 58) (.t 61)),
 (none, .store 1 (.t 65) (.t 64))])
 (.ops [(none, .mv 66 (.t 14)),
 (none, .mv 67 (.t 10)),
 (none, .idxA 68 3 1 (.t 16) (.t 67)),
 (none, .load1 69 (.t 68)),
 (none, .idxS 70 1 (.t 66) (.t 69)),
 (none, .load1 71 (.t 70)),
 (none, .bin 72 .add (.t 71) (.c (.I 1))),
 (none, .idxS 73 1 (.t 66) (.t 69)),
 (none, .store 1 (.t 73) (.t 72))])))
 (.skip)))))
 (.ops [(none, .bin 74 .add (.t 35) (.c (.I 1))),
 (none, .mv 35 (.t 74))])))))))
 (.seq (.ops [(none, .mv 75 (.t 12)),
 (none, .mv 76 (.t 13)),
 (none, .mv 77 (.t 14)),
 (none, .mv 6 (.t 75)),
 (none, .mv 7 (.t 76)),
 (none, .mv 8 (.t 77))])
 (.ret))))))⟩
end Go.Ab.C

/- That the program has this code. -/
namespace Go.Ab.K
open Go Go.Ab
theorem impl_Heap_layer : prepF Go.Proofs.Try.prog F.impl_Heap_layer = some C.impl_Heap_layer := by kernel_rfl
end Go.Ab.K

/- The abstract code of some functions (written by a program of mine from the translation, by way of prepF). -/
namespace Go.Ab.C
open Go.Ab
def spec_l4Two : AFn :=
 ⟨3, 22, [.tmp 6],
 .seq (.ops [(none, .box 3 (.t 0)),
 (none, .mv 6 (.c (.B false)))])
 (.seq (.ops [(none, .loadN 7 4 (.t 3)),
 (none, .call (some 8) F.spec_l2Heap [(.t 7)]),
 (none, .mv 9 (.t 8)),
 (some (9, true), .mv 10 (.t 1)),
 (some (9, true), .call (some 11) F.spec_l1In [(.t 10), (.c (.I 0)), (.c (.I 2))]),
 (none, .pick 12 (.t 9) (.t 11) (.c (.B false))),
 (none, .mv 13 (.t 12)),
 (some (13, true), .mv 14 (.t 2)),
 (some (13, true), .call (some 15) F.spec_l1In [(.t 14), (.c (.I 0)), (.c (.I 2))]),
 (none, .pick 16 (.t 13) (.t 15) (.c (.B false))),
 (none, .mv 17 (.t 16)),
 (some (17, true), .mv 18 (.t 1)),
 (some (17, true), .mv 19 (.t 2)),
 (some (17, true), .bin 20 .neq (.t 18) (.t 19)),
 (none, .pick 21 (.t 17) (.t 20) (.c (.B false))),
 (none, .mv 6 (.t 21))])
 (.ret))⟩
def spec_l4Third : AFn :=
 ⟨2, 9, [.tmp 4],
 .seq (.ops [(none, .mv 4 (.c (.I 0)))])
 (.seq (.ops [(none, .mv 5 (.t 0)),
 (none, .bin 6 .sub (.c (.I 3)) (.t 5)),
 (none, .mv 7 (.t 1)),
 (none, .bin 8 .sub (.t 6) (.t 7)),
 (none, .mv 4 (.t 8))])
 (.ret))⟩
end Go.Ab.C

/- That the program has this code. -/
namespace Go.Ab.K
open Go Go.Ab
theorem spec_l4Two : prepF Go.Proofs.Try.prog F.spec_l4Two = some C.spec_l4Two := by kernel_rfl
theorem spec_l4Third : prepF Go.Proofs.Try.prog F.spec_l4Third = some C.spec_l4Third := by kernel_rfl
end Go.Ab.K

/- The abstract code of some functions (written by a program of mine from the translation, by way of prepF). -/
namespace Go.Ab.C
open Go.Ab
def spec_l4Sums : AFn :=
 ⟨1, 60, [.tmp 2, .tmp 3],
 .seq (.ops [(none, .mv 2 (.c .nil)),
 (none, .mv 3 (.c .nil))])
 (.seq (.draw [⟨(none, .mv 10 (.t 0)), [], []⟩,
 ⟨(none, .idxS 11 1 (.t 10) (.c (.I 0))), [], []⟩,
 ⟨(none, .load1 12 (.t 11)), [], []⟩,
 ⟨(none, .len 13 (.t 12)), [], []⟩,
 ⟨(none, .buildSl 9 0 1 [] []), [], []⟩,
 ⟨(none, .mv 4 (.t 9)), [], []⟩,
 ⟨(none, .mksl 14 1 8 [(.I 0)] (.t 13) (.t 13)), [], []⟩,
 ⟨(none, .mv 5 (.t 14)), [], []⟩])
 (.seq (.seq (.ops [(none, .mv 6 (.c (.I 0)))])
 (.block 0 (.loop (.seq (.seq (.ops [(none, .mv 15 (.t 6)),
 (none, .mv 16 (.t 0)),
 (none, .len 17 (.t 16)),
 (none, .bin 18 .lss (.t 15) (.t 17))])
 (.cond (.t 18) (.skip)
 (.exit 0)))
 (.seq (.block 1 (.seq (.ops [(none, .mv 7 (.c (.I 0)))])
 (.seq (.seq (.ops [(none, .mv 8 (.c (.I 0)))])
 (.block 2 (.loop (.seq (.seq (.ops [(none, .mv 21 (.t 8)),
 (none, .mv 22 (.t 0)),
 (none, .mv 23 (.t 6)),
 (none, .idxS 24 1 (.t 22) (.t 23)),
 (none, .load1 25 (.t 24)),
 (none, .len 26 (.t 25)),
 (none, .bin 27 .lss (.t 21) (.t 26))])
 (.cond (.t 27) (.skip)
 (.exit 2)))
 (.seq (.block 3 (.seq (.ops [(none, .mv 30 (.t 7)),
 (none, .mv 31 (.t 0)),
 (none, .mv 32 (.t 6)),
 (none, .idxS 33 1 (.t 31) (.t 32)),
 (none, .load1 34 (.t 33)),
 (none, .mv 35 (.t 8)),
 (none, .idxS 36 1 (.t 34) (.t 35)),
 (none, .load1 37 (.t 36)),
 (none, .bin 38 .add (.t 30) (.t 37)),
 (none, .mv 7 (.t 38))])
 (.draw [⟨(none, .mv 39 (.t 5)), [], []⟩,
 ⟨(none, .mv 40 (.t 8)), [], []⟩,
 ⟨(none, .mv 41 (.t 5)), [], []⟩,
 ⟨(none, .mv 42 (.t 8)), [], []⟩,
 ⟨(none, .idxS 43 1 (.t 41) (.t 42)), [], []⟩,
 ⟨(none, .load1 44 (.t 43)), [], []⟩,
 ⟨(none, .mv 45 (.t 0)), [], []⟩,
 ⟨(none, .mv 46 (.t 6)), [], []⟩,
 ⟨(none, .idxS 47 1 (.t 45) (.t 46)), [], []⟩,
 ⟨(none, .load1 48 (.t 47)), [], []⟩,
 ⟨(none, .mv 49 (.t 8)), [], []⟩,
 ⟨(none, .idxS 50 1 (.t 48) (.t 49)), [], []⟩,
 ⟨(none, .load1 51 (.t 50)), [], []⟩,
 ⟨(none, .bin 52 .add (.t 44) (.t 51)), [], []⟩,
 ⟨(none, .idxS 53 1 (.t 39) (.t 40)), [], []⟩,
 ⟨(none, .store 1 (.t 53) (.t 52)), [], []⟩])))
 (.ops [(none, .mv 28 (.t 8)),
 (none, .bin 29 .add (.t 28) (.c (.I 1))),
 (none, .mv 8 (.t 29))]))))))
 (.ops [(none, .mv 54 (.t 4)),
 (none, .mv 55 (.t 7)),
 (none, .buildSl 56 1 1 [(.I 0)] [(0, 1, (.t 55))]),
 (none, .append 57 1 8 (.t 54) (.t 56)),
 (none, .mv 4 (.t 57))]))))
 (.ops [(none, .mv 19 (.t 6)),
 (none, .bin 20 .add (.t 19) (.c (.I 1))),
 (none, .mv 6 (.t 20))]))))))
 (.seq (.ops [(none, .mv 58 (.t 4)),
 (none, .mv 59 (.t 5)),
 (none, .mv 2 (.t 58)),
 (none, .mv 3 (.t 59))])
 (.ret))))⟩
end Go.Ab.C

/- That the program has this code. -/
namespace Go.Ab.K
open Go Go.Ab
theorem spec_l4Sums : prepF Go.Proofs.Try.prog F.spec_l4Sums = some C.spec_l4Sums := by kernel_rfl
end Go.Ab.K

/- The abstract code of some functions (written by a program of mine from the translation, by way of prepF). -/
namespace Go.Ab.C
open Go.Ab
def spec_l4Tables : AFn :=
 ⟨2, 101, [.tmp 4],
 .seq (.ops [(none, .mv 4 (.c .nil))])
 (.seq (.seq (.ops [(none, .mv 14 (.t 0)),
 (none, .len 15 (.t 14)),
 (none, .bin 16 .eql (.t 15) (.c (.I 0)))])
 (.cond (.t 16) (.seq (.seq (.ops [(none, .mv 5 (.c (.I 0)))])
 (.block 0 (.loop (.seq (.seq (.ops [(none, .mv 17 (.t 5)),
 (none, .mv 18 (.t 1)),
 (none, .len 19 (.t 18)),
 (none, .bin 20 .lss (.t 17) (.t 19))])
 (.cond (.t 20) (.skip)
 (.exit 0)))
 (.seq (.block 1 (.seq (.ops [(none, .mv 23 (.t 1)),
 (none, .mv 24 (.t 5)),
 (none, .idxS 25 1 (.t 23) (.t 24)),
 (none, .load1 26 (.t 25)),
 (none, .bin 27 .neq (.t 26) (.c (.I 0)))])
 (.cond (.t 27) (.seq (.ops [(none, .buildSl 28 0 1 [] []),
 (none, .mv 4 (.t 28))])
 (.ret))
 (.skip))))
 (.ops [(none, .mv 21 (.t 5)),
 (none, .bin 22 .add (.t 21) (.c (.I 1))),
 (none, .mv 5 (.t 22))]))))))
 (.seq (.ops [(none, .buildSl 29 0 1 [] []),
 (none, .buildSl 30 1 1 [.nil] [(0, 1, (.t 29))]),
 (none, .mv 4 (.t 30))])
 (.ret)))
 (.skip)))
 (.seq (.ops [(none, .buildSl 31 0 1 [] []),
 (none, .mv 32 (.t 1)),
 (none, .len 33 (.t 32)),
 (none, .mv 34 (.t 0)),
 (none, .idxS 35 1 (.t 34) (.c (.I 0))),
 (none, .load1 36 (.t 35)),
 (none, .call (some 37) F.spec_l4Rows [(.t 33), (.t 36)]),
 (none, .mv 6 (.t 31)),
 (none, .mv 7 (.t 37))])
 (.seq (.seq (.ops [(none, .mv 8 (.c (.I 0)))])
 (.block 2 (.loop (.seq (.seq (.ops [(none, .mv 38 (.t 8)),
 (none, .mv 39 (.t 7)),
 (none, .len 40 (.t 39)),
 (none, .bin 41 .lss (.t 38) (.t 40))])
 (.cond (.t 41) (.skip)
 (.exit 2)))
 (.seq (.block 3 (.seq (.ops [(none, .mv 44 (.t 1)),
 (none, .call (some 45) F.spec_l1Own [(.t 44)]),
 (none, .mv 9 (.t 45)),
 (none, .mv 10 (.c (.B true)))])
 (.seq (.seq (.ops [(none, .mv 11 (.c (.I 0)))])
 (.block 4 (.loop (.seq (.seq (.ops [(none, .mv 46 (.t 11)),
 (none, .mv 47 (.t 9)),
 (none, .len 48 (.t 47)),
 (none, .bin 49 .lss (.t 46) (.t 48))])
 (.cond (.t 49) (.skip)
 (.exit 4)))
 (.seq (.block 5 (.seq (.draw [⟨(none, .mv 52 (.t 9)), [], []⟩,
 ⟨(none, .mv 53 (.t 11)), [], []⟩,
 ⟨(none, .mv 54 (.t 9)), [], []⟩,
 ⟨(none, .mv 55 (.t 11)), [], []⟩,
 ⟨(none, .idxS 56 1 (.t 54) (.t 55)), [], []⟩,
 ⟨(none, .load1 57 (.t 56)), [], []⟩,
 ⟨(none, .mv 58 (.t 7)), [], []⟩,
 ⟨(none, .mv 59 (.t 8)), [], []⟩,
 ⟨(none, .idxS 60 1 (.t 58) (.t 59)), [], []⟩,
 ⟨(none, .load1 61 (.t 60)), [], []⟩,
 ⟨(none, .mv 62 (.t 11)), [], []⟩,
 ⟨(none, .idxS 63 1 (.t 61) (.t 62)), [], []⟩,
 ⟨(none, .load1 64 (.t 63)), [], []⟩,
 ⟨(none, .bin 65 .sub (.t 57) (.t 64)), [], []⟩,
 ⟨(none, .idxS 66 1 (.t 52) (.t 53)), [], []⟩,
 ⟨(none, .store 1 (.t 66) (.t 65)), [], []⟩])
 (.ops [(none, .mv 67 (.t 10)),
 (none, .mv 68 (.t 67)),
 (some (68, true), .mv 69 (.t 9)),
 (some (68, true), .mv 70 (.t 11)),
 (some (68, true), .idxS 71 1 (.t 69) (.t 70)),
 (some (68, true), .load1 72 (.t 71)),
 (some (68, true), .bin 73 .geq (.t 72) (.c (.I 0))),
 (none, .pick 74 (.t 68) (.t 73) (.c (.B false))),
 (none, .mv 10 (.t 74))])))
 (.ops [(none, .mv 50 (.t 11)),
 (none, .bin 51 .add (.t 50) (.c (.I 1))),
 (none, .mv 11 (.t 51))]))))))
 (.seq (.seq (.ops [(none, .mv 75 (.t 10)),
 (none, .un 76 .not (.t 75))])
 (.cond (.t 76) (.exit 3)
 (.skip)))
 (.seq (.ops [(none, .mv 77 (.t 0)),
 (none, .slS 78 1 (.t 77) (some (.c (.I 1))) none),
 (none, .mv 79 (.t 9)),
 (none, .call (some 80) F.spec_l4Tables [(.t 78), (.t 79)]),
 (none, .mv 12 (.t 80))])
 (.seq (.ops [(none, .mv 13 (.c (.I 0)))])
 (.block 6 (.loop (.seq (.seq (.ops [(none, .mv 81 (.t 13)),
 (none, .mv 82 (.t 12)),
 (none, .len 83 (.t 82)),
 (none, .bin 84 .lss (.t 81) (.t 83))])
 (.cond (.t 84) (.skip)
 (.exit 6)))
 (.seq (.block 7 (.draw [⟨(none, .mv 87 (.t 6)), [], []⟩,
 ⟨(none, .mv 88 (.t 7)), [], []⟩,
 ⟨(none, .mv 89 (.t 8)), [], []⟩,
 ⟨(none, .idxS 90 1 (.t 88) (.t 89)), [], []⟩,
 ⟨(none, .load1 91 (.t 90)), [], []⟩,
 ⟨(none, .mv 93 (.t 12)), [], []⟩,
 ⟨(none, .mv 94 (.t 13)), [], []⟩,
 ⟨(none, .idxS 95 1 (.t 93) (.t 94)), [], []⟩,
 ⟨(none, .load1 96 (.t 95)), [], []⟩,
 ⟨(none, .buildSl 92 1 1 [.nil] [(0, 1, (.t 91))]), [], []⟩,
 ⟨(none, .append 97 1 24 (.t 92) (.t 96)), [], [0]⟩,
 ⟨(none, .buildSl 98 1 1 [.nil] [(0, 1, (.t 97))]), [], []⟩,
 ⟨(none, .append 99 1 24 (.t 87) (.t 98)), [], []⟩,
 ⟨(none, .mv 6 (.t 99)), [], []⟩]))
 (.ops [(none, .mv 85 (.t 13)),
 (none, .bin 86 .add (.t 85) (.c (.I 1))),
 (none, .mv 13 (.t 86))])))))))))))
 (.ops [(none, .mv 42 (.t 8)),
 (none, .bin 43 .add (.t 42) (.c (.I 1))),
 (none, .mv 8 (.t 43))]))))))
 (.seq (.ops [(none, .mv 100 (.t 6)),
 (none, .mv 4 (.t 100))])
 (.ret)))))⟩
end Go.Ab.C

/- That the program has this code. -/
namespace Go.Ab.K
open Go Go.Ab
theorem spec_l4Tables : prepF Go.Proofs.Try.prog F.spec_l4Tables = some C.spec_l4Tables := by kernel_rfl
end Go.Ab.K

/- The abstract code of some functions (written by a program of mine from the translation, by way of prepF). -/
namespace Go.Ab.C
open Go.Ab
def spec_l4Rows : AFn :=
 ⟨2, 49, [.tmp 4],
 .seq (.ops [(none, .mv 4 (.c .nil))])
 (.seq (.seq (.ops [(none, .mv 9 (.t 0)),
 (none, .bin 10 .eql (.t 9) (.c (.I 0)))])
 (.cond (.t 10) (.seq (.seq (.ops [(none, .mv 11 (.t 1)),
 (none, .bin 12 .eql (.t 11) (.c (.I 0)))])
 (.cond (.t 12) (.seq (.ops [(none, .buildSl 13 0 1 [] []),
 (none, .buildSl 14 1 1 [.nil] [(0, 1, (.t 13))]),
 (none, .mv 4 (.t 14))])
 (.ret))
 (.skip)))
 (.seq (.ops [(none, .buildSl 15 0 1 [] []),
 (none, .mv 4 (.t 15))])
 (.ret)))
 (.skip)))
 (.seq (.ops [(none, .buildSl 16 0 1 [] []),
 (none, .mv 5 (.t 16))])
 (.seq (.seq (.ops [(none, .mv 6 (.c (.I 0)))])
 (.block 0 (.loop (.seq (.seq (.ops [(none, .mv 17 (.t 6)),
 (none, .bin 18 .lss (.t 17) (.c (.I 2))),
 (none, .mv 19 (.t 18)),
 (some (19, true), .mv 20 (.t 6)),
 (some (19, true), .mv 21 (.t 1)),
 (some (19, true), .bin 22 .leq (.t 20) (.t 21)),
 (none, .pick 23 (.t 19) (.t 22) (.c (.B false)))])
 (.cond (.t 23) (.skip)
 (.exit 0)))
 (.seq (.block 1 (.seq (.ops [(none, .mv 26 (.t 0)),
 (none, .bin 27 .sub (.t 26) (.c (.I 1))),
 (none, .mv 28 (.t 1)),
 (none, .mv 29 (.t 6)),
 (none, .bin 30 .sub (.t 28) (.t 29)),
 (none, .call (some 31) F.spec_l4Rows [(.t 27), (.t 30)]),
 (none, .mv 7 (.t 31))])
 (.seq (.ops [(none, .mv 8 (.c (.I 0)))])
 (.block 2 (.loop (.seq (.seq (.ops [(none, .mv 32 (.t 8)),
 (none, .mv 33 (.t 7)),
 (none, .len 34 (.t 33)),
 (none, .bin 35 .lss (.t 32) (.t 34))])
 (.cond (.t 35) (.skip)
 (.exit 2)))
 (.seq (.block 3 (.ops [(none, .mv 38 (.t 5)),
 (none, .mv 39 (.t 6)),
 (none, .buildSl 40 1 1 [(.I 0)] [(0, 1, (.t 39))]),
 (none, .mv 41 (.t 7)),
 (none, .mv 42 (.t 8)),
 (none, .idxS 43 1 (.t 41) (.t 42)),
 (none, .load1 44 (.t 43)),
 (none, .append 45 1 8 (.t 40) (.t 44)),
 (none, .buildSl 46 1 1 [.nil] [(0, 1, (.t 45))]),
 (none, .append 47 1 24 (.t 38) (.t 46)),
 (none, .mv 5 (.t 47))]))
 (.ops [(none, .mv 36 (.t 8)),
 (none, .bin 37 .add (.t 36) (.c (.I 1))),
 (none, .mv 8 (.t 37))]))))))))
 (.ops [(none, .mv 24 (.t 6)),
 (none, .bin 25 .add (.t 24) (.c (.I 1))),
 (none, .mv 6 (.t 25))]))))))
 (.seq (.ops [(none, .mv 48 (.t 5)),
 (none, .mv 4 (.t 48))])
 (.ret)))))⟩
end Go.Ab.C

/- That the program has this code. -/
namespace Go.Ab.K
open Go Go.Ab
theorem spec_l4Rows : prepF Go.Proofs.Try.prog F.spec_l4Rows = some C.spec_l4Rows := by kernel_rfl
end Go.Ab.K

/- Plain words: rows and tables of numbers 0 and 1 with given sums; cell by cell and row by row. -/
namespace Go.Ab
open Go
set_option linter.unusedSimpArgs false
set_option linter.unusedVariables false

/-- All rows of n numbers 0 and 1 with a sum, in order. -/
def rowsL : Nat → Int → List (List Int)
  | 0, s => if s = 0 then [[]] else []
  | n + 1, s => (if 0 ≤ s then (rowsL n s).map (0 :: ·) else []) ++ if 1 ≤ s then (rowsL n (s - 1)).map (1 :: ·) else []
theorem rowsL_succ {n : Nat} {s : Int} : rowsL (n + 1) s = (if 0 ≤ s then (rowsL n s).map (0 :: ·) else []) ++ if 1 ≤ s then (rowsL n (s - 1)).map (1 :: ·) else [] := rfl
def okR (B row : List Int) : Bool := (List.zipWith (fun b a => b - a) B row).all fun v => decide (0 ≤ v)
def subR (B row : List Int) : List Int := List.zipWith (fun b a => b - a) B row
/-- All tables with some sums, in order. -/
def tabsL : List Int → List Int → List (List (List Int))
  | [], cols => if cols.all (fun v => decide (v = 0)) then [[]] else []
  | r :: rs, cols => (rowsL cols.length r).flatMap fun row => if okR cols row then (tabsL rs (subR cols row)).map (row :: ·) else []
/-- The same cell by cell: k cells are left in a row that lacks s. -/
def fillK (n : Nat) (rs : List Int) (k : Nat) (s : Int) (left : List Int) : List (List Int) :=
  match rs, k with
  | rs, k + 1 => (fillK n rs k s left).map (0 :: ·) ++ if s = 0 ∨ left.getD (n - (k + 1)) 0 = 0 then [] else (fillK n rs k (s - 1) (left.set (n - (k + 1)) (left.getD (n - (k + 1)) 0 - 1))).map (1 :: ·)
  | [], 0 => if 0 < s then [] else if left.all (fun v => decide (v ≤ 0)) then [[]] else []
  | r :: rs, 0 => if 0 < s then [] else fillK n rs n r left
termination_by (rs.length, k)
theorem fillK_end {n : Nat} {s : Int} {left : List Int} : fillK n [] 0 s left = if 0 < s then [] else if left.all (fun v => decide (v ≤ 0)) then [[]] else [] := by rw [fillK]
theorem fillK_row {n : Nat} {r s : Int} {rs left : List Int} : fillK n (r :: rs) 0 s left = if 0 < s then [] else fillK n rs n r left := by rw [fillK]
theorem fillK_cell {n k : Nat} {s : Int} {rs left : List Int} : fillK n rs (k + 1) s left = (fillK n rs k s left).map (0 :: ·) ++ if s = 0 ∨ left.getD (n - (k + 1)) 0 = 0 then [] else (fillK n rs k (s - 1) (left.set (n - (k + 1)) (left.getD (n - (k + 1)) 0 - 1))).map (1 :: ·) := by
  cases rs <;> rw [fillK]
theorem rowsL_len : ∀ {n : Nat} {s : Int} {r : List Int}, r ∈ rowsL n s → r.length = n
  | 0, s, r, h => by
    unfold rowsL at h
    split at h
    · simp at h; rw [h]; rfl
    · simp at h
  | n + 1, s, r, h => by
    unfold rowsL at h
    rcases List.mem_append.1 h with h | h
    · split at h
      · obtain ⟨r', h1, rfl⟩ := List.mem_map.1 h
        simp [rowsL_len h1]
      · simp at h
    · split at h
      · obtain ⟨r', h1, rfl⟩ := List.mem_map.1 h
        simp [rowsL_len h1]
      · simp at h
theorem rowsL_count : ∀ {n : Nat} {s : Int}, (rowsL n s).length ≤ 2 ^ n
  | 0, s => by unfold rowsL; split <;> simp
  | n + 1, s => by
    unfold rowsL
    rw [List.length_append, Nat.pow_succ]
    have h1 := rowsL_count (n := n) (s := s)
    have h2 := rowsL_count (n := n) (s := s - 1)
    split <;> split <;> simp <;> omega
theorem rowsL_bit : ∀ {n : Nat} {s : Int} {r : List Int}, r ∈ rowsL n s → ∀ a ∈ r, a = 0 ∨ a = 1
  | 0, s, r, h => by
    unfold rowsL at h
    split at h
    · simp at h; rw [h]; simp
    · simp at h
  | n + 1, s, r, h => by
    unfold rowsL at h
    rcases List.mem_append.1 h with h | h
    · split at h
      · obtain ⟨r', h1, rfl⟩ := List.mem_map.1 h
        intro a ha
        rcases List.mem_cons.1 ha with rfl | ha
        · exact .inl rfl
        · exact rowsL_bit h1 a ha
      · simp at h
    · split at h
      · obtain ⟨r', h1, rfl⟩ := List.mem_map.1 h
        intro a ha
        rcases List.mem_cons.1 ha with rfl | ha
        · exact .inr rfl
        · exact rowsL_bit h1 a ha
      · simp at h
theorem subR_len {B row : List Int} (h : row.length = B.length) : (subR B row).length = B.length := by simp [subR, h]
/-- One row, cell by cell. -/
theorem fill_row {n : Nat} {rs : List Int} : ∀ {k : Nat} {s : Int} {A B : List Int}, 0 ≤ s → A.length + k = n → B.length = k → (∀ b ∈ B, 0 ≤ b) →
    fillK n rs k s (A ++ B) = (rowsL k s).flatMap fun row => if okR B row then (fillK n rs 0 0 (A ++ subR B row)).map (row ++ ·) else []
  | 0, s, A, B, hs, hA, hB, _ => by
    have : B = [] := List.eq_nil_of_length_eq_zero hB
    subst this
    unfold rowsL
    by_cases h0 : s = 0
    · subst h0
      simp [okR, subR]
    · rw [if_neg h0]
      cases rs with
      | nil => rw [fillK_end, if_pos (by omega)]; rfl
      | cons r rs => rw [fillK_row, if_pos (by omega)]; rfl
  | k + 1, s, A, B, hs, hA, hB, hb => by
    cases B with
    | nil => simp at hB
    | cons b B =>
      have hB' : B.length = k := by simpa using hB
      have hb0 := hb b (by simp)
      have hbt : ∀ c ∈ B, 0 ≤ c := fun c hc => hb c (by simp [hc])
      have e1 : A ++ b :: B = (A ++ [b]) ++ B := by simp
      have hix : n - (k + 1) = A.length := by omega
      have hget : (A ++ b :: B).getD A.length 0 = b := by
        simp only [List.getD_eq_getElem?_getD]; rw [List.getElem?_append_right (Nat.le_refl _)]; simp
      have hset : ∀ v, (A ++ b :: B).set A.length v = (A ++ [v]) ++ B := fun v => by
        rw [List.set_append_right (h := Nat.le_refl _)]; simp
      rw [fillK_cell, hix, hget, hset]
      unfold rowsL
      rw [if_pos hs, List.flatMap_append]
      congr 1
      · rw [e1, fill_row hs (by simp; omega) hB' hbt, List.flatMap_map, List.map_flatMap]
        congr 1
        funext row
        have : okR (b :: B) (0 :: row) = okR B row := by simp [okR, hb0]
        rw [this]
        split
        · rw [List.map_map]
          have : subR (b :: B) (0 :: row) = b :: subR B row := by simp [subR]
          rw [this, show A ++ b :: subR B row = (A ++ [b]) ++ subR B row by simp]
          rfl
        · rfl
      · by_cases h1 : 1 ≤ s
        · rw [if_pos h1, List.flatMap_map]
          by_cases hbz : b = 0
          · rw [if_pos (.inr hbz)]
            symm
            rw [List.flatMap_eq_nil_iff]
            intro row _
            have : okR (b :: B) (1 :: row) = false := by simp [okR, hbz]
            rw [this]; rfl
          · rw [if_neg (by omega), fill_row (by omega) (by simp; omega) hB' hbt, List.map_flatMap]
            congr 1
            funext row
            have : okR (b :: B) (1 :: row) = okR B row := by
              simp only [okR, List.zipWith_cons_cons, List.all_cons]
              rw [decide_eq_true (by omega), Bool.true_and]
            rw [this]
            split
            · rw [List.map_map]
              have : subR (b :: B) (1 :: row) = (b - 1) :: subR B row := by simp [subR]
              rw [this, show A ++ (b - 1) :: subR B row = (A ++ [b - 1]) ++ subR B row by simp]
              rfl
            · rfl
        · rw [if_neg h1, if_pos (.inl (by omega))]; rfl
theorem okR_nonneg {B row : List Int} (h : okR B row = true) : ∀ b ∈ subR B row, 0 ≤ b := by
  unfold okR at h
  rw [List.all_eq_true] at h
  intro b hb
  exact of_decide_eq_true (h b hb)
theorem flat_congr {α β : Type} {f g : α → List β} : ∀ {l : List α}, (∀ a ∈ l, f a = g a) → l.flatMap f = l.flatMap g
  | [], _ => rfl
  | a :: l, h => by rw [List.flatMap_cons, List.flatMap_cons, h a (by simp), flat_congr fun b hb => h b (by simp [hb])]
/-- All tables, cell by cell. -/
theorem fill_tabs {n : Nat} : ∀ {rs cols : List Int}, cols.length = n → (∀ b ∈ cols, 0 ≤ b) → (∀ r ∈ rs, 0 ≤ r) → fillK n rs 0 0 cols = (tabsL rs cols).map List.flatten
  | [], cols, hn, hc, _ => by
    rw [fillK_end, if_neg (by omega)]
    unfold tabsL
    have : cols.all (fun v => decide (v ≤ 0)) = cols.all (fun v => decide (v = 0)) := by
      rw [Bool.eq_iff_iff, List.all_eq_true, List.all_eq_true]
      constructor
      · intro h v hv; have := of_decide_eq_true (h v hv); have := hc v hv; exact decide_eq_true (by omega)
      · intro h v hv; have := of_decide_eq_true (h v hv); exact decide_eq_true (by omega)
    rw [this]
    split <;> simp
  | r :: rs, cols, hn, hc, hr => by
    rw [fillK_row, if_neg (by omega)]
    have := fill_row (n := n) (rs := rs) (k := n) (s := r) (A := []) (B := cols) (hr r (by simp)) (by simp) hn hc
    rw [List.nil_append] at this
    rw [this]
    unfold tabsL
    rw [hn, List.map_flatMap]
    refine flat_congr fun row hrow => ?_
    split
    · rename_i hok
      rw [List.nil_append, fill_tabs (by rw [subR_len (by rw [rowsL_len hrow, hn]), hn]) (okR_nonneg hok) fun a ha => hr a (by simp [ha]), List.map_map, List.map_map]
      rfl
    · rfl
theorem tabsL_count {n : Nat} : ∀ {rs cols : List Int}, cols.length = n → (tabsL rs cols).length ≤ (2 ^ n) ^ rs.length
  | [], cols, _ => by unfold tabsL; split <;> simp
  | r :: rs, cols, hn => by
    unfold tabsL
    rw [List.length_flatMap]
    have h1 : ∀ l : List (List Int), (∀ row ∈ l, row.length = n) → (l.map fun row => (if okR cols row then (tabsL rs (subR cols row)).map (row :: ·) else []).length).sum ≤ l.length * (2 ^ n) ^ rs.length := by
      intro l hl
      induction l with
      | nil => simp
      | cons row l ih =>
        have h2 := ih fun r hr => hl r (by simp [hr])
        have h3 : (if okR cols row then (tabsL rs (subR cols row)).map (row :: ·) else []).length ≤ (2 ^ n) ^ rs.length := by
          split
          · rw [List.length_map]; exact tabsL_count (by rw [subR_len (by rw [hl row (by simp), hn]), hn])
          · simp
        simp only [List.map_cons, List.sum_cons, List.length_cons, Nat.add_mul, Nat.one_mul]
        omega
    refine Nat.le_trans (h1 _ fun row h => by rw [rowsL_len h, hn]) ?_
    rw [List.length_cons, Nat.pow_succ, Nat.mul_comm, hn]
    exact Nat.mul_le_mul_left _ rowsL_count
theorem tabsL_mem {n : Nat} : ∀ {rs cols : List Int} {T : List (List Int)}, cols.length = n → T ∈ tabsL rs cols → T.length = rs.length ∧ ∀ row ∈ T, row.length = n ∧ ∀ a ∈ row, a = 0 ∨ a = 1
  | [], cols, T, _, h => by
    unfold tabsL at h
    split at h
    · rw [List.mem_singleton.1 h]; simp
    · simp at h
  | r :: rs, cols, T, hn, h => by
    unfold tabsL at h
    obtain ⟨row, h1, h2⟩ := List.mem_flatMap.1 h
    split at h2
    · obtain ⟨T', h3, rfl⟩ := List.mem_map.1 h2
      have hl := rowsL_len h1
      have := tabsL_mem (by rw [subR_len hl, hn]) h3
      refine ⟨by simp [this.1], fun q hq => ?_⟩
      rcases List.mem_cons.1 hq with rfl | hq
      · exact ⟨by rw [hl, hn], rowsL_bit h1⟩
      · exact this.2 q hq
    · simp at h2
end Go.Ab

/- The abstract code of some functions (written by a program of mine from the translation, by way of prepF). -/
namespace Go.Ab.C
open Go.Ab
end Go.Ab.C

/- That the program has this code. -/
namespace Go.Ab.K
open Go Go.Ab
end Go.Ab.K

/- The abstract code of some functions (written by a program of mine from the translation, by way of prepF). -/
namespace Go.Ab.C
open Go.Ab
end Go.Ab.C

/- That the program has this code. -/
namespace Go.Ab.K
open Go Go.Ab
end Go.Ab.K

/- The abstract code of some functions (written by a program of mine from the translation, by way of prepF). -/
namespace Go.Ab.C
open Go.Ab
end Go.Ab.C

/- That the program has this code. -/
namespace Go.Ab.K
open Go Go.Ab
end Go.Ab.K

/- The abstract code of some functions (written by a program of mine from the translation, by way of prepF). -/
namespace Go.Ab.C
open Go.Ab
end Go.Ab.C

/- That the program has this code. -/
namespace Go.Ab.K
open Go Go.Ab
end Go.Ab.K

/- The abstract code of some functions (written by a program of mine from the translation, by way of prepF). -/
namespace Go.Ab.C
open Go.Ab
end Go.Ab.C

/- That the program has this code. -/
namespace Go.Ab.K
open Go Go.Ab
end Go.Ab.K

/- The abstract code of some functions (written by a program of mine from the translation, by way of prepF). -/
namespace Go.Ab.C
open Go.Ab
end Go.Ab.C

/- That the program has this code. -/
namespace Go.Ab.K
open Go Go.Ab
end Go.Ab.K

/- The abstract code of some functions (written by a program of mine from the translation, by way of prepF). -/
namespace Go.Ab.C
open Go.Ab
def spec_l2Own : AFn :=
 ⟨1, 9, [.cellN 2 4],
 .seq (.ops [(none, .box 1 (.t 0)),
 (none, .alloc 2 [(.I 0), (.I 0), (.I 0), .nil])])
 (.seq (.draw [⟨(none, .loadN 3 4 (.t 1)), [], []⟩,
 ⟨(none, .fieldAddr 5 (.t 1) 3), [], []⟩,
 ⟨(none, .load1 6 (.t 5)), [], []⟩,
 ⟨(none, .buildSl 4 0 3 [] []), [], []⟩,
 ⟨(none, .append 7 3 24 (.t 4) (.t 6)), [], [0]⟩,
 ⟨(none, .call (some 8) F.spec_l2Made [(.t 3), (.t 7)]), [], []⟩,
 ⟨(none, .store 4 (.t 2) (.t 8)), [], []⟩])
 (.ret))⟩
def spec_l2With : AFn :=
 ⟨2, 54, [.cellN 4 4],
 .seq (.ops [(none, .box 2 (.t 0)),
 (none, .box 3 (.t 1)),
 (none, .alloc 4 [(.I 0), (.I 0), (.I 0), .nil])])
 (.seq (.ops [(none, .mv 5 (.c (.I 0)))])
 (.seq (.block 0 (.loop (.seq (.seq (.draw [⟨(none, .mv 6 (.t 5)), [], []⟩,
 ⟨(none, .fieldAddr 7 (.t 2) 3), [], []⟩,
 ⟨(none, .load1 8 (.t 7)), [], []⟩,
 ⟨(none, .len 9 (.t 8)), [], []⟩,
 ⟨(none, .bin 10 .lss (.t 6) (.t 9)), [], []⟩,
 ⟨(none, .mv 11 (.t 10)), [], []⟩,
 ⟨(some (11, true), .fieldAddr 12 (.t 2) 3), [], []⟩,
 ⟨(some (11, true), .load1 13 (.t 12)), [], []⟩,
 ⟨(some (11, true), .mv 14 (.t 5)), [], []⟩,
 ⟨(some (11, true), .idxS 15 3 (.t 13) (.t 14)), [], []⟩,
 ⟨(some (11, true), .loadN 16 3 (.t 15)), [], []⟩,
 ⟨(some (11, true), .loadN 17 3 (.t 3)), [], []⟩,
 ⟨(some (11, true), .call (some 18) F.spec_l2Before [(.t 16), (.t 17)]), [], []⟩,
 ⟨(none, .pick 19 (.t 11) (.t 18) (.c (.B false))), [], []⟩])
 (.cond (.t 19) (.skip)
 (.exit 0)))
 (.block 1 (.ops [(none, .mv 20 (.t 5)),
 (none, .bin 21 .add (.t 20) (.c (.I 1))),
 (none, .mv 5 (.t 21))])))))
 (.seq (.seq (.draw [⟨(none, .mv 22 (.t 5)), [], []⟩,
 ⟨(none, .fieldAddr 23 (.t 2) 3), [], []⟩,
 ⟨(none, .load1 24 (.t 23)), [], []⟩,
 ⟨(none, .len 25 (.t 24)), [], []⟩,
 ⟨(none, .bin 26 .lss (.t 22) (.t 25)), [], []⟩,
 ⟨(none, .mv 27 (.t 26)), [], []⟩,
 ⟨(some (27, true), .fieldAddr 28 (.t 2) 3), [], []⟩,
 ⟨(some (27, true), .load1 29 (.t 28)), [], []⟩,
 ⟨(some (27, true), .mv 30 (.t 5)), [], []⟩,
 ⟨(some (27, true), .idxS 31 3 (.t 29) (.t 30)), [], []⟩,
 ⟨(some (27, true), .loadN 32 3 (.t 31)), [], []⟩,
 ⟨(some (27, true), .loadN 33 3 (.t 3)), [], []⟩,
 ⟨(some (27, true), .eqs 34 false 3 (.t 32) (.t 33)), [], []⟩,
 ⟨(none, .pick 35 (.t 27) (.t 34) (.c (.B false))), [], []⟩])
 (.cond (.t 35) (.seq (.ops [(none, .loadN 36 4 (.t 2)),
 (none, .call (some 37) F.spec_l2Own [(.t 36)]),
 (none, .store 4 (.t 4) (.t 37))])
 (.ret))
 (.skip)))
 (.seq (.draw [⟨(none, .loadN 38 4 (.t 2)), [], []⟩,
 ⟨(none, .fieldAddr 40 (.t 2) 3), [], []⟩,
 ⟨(none, .load1 41 (.t 40)), [], []⟩,
 ⟨(none, .mv 42 (.t 5)), [], []⟩,
 ⟨(none, .slS 43 3 (.t 41) none (some (.t 42))), [], []⟩,
 ⟨(none, .loadN 45 3 (.t 3)), [], []⟩,
 ⟨(none, .fieldAddr 48 (.t 2) 3), [], []⟩,
 ⟨(none, .load1 49 (.t 48)), [], []⟩,
 ⟨(none, .mv 50 (.t 5)), [], []⟩,
 ⟨(none, .slS 51 3 (.t 49) (some (.t 50)) none), [], []⟩,
 ⟨(none, .buildSl 39 0 3 [] []), [], []⟩,
 ⟨(none, .buildSl 46 1 3 [(.I 0), (.I 0), (.I 0)] [(0, 3, (.t 45))]), [], []⟩,
 ⟨(none, .append 44 3 24 (.t 39) (.t 43)), [11], [0, 5, 6, 7, 8, 9]⟩,
 ⟨(none, .append 47 3 24 (.t 44) (.t 46)), [], [0, 6, 7, 8, 9]⟩,
 ⟨(none, .append 52 3 24 (.t 47) (.t 51)), [], [0]⟩,
 ⟨(none, .call (some 53) F.spec_l2Made [(.t 38), (.t 52)]), [], []⟩,
 ⟨(none, .store 4 (.t 4) (.t 53)), [], []⟩])
 (.ret)))))⟩
end Go.Ab.C

/- That the program has this code. -/
namespace Go.Ab.K
open Go Go.Ab
theorem spec_l2Own : prepF Go.Proofs.Try.prog F.spec_l2Own = some C.spec_l2Own := by kernel_rfl
theorem spec_l2With : prepF Go.Proofs.Try.prog F.spec_l2With = some C.spec_l2With := by kernel_rfl
end Go.Ab.K

/- The abstract code of some functions (written by a program of mine from the translation, by way of prepF). -/
namespace Go.Ab.C
open Go.Ab
def spec_l2Empty : AFn :=
 ⟨3, 12, [.cellN 6 4],
 .seq (.ops [(none, .alloc 6 [(.I 0), (.I 0), (.I 0), .nil])])
 (.seq (.ops [(none, .mv 7 (.t 0)),
 (none, .mv 8 (.t 1)),
 (none, .mv 9 (.t 2)),
 (none, .buildSl 10 0 3 [] []),
 (none, .build 11 [(.I 0), (.I 0), (.I 0), .nil] [(0, 1, (.t 7)), (1, 1, (.t 8)), (2, 1, (.t 9)), (3, 1, (.t 10))]),
 (none, .store 4 (.t 6) (.t 11))])
 (.ret))⟩
def spec_l2Has : AFn :=
 ⟨2, 20, [.tmp 4],
 .seq (.ops [(none, .box 2 (.t 0)),
 (none, .box 3 (.t 1)),
 (none, .mv 4 (.c (.B false)))])
 (.seq (.seq (.ops [(none, .mv 5 (.c (.I 0)))])
 (.block 0 (.loop (.seq (.seq (.ops [(none, .mv 6 (.t 5)),
 (none, .fieldAddr 7 (.t 2) 3),
 (none, .load1 8 (.t 7)),
 (none, .len 9 (.t 8)),
 (none, .bin 10 .lss (.t 6) (.t 9))])
 (.cond (.t 10) (.skip)
 (.exit 0)))
 (.seq (.block 1 (.seq (.draw [⟨(none, .fieldAddr 13 (.t 2) 3), [], []⟩,
 ⟨(none, .load1 14 (.t 13)), [], []⟩,
 ⟨(none, .mv 15 (.t 5)), [], []⟩,
 ⟨(none, .idxS 16 3 (.t 14) (.t 15)), [], []⟩,
 ⟨(none, .loadN 17 3 (.t 16)), [], []⟩,
 ⟨(none, .loadN 18 3 (.t 3)), [], []⟩,
 ⟨(none, .eqs 19 false 3 (.t 17) (.t 18)), [], []⟩])
 (.cond (.t 19) (.seq (.ops [(none, .mv 4 (.c (.B true)))])
 (.ret))
 (.skip))))
 (.ops [(none, .mv 11 (.t 5)),
 (none, .bin 12 .add (.t 11) (.c (.I 1))),
 (none, .mv 5 (.t 12))]))))))
 (.seq (.ops [(none, .mv 4 (.c (.B false)))])
 (.ret)))⟩
def spec_l2Made : AFn :=
 ⟨2, 13, [.cellN 4 4],
 .seq (.ops [(none, .box 2 (.t 0)),
 (none, .alloc 4 [(.I 0), (.I 0), (.I 0), .nil])])
 (.seq (.ops [(none, .fieldAddr 5 (.t 2) 0),
 (none, .load1 6 (.t 5)),
 (none, .fieldAddr 7 (.t 2) 1),
 (none, .load1 8 (.t 7)),
 (none, .fieldAddr 9 (.t 2) 2),
 (none, .load1 10 (.t 9)),
 (none, .mv 11 (.t 1)),
 (none, .build 12 [(.I 0), (.I 0), (.I 0), .nil] [(0, 1, (.t 6)), (1, 1, (.t 8)), (2, 1, (.t 10)), (3, 1, (.t 11))]),
 (none, .store 4 (.t 4) (.t 12))])
 (.ret))⟩
end Go.Ab.C

/- That the program has this code. -/
namespace Go.Ab.K
open Go Go.Ab
theorem spec_l2Empty : prepF Go.Proofs.Try.prog F.spec_l2Empty = some C.spec_l2Empty := by kernel_rfl
theorem spec_l2Has : prepF Go.Proofs.Try.prog F.spec_l2Has = some C.spec_l2Has := by kernel_rfl
theorem spec_l2Made : prepF Go.Proofs.Try.prog F.spec_l2Made = some C.spec_l2Made := by kernel_rfl
end Go.Ab.K

/- The abstract code of some functions (written by a program of mine from the translation, by way of prepF). -/
namespace Go.Ab.C
open Go.Ab
end Go.Ab.C

/- That the program has this code. -/
namespace Go.Ab.K
open Go Go.Ab
end Go.Ab.K

/- The abstract code of some functions (written by a program of mine from the translation, by way of prepF). -/
namespace Go.Ab.C
open Go.Ab
def spec_l2Heap : AFn :=
 ⟨1, 46, [.tmp 2],
 .seq (.ops [(none, .box 1 (.t 0)),
 (none, .mv 2 (.c (.B false)))])
 (.seq (.seq (.ops [(none, .fieldAddr 4 (.t 1) 0),
 (none, .load1 5 (.t 4)),
 (none, .fieldAddr 6 (.t 1) 1),
 (none, .load1 7 (.t 6)),
 (none, .fieldAddr 8 (.t 1) 2),
 (none, .load1 9 (.t 8)),
 (none, .call (some 10) F.spec_l2Sides [(.t 5), (.t 7), (.t 9)]),
 (none, .un 11 .not (.t 10))])
 (.cond (.t 11) (.seq (.ops [(none, .mv 2 (.c (.B false)))])
 (.ret))
 (.skip)))
 (.seq (.seq (.ops [(none, .mv 3 (.c (.I 0)))])
 (.block 0 (.loop (.seq (.seq (.ops [(none, .mv 12 (.t 3)),
 (none, .fieldAddr 13 (.t 1) 3),
 (none, .load1 14 (.t 13)),
 (none, .len 15 (.t 14)),
 (none, .bin 16 .lss (.t 12) (.t 15))])
 (.cond (.t 16) (.skip)
 (.exit 0)))
 (.seq (.block 1 (.seq (.draw [⟨(none, .loadN 19 4 (.t 1)), [], []⟩,
 ⟨(none, .fieldAddr 20 (.t 1) 3), [], []⟩,
 ⟨(none, .load1 21 (.t 20)), [], []⟩,
 ⟨(none, .mv 22 (.t 3)), [], []⟩,
 ⟨(none, .idxS 23 3 (.t 21) (.t 22)), [], []⟩,
 ⟨(none, .loadN 24 3 (.t 23)), [], []⟩,
 ⟨(none, .call (some 25) F.spec_l2In [(.t 19), (.t 24)]), [], []⟩,
 ⟨(none, .un 26 .not (.t 25)), [], []⟩,
 ⟨(none, .mv 27 (.t 26)), [], []⟩,
 ⟨(some (27, false), .mv 28 (.t 3)), [], []⟩,
 ⟨(some (27, false), .bin 29 .gtr (.t 28) (.c (.I 0))), [], []⟩,
 ⟨(some (27, false), .mv 30 (.t 29)), [], []⟩,
 ⟨(some (30, true), .fieldAddr 31 (.t 1) 3), [], []⟩,
 ⟨(some (30, true), .load1 32 (.t 31)), [], []⟩,
 ⟨(some (30, true), .mv 33 (.t 3)), [], []⟩,
 ⟨(some (30, true), .bin 34 .sub (.t 33) (.c (.I 1))), [], []⟩,
 ⟨(some (30, true), .idxS 35 3 (.t 32) (.t 34)), [], []⟩,
 ⟨(some (30, true), .loadN 36 3 (.t 35)), [], []⟩,
 ⟨(some (30, true), .fieldAddr 37 (.t 1) 3), [], []⟩,
 ⟨(some (30, true), .load1 38 (.t 37)), [], []⟩,
 ⟨(some (30, true), .mv 39 (.t 3)), [], []⟩,
 ⟨(some (30, true), .idxS 40 3 (.t 38) (.t 39)), [], []⟩,
 ⟨(some (30, true), .loadN 41 3 (.t 40)), [], []⟩,
 ⟨(some (30, true), .call (some 42) F.spec_l2Before [(.t 36), (.t 41)]), [], []⟩,
 ⟨(some (30, true), .un 43 .not (.t 42)), [], []⟩,
 ⟨(some (27, false), .pick 44 (.t 30) (.t 43) (.c (.B false))), [], []⟩,
 ⟨(none, .pick 45 (.t 27) (.c (.B true)) (.t 44)), [], []⟩])
 (.cond (.t 45) (.seq (.ops [(none, .mv 2 (.c (.B false)))])
 (.ret))
 (.skip))))
 (.ops [(none, .mv 17 (.t 3)),
 (none, .bin 18 .add (.t 17) (.c (.I 1))),
 (none, .mv 3 (.t 18))]))))))
 (.seq (.ops [(none, .mv 2 (.c (.B true)))])
 (.ret))))⟩
end Go.Ab.C

/- That the program has this code. -/
namespace Go.Ab.K
open Go Go.Ab
theorem spec_l2Heap : prepF Go.Proofs.Try.prog F.spec_l2Heap = some C.spec_l2Heap := by kernel_rfl
end Go.Ab.K

/- The abstract code of some functions (written by a program of mine from the translation, by way of prepF). -/
namespace Go.Ab.C
open Go.Ab
def spec_l1In : AFn :=
 ⟨3, 15, [.tmp 6],
 .seq (.ops [(none, .mv 6 (.c (.B false)))])
 (.seq (.ops [(none, .mv 7 (.t 0)),
 (none, .mv 8 (.t 1)),
 (none, .bin 9 .geq (.t 7) (.t 8)),
 (none, .mv 10 (.t 9)),
 (some (10, true), .mv 11 (.t 0)),
 (some (10, true), .mv 12 (.t 2)),
 (some (10, true), .bin 13 .leq (.t 11) (.t 12)),
 (none, .pick 14 (.t 10) (.t 13) (.c (.B false))),
 (none, .mv 6 (.t 14))])
 (.ret))⟩
def spec_l2Sides : AFn :=
 ⟨3, 17, [.tmp 6],
 .seq (.ops [(none, .mv 6 (.c (.B false)))])
 (.seq (.ops [(none, .mv 7 (.t 0)),
 (none, .call (some 8) F.spec_l1In [(.t 7), (.c (.I 1)), (.c (.I 4))]),
 (none, .mv 9 (.t 8)),
 (some (9, true), .mv 10 (.t 1)),
 (some (9, true), .call (some 11) F.spec_l1In [(.t 10), (.c (.I 1)), (.c (.I 4))]),
 (none, .pick 12 (.t 9) (.t 11) (.c (.B false))),
 (none, .mv 13 (.t 12)),
 (some (13, true), .mv 14 (.t 2)),
 (some (13, true), .call (some 15) F.spec_l1In [(.t 14), (.c (.I 1)), (.c (.I 4))]),
 (none, .pick 16 (.t 13) (.t 15) (.c (.B false))),
 (none, .mv 6 (.t 16))])
 (.ret))⟩
def spec_l2Before : AFn :=
 ⟨2, 24, [.tmp 4],
 .seq (.ops [(none, .box 2 (.t 0)),
 (none, .box 3 (.t 1)),
 (none, .mv 4 (.c (.B false)))])
 (.seq (.seq (.ops [(none, .mv 5 (.c (.I 0)))])
 (.block 0 (.loop (.seq (.seq (.ops [(none, .mv 6 (.t 5)),
 (none, .bin 7 .lss (.t 6) (.c (.I 3)))])
 (.cond (.t 7) (.skip)
 (.exit 0)))
 (.seq (.block 1 (.seq (.draw [⟨(none, .mv 10 (.t 5)), [], []⟩,
 ⟨(none, .idxA 11 3 1 (.t 2) (.t 10)), [], []⟩,
 ⟨(none, .load1 12 (.t 11)), [], []⟩,
 ⟨(none, .mv 13 (.t 5)), [], []⟩,
 ⟨(none, .idxA 14 3 1 (.t 3) (.t 13)), [], []⟩,
 ⟨(none, .load1 15 (.t 14)), [], []⟩,
 ⟨(none, .bin 16 .neq (.t 12) (.t 15)), [], []⟩])
 (.cond (.t 16) (.seq (.draw [⟨(none, .mv 17 (.t 5)), [], []⟩,
 ⟨(none, .idxA 18 3 1 (.t 2) (.t 17)), [], []⟩,
 ⟨(none, .load1 19 (.t 18)), [], []⟩,
 ⟨(none, .mv 20 (.t 5)), [], []⟩,
 ⟨(none, .idxA 21 3 1 (.t 3) (.t 20)), [], []⟩,
 ⟨(none, .load1 22 (.t 21)), [], []⟩,
 ⟨(none, .bin 23 .lss (.t 19) (.t 22)), [], []⟩,
 ⟨(none, .mv 4 (.t 23)), [], []⟩])
 (.ret))
 (.skip))))
 (.ops [(none, .mv 8 (.t 5)),
 (none, .bin 9 .add (.t 8) (.c (.I 1))),
 (none, .mv 5 (.t 9))]))))))
 (.seq (.ops [(none, .mv 4 (.c (.B false)))])
 (.ret)))⟩
def spec_l2In : AFn :=
 ⟨2, 27, [.tmp 4],
 .seq (.ops [(none, .box 2 (.t 0)),
 (none, .box 3 (.t 1)),
 (none, .mv 4 (.c (.B false)))])
 (.seq (.ops [(none, .idxA 5 3 1 (.t 3) (.c (.I 0))),
 (none, .load1 6 (.t 5)),
 (none, .fieldAddr 7 (.t 2) 0),
 (none, .load1 8 (.t 7)),
 (none, .bin 9 .sub (.t 8) (.c (.I 1))),
 (none, .call (some 10) F.spec_l1In [(.t 6), (.c (.I 0)), (.t 9)]),
 (none, .mv 11 (.t 10)),
 (some (11, true), .idxA 12 3 1 (.t 3) (.c (.I 1))),
 (some (11, true), .load1 13 (.t 12)),
 (some (11, true), .fieldAddr 14 (.t 2) 1),
 (some (11, true), .load1 15 (.t 14)),
 (some (11, true), .bin 16 .sub (.t 15) (.c (.I 1))),
 (some (11, true), .call (some 17) F.spec_l1In [(.t 13), (.c (.I 0)), (.t 16)]),
 (none, .pick 18 (.t 11) (.t 17) (.c (.B false))),
 (none, .mv 19 (.t 18)),
 (some (19, true), .idxA 20 3 1 (.t 3) (.c (.I 2))),
 (some (19, true), .load1 21 (.t 20)),
 (some (19, true), .fieldAddr 22 (.t 2) 2),
 (some (19, true), .load1 23 (.t 22)),
 (some (19, true), .bin 24 .sub (.t 23) (.c (.I 1))),
 (some (19, true), .call (some 25) F.spec_l1In [(.t 21), (.c (.I 0)), (.t 24)]),
 (none, .pick 26 (.t 19) (.t 25) (.c (.B false))),
 (none, .mv 4 (.t 26))])
 (.ret))⟩
end Go.Ab.C

/- That the program has this code. -/
namespace Go.Ab.K
open Go Go.Ab
theorem spec_l1In : prepF Go.Proofs.Try.prog F.spec_l1In = some C.spec_l1In := by kernel_rfl
theorem spec_l2Sides : prepF Go.Proofs.Try.prog F.spec_l2Sides = some C.spec_l2Sides := by kernel_rfl
theorem spec_l2Before : prepF Go.Proofs.Try.prog F.spec_l2Before = some C.spec_l2Before := by kernel_rfl
theorem spec_l2In : prepF Go.Proofs.Try.prog F.spec_l2In = some C.spec_l2In := by kernel_rfl
end Go.Ab.K

/- Plain words for heaps: sides, cells, order, heights of columns. -/
namespace Go.Ab

def Sides (x y z : Int) : Prop := (1 ≤ x ∧ x ≤ 4) ∧ (1 ≤ y ∧ y ≤ 4) ∧ (1 ≤ z ∧ z ≤ 4)
instance (x y z : Int) : Decidable (Sides x y z) := by unfold Sides; infer_instance
def Cell.lt (p q : Cell) : Prop := p.a < q.a ∨ (p.a = q.a ∧ (p.b < q.b ∨ (p.b = q.b ∧ p.c < q.c)))
instance (p q : Cell) : Decidable (p.lt q) := by unfold Cell.lt; infer_instance
def Cell.inBox (x y z : Int) (c : Cell) : Prop := (0 ≤ c.a ∧ c.a ≤ x - 1) ∧ (0 ≤ c.b ∧ c.b ≤ y - 1) ∧ (0 ≤ c.c ∧ c.c ≤ z - 1)
instance (x y z : Int) (c : Cell) : Decidable (c.inBox x y z) := by unfold Cell.inBox; infer_instance
/-- A valid heap. -/
def HeapOK (x y z : Int) (cs : List Cell) : Prop :=
  Sides x y z ∧ ∀ k, k < cs.length → (cs.getD k default).inBox x y z ∧ (0 < k → (cs.getD (k - 1) default).lt (cs.getD k default))
noncomputable instance (x y z : Int) (cs : List Cell) : Decidable (HeapOK x y z cs) := Classical.propDecidable _

/-- The heights of columns. -/
def topStep (y : Int) (out : List Int) (c : Cell) : List Int := out.set (c.a * y + c.b).toNat (max (out.getD (c.a * y + c.b).toNat 0) (c.c + 1))
def topsOf (x y : Int) (cs : List Cell) : List Int := cs.foldl (topStep y) (List.replicate (x * y).toNat 0)

def apart (p q : Cell) : Int := max (p.a - q.a) (q.a - p.a) + max (p.b - q.b) (q.b - p.b) + max (p.c - q.c) (q.c - p.c)
def colOf (y p : Int) : Cell := ⟨p.tdiv y, p.tmod y, 0⟩
def nums (n : Nat) : List Int := (List.range n).map Int.ofNat
def nexts (x y p : Int) : List Int := (nums (x * y).toNat).filter fun q => decide (apart (colOf y p) (colOf y q) = 1)
def gap (a b : Int) : Int := max (a - b) (b - a)
def stepsOf (x y : Int) (ts : List Int) (p s : Int) : List Int := (nexts x y p).filter fun q => decide (gap (ts.getD q.toNat 0) (ts.getD p.toNat 0) ≤ s)

theorem take_succ_foldl {α β : Type} (f : β → α → β) (b : β) (l : List α) (k : Nat) (d : α) (h : k < l.length) : (l.take (k + 1)).foldl f b = f ((l.take k).foldl f b) (l.getD k d) := by
  have e : l[k]? = some l[k] := getElem?_pos l k h
  rw [List.take_add_one, List.foldl_append, e, List.getD_eq_getElem?_getD, e]
  rfl
theorem mul_bound {x y : Int} (hx : 1 ≤ x ∧ x ≤ 4) (hy : 1 ≤ y ∧ y ≤ 4) : 1 ≤ x * y ∧ x * y ≤ 16 := by
  have h1 : x = 1 ∨ x = 2 ∨ x = 3 ∨ x = 4 := by omega
  have h2 : y = 1 ∨ y = 2 ∨ y = 3 ∨ y = 4 := by omega
  rcases h1 with rfl | rfl | rfl | rfl <;> omega
theorem col_bound {x y a b : Int} (hx : 1 ≤ x ∧ x ≤ 4) (hy : 1 ≤ y ∧ y ≤ 4) (ha : 0 ≤ a ∧ a ≤ x - 1) (hb : 0 ≤ b ∧ b ≤ y - 1) : 0 ≤ a * y + b ∧ a * y + b < x * y ∧ 0 ≤ a * y ∧ a * y ≤ 16 := by
  have h2 : y = 1 ∨ y = 2 ∨ y = 3 ∨ y = 4 := by omega
  rcases h2 with rfl | rfl | rfl | rfl <;> omega
end Go.Ab

/- Contracts: the reference's heaps and columns. -/
namespace Go.Ab
open Go
set_option linter.unusedSimpArgs false
set_option linter.unusedVariables false

theorem h_l1In {n lo hi : Int} {M : Mem} : CallsTo PG F.spec_l1In [.I n, .I lo, .I hi] M (.B (decide (lo ≤ n ∧ n ≤ hi))) M := by
  refine calls_run K.spec_l1In rfl ?_
  simp (disch := omega) only [C.spec_l1In, ↓SXd, SXu, slBounds, ↓sop, ↓aop, ↓reduceIte, LV.cells, AOp.dst, LV.I, LV.B, LV.U, LV.S, LV.nil, Nat.reduceEqDiff, Nat.reduceAdd, Nat.reduceMul, Nat.reduceSub, Nat.reduceLeDiff, Nat.reduceBEq, Nat.reduceDiv, Nat.reduceMod, Int.reduceToNat, Int.reduceLT, Int.reduceLE, Int.reduceAdd, Int.reduceSub, Int.reduceMul, Int.reduceEq, Int.reduceNeg, reduceCtorEq, resV, resAll, ARes.ev, LV.flat, ite_true, ite_false, exists_eq_left', exists_eq_left, keyOf, implies_true, fillC, capOf]
  by_cases h1 : lo ≤ n
  · simp (disch := omega) only [h1, ↓SXd, SXu, slBounds, ↓sop, ↓aop, ↓reduceIte, LV.cells, AOp.dst, LV.I, LV.B, LV.U, LV.S, LV.nil, Nat.reduceEqDiff, Nat.reduceAdd, Nat.reduceMul, Nat.reduceSub, Nat.reduceLeDiff, Nat.reduceBEq, Nat.reduceDiv, Nat.reduceMod, Int.reduceToNat, Int.reduceLT, Int.reduceLE, Int.reduceAdd, Int.reduceSub, Int.reduceMul, Int.reduceEq, Int.reduceNeg, reduceCtorEq, resV, resAll, ARes.ev, LV.flat, ite_true, ite_false, exists_eq_left', exists_eq_left, keyOf, implies_true, fillC, capOf]
    exact cmp_drop0 rfl
  · simp (disch := omega) only [h1, ↓SXd, SXu, slBounds, ↓sop, ↓aop, ↓reduceIte, LV.cells, AOp.dst, LV.I, LV.B, LV.U, LV.S, LV.nil, Nat.reduceEqDiff, Nat.reduceAdd, Nat.reduceMul, Nat.reduceSub, Nat.reduceLeDiff, Nat.reduceBEq, Nat.reduceDiv, Nat.reduceMod, Int.reduceToNat, Int.reduceLT, Int.reduceLE, Int.reduceAdd, Int.reduceSub, Int.reduceMul, Int.reduceEq, Int.reduceNeg, reduceCtorEq, resV, resAll, ARes.ev, LV.flat, ite_true, ite_false, exists_eq_left', exists_eq_left, keyOf, implies_true, fillC, capOf]
    exact cmp_drop0 rfl

theorem h_l2Sides {x y z : Int} {M : Mem} : CallsTo PG F.spec_l2Sides [.I x, .I y, .I z] M (.B (decide (Sides x y z))) M := by
  refine calls_run K.spec_l2Sides rfl ?_
  simp (disch := omega) only [C.spec_l2Sides, ↓SXd, SXu, slBounds, ↓sop, ↓aop, ↓reduceIte, LV.cells, AOp.dst, LV.I, LV.B, LV.U, LV.S, LV.nil, Nat.reduceEqDiff, Nat.reduceAdd, Nat.reduceMul, Nat.reduceSub, Nat.reduceLeDiff, Nat.reduceBEq, Nat.reduceDiv, Nat.reduceMod, Int.reduceToNat, Int.reduceLT, Int.reduceLE, Int.reduceAdd, Int.reduceSub, Int.reduceMul, Int.reduceEq, Int.reduceNeg, reduceCtorEq, resV, resAll, ARes.ev, LV.flat, ite_true, ite_false, exists_eq_left', exists_eq_left, keyOf, implies_true, fillC, capOf]
  refine callK_of h_l1In ?_
  simp (disch := omega) only [↓SXd, SXu, slBounds, ↓sop, ↓aop, ↓reduceIte, LV.cells, AOp.dst, LV.I, LV.B, LV.U, LV.S, LV.nil, Nat.reduceEqDiff, Nat.reduceAdd, Nat.reduceMul, Nat.reduceSub, Nat.reduceLeDiff, Nat.reduceBEq, Nat.reduceDiv, Nat.reduceMod, Int.reduceToNat, Int.reduceLT, Int.reduceLE, Int.reduceAdd, Int.reduceSub, Int.reduceMul, Int.reduceEq, Int.reduceNeg, reduceCtorEq, resV, resAll, ARes.ev, LV.flat, ite_true, ite_false, exists_eq_left', exists_eq_left, keyOf, implies_true, fillC, capOf]
  unfold Sides
  by_cases h1 : 1 ≤ x ∧ x ≤ 4
  · simp (disch := omega) only [h1, ↓SXd, SXu, slBounds, ↓sop, ↓aop, ↓reduceIte, LV.cells, AOp.dst, LV.I, LV.B, LV.U, LV.S, LV.nil, Nat.reduceEqDiff, Nat.reduceAdd, Nat.reduceMul, Nat.reduceSub, Nat.reduceLeDiff, Nat.reduceBEq, Nat.reduceDiv, Nat.reduceMod, Int.reduceToNat, Int.reduceLT, Int.reduceLE, Int.reduceAdd, Int.reduceSub, Int.reduceMul, Int.reduceEq, Int.reduceNeg, reduceCtorEq, resV, resAll, ARes.ev, LV.flat, ite_true, ite_false, exists_eq_left', exists_eq_left, keyOf, implies_true, fillC, capOf]
    refine callK_of h_l1In ?_
    simp (disch := omega) only [↓SXd, SXu, slBounds, ↓sop, ↓aop, ↓reduceIte, LV.cells, AOp.dst, LV.I, LV.B, LV.U, LV.S, LV.nil, Nat.reduceEqDiff, Nat.reduceAdd, Nat.reduceMul, Nat.reduceSub, Nat.reduceLeDiff, Nat.reduceBEq, Nat.reduceDiv, Nat.reduceMod, Int.reduceToNat, Int.reduceLT, Int.reduceLE, Int.reduceAdd, Int.reduceSub, Int.reduceMul, Int.reduceEq, Int.reduceNeg, reduceCtorEq, resV, resAll, ARes.ev, LV.flat, ite_true, ite_false, exists_eq_left', exists_eq_left, keyOf, implies_true, fillC, capOf]
    by_cases h2 : 1 ≤ y ∧ y ≤ 4
    · simp (disch := omega) only [h2, ↓SXd, SXu, slBounds, ↓sop, ↓aop, ↓reduceIte, LV.cells, AOp.dst, LV.I, LV.B, LV.U, LV.S, LV.nil, Nat.reduceEqDiff, Nat.reduceAdd, Nat.reduceMul, Nat.reduceSub, Nat.reduceLeDiff, Nat.reduceBEq, Nat.reduceDiv, Nat.reduceMod, Int.reduceToNat, Int.reduceLT, Int.reduceLE, Int.reduceAdd, Int.reduceSub, Int.reduceMul, Int.reduceEq, Int.reduceNeg, reduceCtorEq, resV, resAll, ARes.ev, LV.flat, ite_true, ite_false, exists_eq_left', exists_eq_left, keyOf, implies_true, fillC, capOf]
      refine callK_of h_l1In ?_
      simp (disch := omega) only [↓SXd, SXu, slBounds, ↓sop, ↓aop, ↓reduceIte, LV.cells, AOp.dst, LV.I, LV.B, LV.U, LV.S, LV.nil, Nat.reduceEqDiff, Nat.reduceAdd, Nat.reduceMul, Nat.reduceSub, Nat.reduceLeDiff, Nat.reduceBEq, Nat.reduceDiv, Nat.reduceMod, Int.reduceToNat, Int.reduceLT, Int.reduceLE, Int.reduceAdd, Int.reduceSub, Int.reduceMul, Int.reduceEq, Int.reduceNeg, reduceCtorEq, resV, resAll, ARes.ev, LV.flat, ite_true, ite_false, exists_eq_left', exists_eq_left, keyOf, implies_true, fillC, capOf]
      exact cmp_drop0 rfl
    · simp (disch := omega) only [h2, false_and, ↓SXd, SXu, slBounds, ↓sop, ↓aop, ↓reduceIte, LV.cells, AOp.dst, LV.I, LV.B, LV.U, LV.S, LV.nil, Nat.reduceEqDiff, Nat.reduceAdd, Nat.reduceMul, Nat.reduceSub, Nat.reduceLeDiff, Nat.reduceBEq, Nat.reduceDiv, Nat.reduceMod, Int.reduceToNat, Int.reduceLT, Int.reduceLE, Int.reduceAdd, Int.reduceSub, Int.reduceMul, Int.reduceEq, Int.reduceNeg, reduceCtorEq, resV, resAll, ARes.ev, LV.flat, ite_true, ite_false, exists_eq_left', exists_eq_left, keyOf, implies_true, fillC, capOf]
      exact cmp_drop0 rfl
  · simp (disch := omega) only [h1, false_and, ↓SXd, SXu, slBounds, ↓sop, ↓aop, ↓reduceIte, LV.cells, AOp.dst, LV.I, LV.B, LV.U, LV.S, LV.nil, Nat.reduceEqDiff, Nat.reduceAdd, Nat.reduceMul, Nat.reduceSub, Nat.reduceLeDiff, Nat.reduceBEq, Nat.reduceDiv, Nat.reduceMod, Int.reduceToNat, Int.reduceLT, Int.reduceLE, Int.reduceAdd, Int.reduceSub, Int.reduceMul, Int.reduceEq, Int.reduceNeg, reduceCtorEq, resV, resAll, ARes.ev, LV.flat, ite_true, ite_false, exists_eq_left', exists_eq_left, keyOf, implies_true, fillC, capOf]
    exact cmp_drop0 rfl

theorem h_l2Before {a b c a' b' c' : Int} {M : Mem} : CallsTo PG F.spec_l2Before [.agg [.I a, .I b, .I c], .agg [.I a', .I b', .I c']] M (.B (decide (Cell.lt ⟨a, b, c⟩ ⟨a', b', c'⟩))) M := by
  refine calls_run K.spec_l2Before rfl ?_
  simp (disch := omega) only [C.spec_l2Before, ↓SXd, SXu, slBounds, ↓sop, ↓aop, ↓reduceIte, LV.cells, AOp.dst, LV.I, LV.B, LV.U, LV.S, LV.nil, Nat.reduceEqDiff, Nat.reduceAdd, Nat.reduceMul, Nat.reduceSub, Nat.reduceLeDiff, Nat.reduceBEq, Nat.reduceDiv, Nat.reduceMod, Int.reduceToNat, Int.reduceLT, Int.reduceLE, Int.reduceAdd, Int.reduceSub, Int.reduceMul, Int.reduceEq, Int.reduceNeg, reduceCtorEq, resV, resAll, ARes.ev, LV.flat, ite_true, ite_false, exists_eq_left', exists_eq_left, keyOf, implies_true, fillC, capOf]
  refine ev_loop (fun m fr M' => ∃ k : Nat, k + m = 3 ∧ M' = M ++ [some (Blk.row [.I a, .I b, .I c] true 0), some (Blk.row [.I a', .I b', .I c'] true 0)] ∧ fr 2 = .ptr M.length 0 ∧ fr 3 = .ptr (M.length + 1) 0 ∧ fr 5 = .I k ∧
    (0 < k → a = a') ∧ (1 < k → b = b') ∧ (2 < k → c = c')) 3 ⟨0, rfl, rfl, rfl, rfl, rfl, by omega, by omega, by omega⟩ ?_
  rintro m fr M' ⟨k, hk, rfl, h2, h3, h5, ha, hb, hc⟩
  simp (disch := omega) only [h2, h3, h5, ↓SXd, SXu, slBounds, ↓sop, ↓aop, ↓reduceIte, LV.cells, AOp.dst, LV.I, LV.B, LV.U, LV.S, LV.nil, Nat.reduceEqDiff, Nat.reduceAdd, Nat.reduceMul, Nat.reduceSub, Nat.reduceLeDiff, Nat.reduceBEq, Nat.reduceDiv, Nat.reduceMod, Int.reduceToNat, Int.reduceLT, Int.reduceLE, Int.reduceAdd, Int.reduceSub, Int.reduceMul, Int.reduceEq, Int.reduceNeg, reduceCtorEq, resV, resAll, ARes.ev, LV.flat, ite_true, ite_false, exists_eq_left', exists_eq_left, keyOf, implies_true, fillC, capOf]
  refine condC_dec (fun hlt => ?_) (fun hlt => ?_)
  · have hk3 : k = 0 ∨ k = 1 ∨ k = 2 := by omega
    rcases hk3 with rfl | rfl | rfl
    all_goals
      simp (disch := omega) only [h2, h3, h5, ↓SXd, SXu, slBounds, ↓sop, ↓aop, ↓reduceIte, LV.cells, AOp.dst, LV.I, LV.B, LV.U, LV.S, LV.nil, Nat.reduceEqDiff, Nat.reduceAdd, Nat.reduceMul, Nat.reduceSub, Nat.reduceLeDiff, Nat.reduceBEq, Nat.reduceDiv, Nat.reduceMod, Int.reduceToNat, Int.reduceLT, Int.reduceLE, Int.reduceAdd, Int.reduceSub, Int.reduceMul, Int.reduceEq, Int.reduceNeg, reduceCtorEq, resV, resAll, ARes.ev, LV.flat, ite_true, ite_false, exists_eq_left', exists_eq_left, keyOf, implies_true, fillC, capOf]
      refine condC_dec (fun he => ?_) (fun he => ?_)
      · simp (disch := omega) only [h2, h3, h5, ↓SXd, SXu, slBounds, ↓sop, ↓aop, ↓reduceIte, LV.cells, AOp.dst, LV.I, LV.B, LV.U, LV.S, LV.nil, Nat.reduceEqDiff, Nat.reduceAdd, Nat.reduceMul, Nat.reduceSub, Nat.reduceLeDiff, Nat.reduceBEq, Nat.reduceDiv, Nat.reduceMod, Int.reduceToNat, Int.reduceLT, Int.reduceLE, Int.reduceAdd, Int.reduceSub, Int.reduceMul, Int.reduceEq, Int.reduceNeg, reduceCtorEq, resV, resAll, ARes.ev, LV.flat, ite_true, ite_false, exists_eq_left', exists_eq_left, keyOf, implies_true, fillC, capOf]
        exact ⟨m - 1, by omega, _, by omega, rfl, h2, h3, eqI (natI _), by omega, by omega, by omega⟩
      · simp (disch := omega) only [h2, h3, h5, ↓SXd, SXu, slBounds, ↓sop, ↓aop, ↓reduceIte, LV.cells, AOp.dst, LV.I, LV.B, LV.U, LV.S, LV.nil, Nat.reduceEqDiff, Nat.reduceAdd, Nat.reduceMul, Nat.reduceSub, Nat.reduceLeDiff, Nat.reduceBEq, Nat.reduceDiv, Nat.reduceMod, Int.reduceToNat, Int.reduceLT, Int.reduceLE, Int.reduceAdd, Int.reduceSub, Int.reduceMul, Int.reduceEq, Int.reduceNeg, reduceCtorEq, resV, resAll, ARes.ev, LV.flat, ite_true, ite_false, exists_eq_left', exists_eq_left, keyOf, implies_true, fillC, capOf]
        exact cmp_dropB (by simp only [Cell.lt]; omega)
  · simp (disch := omega) only [h2, h3, h5, ↓SXd, SXu, slBounds, ↓sop, ↓aop, ↓reduceIte, LV.cells, AOp.dst, LV.I, LV.B, LV.U, LV.S, LV.nil, Nat.reduceEqDiff, Nat.reduceAdd, Nat.reduceMul, Nat.reduceSub, Nat.reduceLeDiff, Nat.reduceBEq, Nat.reduceDiv, Nat.reduceMod, Int.reduceToNat, Int.reduceLT, Int.reduceLE, Int.reduceAdd, Int.reduceSub, Int.reduceMul, Int.reduceEq, Int.reduceNeg, reduceCtorEq, resV, resAll, ARes.ev, LV.flat, ite_true, ite_false, exists_eq_left', exists_eq_left, keyOf, implies_true, fillC, capOf]
    exact cmp_dropF (by simp only [Cell.lt]; omega)

theorem h_l2In {x y z a b c : Int} {v : LV} {M : Mem} (hS : Sides x y z) : CallsTo PG F.spec_l2In [.agg [.I x, .I y, .I z, v], .agg [.I a, .I b, .I c]] M (.B (decide (Cell.inBox x y z ⟨a, b, c⟩))) M := by
  obtain ⟨hx, hy, hz⟩ := hS
  refine calls_run K.spec_l2In rfl ?_
  simp (disch := omega) only [C.spec_l2In, ↓SXd, SXu, slBounds, ↓sop, ↓aop, ↓reduceIte, LV.cells, AOp.dst, LV.I, LV.B, LV.U, LV.S, LV.nil, Nat.reduceEqDiff, Nat.reduceAdd, Nat.reduceMul, Nat.reduceSub, Nat.reduceLeDiff, Nat.reduceBEq, Nat.reduceDiv, Nat.reduceMod, Int.reduceToNat, Int.reduceLT, Int.reduceLE, Int.reduceAdd, Int.reduceSub, Int.reduceMul, Int.reduceEq, Int.reduceNeg, reduceCtorEq, resV, resAll, ARes.ev, LV.flat, ite_true, ite_false, exists_eq_left', exists_eq_left, keyOf, implies_true, fillC, capOf]
  refine callK_of h_l1In ?_
  simp (disch := omega) only [↓SXd, SXu, slBounds, ↓sop, ↓aop, ↓reduceIte, LV.cells, AOp.dst, LV.I, LV.B, LV.U, LV.S, LV.nil, Nat.reduceEqDiff, Nat.reduceAdd, Nat.reduceMul, Nat.reduceSub, Nat.reduceLeDiff, Nat.reduceBEq, Nat.reduceDiv, Nat.reduceMod, Int.reduceToNat, Int.reduceLT, Int.reduceLE, Int.reduceAdd, Int.reduceSub, Int.reduceMul, Int.reduceEq, Int.reduceNeg, reduceCtorEq, resV, resAll, ARes.ev, LV.flat, ite_true, ite_false, exists_eq_left', exists_eq_left, keyOf, implies_true, fillC, capOf]
  unfold Cell.inBox
  by_cases h1 : 0 ≤ a ∧ a ≤ x - 1
  · simp (disch := omega) only [h1, ↓SXd, SXu, slBounds, ↓sop, ↓aop, ↓reduceIte, LV.cells, AOp.dst, LV.I, LV.B, LV.U, LV.S, LV.nil, Nat.reduceEqDiff, Nat.reduceAdd, Nat.reduceMul, Nat.reduceSub, Nat.reduceLeDiff, Nat.reduceBEq, Nat.reduceDiv, Nat.reduceMod, Int.reduceToNat, Int.reduceLT, Int.reduceLE, Int.reduceAdd, Int.reduceSub, Int.reduceMul, Int.reduceEq, Int.reduceNeg, reduceCtorEq, resV, resAll, ARes.ev, LV.flat, ite_true, ite_false, exists_eq_left', exists_eq_left, keyOf, implies_true, fillC, capOf]
    refine callK_of h_l1In ?_
    simp (disch := omega) only [↓SXd, SXu, slBounds, ↓sop, ↓aop, ↓reduceIte, LV.cells, AOp.dst, LV.I, LV.B, LV.U, LV.S, LV.nil, Nat.reduceEqDiff, Nat.reduceAdd, Nat.reduceMul, Nat.reduceSub, Nat.reduceLeDiff, Nat.reduceBEq, Nat.reduceDiv, Nat.reduceMod, Int.reduceToNat, Int.reduceLT, Int.reduceLE, Int.reduceAdd, Int.reduceSub, Int.reduceMul, Int.reduceEq, Int.reduceNeg, reduceCtorEq, resV, resAll, ARes.ev, LV.flat, ite_true, ite_false, exists_eq_left', exists_eq_left, keyOf, implies_true, fillC, capOf]
    by_cases h2 : 0 ≤ b ∧ b ≤ y - 1
    · simp (disch := omega) only [h2, ↓SXd, SXu, slBounds, ↓sop, ↓aop, ↓reduceIte, LV.cells, AOp.dst, LV.I, LV.B, LV.U, LV.S, LV.nil, Nat.reduceEqDiff, Nat.reduceAdd, Nat.reduceMul, Nat.reduceSub, Nat.reduceLeDiff, Nat.reduceBEq, Nat.reduceDiv, Nat.reduceMod, Int.reduceToNat, Int.reduceLT, Int.reduceLE, Int.reduceAdd, Int.reduceSub, Int.reduceMul, Int.reduceEq, Int.reduceNeg, reduceCtorEq, resV, resAll, ARes.ev, LV.flat, ite_true, ite_false, exists_eq_left', exists_eq_left, keyOf, implies_true, fillC, capOf]
      refine callK_of h_l1In ?_
      simp (disch := omega) only [↓SXd, SXu, slBounds, ↓sop, ↓aop, ↓reduceIte, LV.cells, AOp.dst, LV.I, LV.B, LV.U, LV.S, LV.nil, Nat.reduceEqDiff, Nat.reduceAdd, Nat.reduceMul, Nat.reduceSub, Nat.reduceLeDiff, Nat.reduceBEq, Nat.reduceDiv, Nat.reduceMod, Int.reduceToNat, Int.reduceLT, Int.reduceLE, Int.reduceAdd, Int.reduceSub, Int.reduceMul, Int.reduceEq, Int.reduceNeg, reduceCtorEq, resV, resAll, ARes.ev, LV.flat, ite_true, ite_false, exists_eq_left', exists_eq_left, keyOf, implies_true, fillC, capOf]
      exact cmp_drop rfl
    · simp (disch := omega) only [h2, false_and, ↓SXd, SXu, slBounds, ↓sop, ↓aop, ↓reduceIte, LV.cells, AOp.dst, LV.I, LV.B, LV.U, LV.S, LV.nil, Nat.reduceEqDiff, Nat.reduceAdd, Nat.reduceMul, Nat.reduceSub, Nat.reduceLeDiff, Nat.reduceBEq, Nat.reduceDiv, Nat.reduceMod, Int.reduceToNat, Int.reduceLT, Int.reduceLE, Int.reduceAdd, Int.reduceSub, Int.reduceMul, Int.reduceEq, Int.reduceNeg, reduceCtorEq, resV, resAll, ARes.ev, LV.flat, ite_true, ite_false, exists_eq_left', exists_eq_left, keyOf, implies_true, fillC, capOf]
      exact cmp_drop rfl
  · simp (disch := omega) only [h1, false_and, ↓SXd, SXu, slBounds, ↓sop, ↓aop, ↓reduceIte, LV.cells, AOp.dst, LV.I, LV.B, LV.U, LV.S, LV.nil, Nat.reduceEqDiff, Nat.reduceAdd, Nat.reduceMul, Nat.reduceSub, Nat.reduceLeDiff, Nat.reduceBEq, Nat.reduceDiv, Nat.reduceMod, Int.reduceToNat, Int.reduceLT, Int.reduceLE, Int.reduceAdd, Int.reduceSub, Int.reduceMul, Int.reduceEq, Int.reduceNeg, reduceCtorEq, resV, resAll, ARes.ev, LV.flat, ite_true, ite_false, exists_eq_left', exists_eq_left, keyOf, implies_true, fillC, capOf]
    exact cmp_drop rfl
end Go.Ab

/- Contracts: the reference's valid heaps, heights, columns. -/
namespace Go.Ab
open Go
set_option linter.unusedSimpArgs false
set_option linter.unusedVariables false

theorem h_l2Heap {x y z : Int} {t o : Nat} {cs : List Cell} {M : Mem} (h : Tri M t o cs) (hn : cs.length ≤ 1000000000) :
    CallsTo PG F.spec_l2Heap [.agg [.I x, .I y, .I z, .ref t o cs.length]] M (.B (decide (HeapOK x y z cs))) M := by
  refine calls_run K.spec_l2Heap rfl ?_
  simp (disch := omega) only [C.spec_l2Heap, ↓SXd, SXu, slBounds, ↓sop, ↓aop, ↓reduceIte, LV.cells, AOp.dst, LV.I, LV.B, LV.U, LV.S, LV.nil, Nat.reduceEqDiff, Nat.reduceAdd, Nat.reduceMul, Nat.reduceSub, Nat.reduceLeDiff, Nat.reduceBEq, Nat.reduceDiv, Nat.reduceMod, Int.reduceToNat, Int.reduceLT, Int.reduceLE, Int.reduceAdd, Int.reduceSub, Int.reduceMul, Int.reduceEq, Int.reduceNeg, reduceCtorEq, resV, resAll, ARes.ev, LV.flat, ite_true, ite_false, exists_eq_left', exists_eq_left, keyOf, implies_true, fillC, capOf]
  refine callK_of h_l2Sides ?_
  simp (disch := omega) only [↓SXd, SXu, slBounds, ↓sop, ↓aop, ↓reduceIte, LV.cells, AOp.dst, LV.I, LV.B, LV.U, LV.S, LV.nil, Nat.reduceEqDiff, Nat.reduceAdd, Nat.reduceMul, Nat.reduceSub, Nat.reduceLeDiff, Nat.reduceBEq, Nat.reduceDiv, Nat.reduceMod, Int.reduceToNat, Int.reduceLT, Int.reduceLE, Int.reduceAdd, Int.reduceSub, Int.reduceMul, Int.reduceEq, Int.reduceNeg, reduceCtorEq, resV, resAll, ARes.ev, LV.flat, ite_true, ite_false, exists_eq_left', exists_eq_left, keyOf, implies_true, fillC, capOf]
  by_cases hS : Sides x y z
  · simp (disch := omega) only [hS, ↓SXd, SXu, slBounds, ↓sop, ↓aop, ↓reduceIte, LV.cells, AOp.dst, LV.I, LV.B, LV.U, LV.S, LV.nil, Nat.reduceEqDiff, Nat.reduceAdd, Nat.reduceMul, Nat.reduceSub, Nat.reduceLeDiff, Nat.reduceBEq, Nat.reduceDiv, Nat.reduceMod, Int.reduceToNat, Int.reduceLT, Int.reduceLE, Int.reduceAdd, Int.reduceSub, Int.reduceMul, Int.reduceEq, Int.reduceNeg, reduceCtorEq, resV, resAll, ARes.ev, LV.flat, ite_true, ite_false, exists_eq_left', exists_eq_left, keyOf, implies_true, fillC, capOf]
    refine ev_loop (fun m fr M' => ∃ k : Nat, k + m = cs.length ∧ M' = M ++ [some (Blk.row [.I x, .I y, .I z, .ref t o cs.length] true 0)] ∧ fr 1 = .ptr M.length 0 ∧ fr 3 = .I k ∧
      ∀ j, j < k → (cs.getD j default).inBox x y z ∧ (0 < j → (cs.getD (j - 1) default).lt (cs.getD j default))) cs.length ⟨0, by omega, rfl, rfl, rfl, by omega⟩ ?_
    rintro m fr M' ⟨k, hk, rfl, h1, h3, hj⟩
    have ht := h.lt
    simp (disch := omega) only [h1, h3, ↓SXd, SXu, slBounds, ↓sop, ↓aop, ↓reduceIte, LV.cells, AOp.dst, LV.I, LV.B, LV.U, LV.S, LV.nil, Nat.reduceEqDiff, Nat.reduceAdd, Nat.reduceMul, Nat.reduceSub, Nat.reduceLeDiff, Nat.reduceBEq, Nat.reduceDiv, Nat.reduceMod, Int.reduceToNat, Int.reduceLT, Int.reduceLE, Int.reduceAdd, Int.reduceSub, Int.reduceMul, Int.reduceEq, Int.reduceNeg, reduceCtorEq, resV, resAll, ARes.ev, LV.flat, ite_true, ite_false, exists_eq_left', exists_eq_left, keyOf, implies_true, fillC, capOf]
    refine condC_dec (fun hlt => ?_) (fun hlt => ?_)
    · simp (disch := omega) only [h1, h3, getCells_app, h.get, Cell.row, ↓SXd, SXu, slBounds, ↓sop, ↓aop, ↓reduceIte, LV.cells, AOp.dst, LV.I, LV.B, LV.U, LV.S, LV.nil, Nat.reduceEqDiff, Nat.reduceAdd, Nat.reduceMul, Nat.reduceSub, Nat.reduceLeDiff, Nat.reduceBEq, Nat.reduceDiv, Nat.reduceMod, Int.reduceToNat, Int.reduceLT, Int.reduceLE, Int.reduceAdd, Int.reduceSub, Int.reduceMul, Int.reduceEq, Int.reduceNeg, reduceCtorEq, resV, resAll, ARes.ev, LV.flat, ite_true, ite_false, exists_eq_left', exists_eq_left, keyOf, implies_true, fillC, capOf]
      refine callK_of (h_l2In hS) ?_
      simp (disch := omega) only [h1, h3, getCells_app, h.get, Cell.row, cell_eta, ↓SXd, SXu, slBounds, ↓sop, ↓aop, ↓reduceIte, LV.cells, AOp.dst, LV.I, LV.B, LV.U, LV.S, LV.nil, Nat.reduceEqDiff, Nat.reduceAdd, Nat.reduceMul, Nat.reduceSub, Nat.reduceLeDiff, Nat.reduceBEq, Nat.reduceDiv, Nat.reduceMod, Int.reduceToNat, Int.reduceLT, Int.reduceLE, Int.reduceAdd, Int.reduceSub, Int.reduceMul, Int.reduceEq, Int.reduceNeg, reduceCtorEq, resV, resAll, ARes.ev, LV.flat, ite_true, ite_false, exists_eq_left', exists_eq_left, keyOf, implies_true, fillC, capOf]
      by_cases hin : (cs.getD k default).inBox x y z
      · simp (disch := omega) only [hin, h1, h3, getCells_app, h.get, Cell.row, cell_eta, ↓SXd, SXu, slBounds, ↓sop, ↓aop, ↓reduceIte, LV.cells, AOp.dst, LV.I, LV.B, LV.U, LV.S, LV.nil, Nat.reduceEqDiff, Nat.reduceAdd, Nat.reduceMul, Nat.reduceSub, Nat.reduceLeDiff, Nat.reduceBEq, Nat.reduceDiv, Nat.reduceMod, Int.reduceToNat, Int.reduceLT, Int.reduceLE, Int.reduceAdd, Int.reduceSub, Int.reduceMul, Int.reduceEq, Int.reduceNeg, reduceCtorEq, resV, resAll, ARes.ev, LV.flat, ite_true, ite_false, exists_eq_left', exists_eq_left, keyOf, implies_true, fillC, capOf]
        by_cases hk0 : k = 0
        · subst hk0
          simp (disch := omega) only [h1, h3, getCells_app, h.get, Cell.row, cell_eta, Int.natCast_zero, gt_iff_lt, Int.lt_irrefl, ↓SXd, SXu, slBounds, ↓sop, ↓aop, ↓reduceIte, LV.cells, AOp.dst, LV.I, LV.B, LV.U, LV.S, LV.nil, Nat.reduceEqDiff, Nat.reduceAdd, Nat.reduceMul, Nat.reduceSub, Nat.reduceLeDiff, Nat.reduceBEq, Nat.reduceDiv, Nat.reduceMod, Int.reduceToNat, Int.reduceLT, Int.reduceLE, Int.reduceAdd, Int.reduceSub, Int.reduceMul, Int.reduceEq, Int.reduceNeg, reduceCtorEq, resV, resAll, ARes.ev, LV.flat, ite_true, ite_false, exists_eq_left', exists_eq_left, keyOf, implies_true, fillC, capOf]
          exact ⟨m - 1, by omega, 1, by omega, rfl, h1, rfl, fun j hj1 => by
            have : j = 0 := by omega
            subst this
            exact ⟨hin, by omega⟩⟩
        · have e1 : ((k : Int) - 1).toNat = k - 1 := by omega
          have e2 : (0 : Int) < k := by omega
          simp (disch := omega) only [h1, h3, getCells_app, h.get, Cell.row, cell_eta, e1, e2, ↓SXd, SXu, slBounds, ↓sop, ↓aop, ↓reduceIte, LV.cells, AOp.dst, LV.I, LV.B, LV.U, LV.S, LV.nil, Nat.reduceEqDiff, Nat.reduceAdd, Nat.reduceMul, Nat.reduceSub, Nat.reduceLeDiff, Nat.reduceBEq, Nat.reduceDiv, Nat.reduceMod, Int.reduceToNat, Int.reduceLT, Int.reduceLE, Int.reduceAdd, Int.reduceSub, Int.reduceMul, Int.reduceEq, Int.reduceNeg, reduceCtorEq, resV, resAll, ARes.ev, LV.flat, ite_true, ite_false, exists_eq_left', exists_eq_left, keyOf, implies_true, fillC, capOf]
          refine callK_of h_l2Before ?_
          simp (disch := omega) only [h1, h3, cell_eta, ↓SXd, SXu, slBounds, ↓sop, ↓aop, ↓reduceIte, LV.cells, AOp.dst, LV.I, LV.B, LV.U, LV.S, LV.nil, Nat.reduceEqDiff, Nat.reduceAdd, Nat.reduceMul, Nat.reduceSub, Nat.reduceLeDiff, Nat.reduceBEq, Nat.reduceDiv, Nat.reduceMod, Int.reduceToNat, Int.reduceLT, Int.reduceLE, Int.reduceAdd, Int.reduceSub, Int.reduceMul, Int.reduceEq, Int.reduceNeg, reduceCtorEq, resV, resAll, ARes.ev, LV.flat, ite_true, ite_false, exists_eq_left', exists_eq_left, keyOf, implies_true, fillC, capOf]
          by_cases hb : (cs.getD (k - 1) default).lt (cs.getD k default)
          · simp (disch := omega) only [hb, h1, h3, ↓SXd, SXu, slBounds, ↓sop, ↓aop, ↓reduceIte, LV.cells, AOp.dst, LV.I, LV.B, LV.U, LV.S, LV.nil, Nat.reduceEqDiff, Nat.reduceAdd, Nat.reduceMul, Nat.reduceSub, Nat.reduceLeDiff, Nat.reduceBEq, Nat.reduceDiv, Nat.reduceMod, Int.reduceToNat, Int.reduceLT, Int.reduceLE, Int.reduceAdd, Int.reduceSub, Int.reduceMul, Int.reduceEq, Int.reduceNeg, reduceCtorEq, resV, resAll, ARes.ev, LV.flat, ite_true, ite_false, exists_eq_left', exists_eq_left, keyOf, implies_true, fillC, capOf]
            exact ⟨m - 1, by omega, k + 1, by omega, rfl, h1, eqI (natI _), fun j hj1 => by
              by_cases hjk : j = k
              · subst hjk; exact ⟨hin, fun _ => hb⟩
              · exact hj j (by omega)⟩
          · simp (disch := omega) only [hb, h1, h3, ↓SXd, SXu, slBounds, ↓sop, ↓aop, ↓reduceIte, LV.cells, AOp.dst, LV.I, LV.B, LV.U, LV.S, LV.nil, Nat.reduceEqDiff, Nat.reduceAdd, Nat.reduceMul, Nat.reduceSub, Nat.reduceLeDiff, Nat.reduceBEq, Nat.reduceDiv, Nat.reduceMod, Int.reduceToNat, Int.reduceLT, Int.reduceLE, Int.reduceAdd, Int.reduceSub, Int.reduceMul, Int.reduceEq, Int.reduceNeg, reduceCtorEq, resV, resAll, ARes.ev, LV.flat, ite_true, ite_false, exists_eq_left', exists_eq_left, keyOf, implies_true, fillC, capOf]
            exact cmp_dropF fun hh => hb ((hh.2 k (by omega)).2 (by omega))
      · simp (disch := omega) only [hin, h1, h3, ↓SXd, SXu, slBounds, ↓sop, ↓aop, ↓reduceIte, LV.cells, AOp.dst, LV.I, LV.B, LV.U, LV.S, LV.nil, Nat.reduceEqDiff, Nat.reduceAdd, Nat.reduceMul, Nat.reduceSub, Nat.reduceLeDiff, Nat.reduceBEq, Nat.reduceDiv, Nat.reduceMod, Int.reduceToNat, Int.reduceLT, Int.reduceLE, Int.reduceAdd, Int.reduceSub, Int.reduceMul, Int.reduceEq, Int.reduceNeg, reduceCtorEq, resV, resAll, ARes.ev, LV.flat, ite_true, ite_false, exists_eq_left', exists_eq_left, keyOf, implies_true, fillC, capOf]
        exact cmp_dropF fun hh => hin (hh.2 k (by omega)).1
    · simp (disch := omega) only [h1, h3, ↓SXd, SXu, slBounds, ↓sop, ↓aop, ↓reduceIte, LV.cells, AOp.dst, LV.I, LV.B, LV.U, LV.S, LV.nil, Nat.reduceEqDiff, Nat.reduceAdd, Nat.reduceMul, Nat.reduceSub, Nat.reduceLeDiff, Nat.reduceBEq, Nat.reduceDiv, Nat.reduceMod, Int.reduceToNat, Int.reduceLT, Int.reduceLE, Int.reduceAdd, Int.reduceSub, Int.reduceMul, Int.reduceEq, Int.reduceNeg, reduceCtorEq, resV, resAll, ARes.ev, LV.flat, ite_true, ite_false, exists_eq_left', exists_eq_left, keyOf, implies_true, fillC, capOf]
      exact cmp_dropT ⟨hS, fun j hj1 => hj j (by omega)⟩
  · simp (disch := omega) only [hS, ↓SXd, SXu, slBounds, ↓sop, ↓aop, ↓reduceIte, LV.cells, AOp.dst, LV.I, LV.B, LV.U, LV.S, LV.nil, Nat.reduceEqDiff, Nat.reduceAdd, Nat.reduceMul, Nat.reduceSub, Nat.reduceLeDiff, Nat.reduceBEq, Nat.reduceDiv, Nat.reduceMod, Int.reduceToNat, Int.reduceLT, Int.reduceLE, Int.reduceAdd, Int.reduceSub, Int.reduceMul, Int.reduceEq, Int.reduceNeg, reduceCtorEq, resV, resAll, ARes.ev, LV.flat, ite_true, ite_false, exists_eq_left', exists_eq_left, keyOf, implies_true, fillC, capOf]
    exact cmp_dropF fun hh => hS hh.1

end Go.Ab

/- Contracts: distances of cells. -/
namespace Go.Ab
open Go
set_option linter.unusedSimpArgs false
set_option linter.unusedVariables false

end Go.Ab
