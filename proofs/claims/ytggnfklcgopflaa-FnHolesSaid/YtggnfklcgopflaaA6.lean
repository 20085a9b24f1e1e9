/- Parts of the proof of FnHolesSaid: Dd Oa Ob Nd Oc Od Uf C_Vb K_Vb Vb Ha Hg C_Jj K_Jj C_He K_He Sg C_Hd K_Hd C_Hc K_Hc. -/
import Derived.Test.YtggnfklcgopflaaA5
import Derived.Test.YtggnfklcgopflaaA4
import Derived.Test.YtggnfklcgopflaaA3
import Derived.Test.YtggnfklcgopflaaProg
import Derived.KernelRfl
import Derived.Test.YtggnfklcgopflaaA2
set_option linter.all false
namespace Go.Ab
open Go

theorem h_l2Apart {a b c a' b' c' : Int} {M : Mem} (h1 : 0 ≤ a ∧ a ≤ 100) (h2 : 0 ≤ b ∧ b ≤ 100) (h3 : 0 ≤ c ∧ c ≤ 100) (h1' : 0 ≤ a' ∧ a' ≤ 100) (h2' : 0 ≤ b' ∧ b' ≤ 100) (h3' : 0 ≤ c' ∧ c' ≤ 100) :
    CallsTo PG F.spec_l2Apart [.agg [.I a, .I b, .I c], .agg [.I a', .I b', .I c']] M (.I (apart ⟨a, b, c⟩ ⟨a', b', c'⟩)) M := by
  refine calls_run K.spec_l2Apart rfl ?_
  simp (disch := omega) only [C.spec_l2Apart, ↓SXd, SXu, slBounds, ↓sop, ↓aop, ↓reduceIte, LV.cells, AOp.dst, LV.I, LV.B, LV.U, LV.S, LV.nil, Nat.reduceEqDiff, Nat.reduceAdd, Nat.reduceMul, Nat.reduceSub, Nat.reduceLeDiff, Nat.reduceBEq, Nat.reduceDiv, Nat.reduceMod, Int.reduceToNat, Int.reduceLT, Int.reduceLE, Int.reduceAdd, Int.reduceSub, Int.reduceMul, Int.reduceEq, Int.reduceNeg, reduceCtorEq, resV, resAll, ARes.ev, LV.flat, ite_true, ite_false, exists_eq_left', exists_eq_left, keyOf, implies_true, fillC, capOf]
  refine ev_loop (fun m fr M' => ∃ (k : Nat) (s : Int), k + m = 3 ∧ M' = M ++ [some (Blk.row [.I a, .I b, .I c] true 0), some (Blk.row [.I a', .I b', .I c'] true 0)] ∧ fr 2 = .ptr M.length 0 ∧ fr 3 = .ptr (M.length + 1) 0 ∧ fr 6 = .I k ∧ fr 5 = .I s ∧
    (k = 0 → s = 0) ∧ (k = 1 → s = max (a - a') (a' - a)) ∧ (k = 2 → s = max (a - a') (a' - a) + max (b - b') (b' - b)) ∧ (k = 3 → s = apart ⟨a, b, c⟩ ⟨a', b', c'⟩)) 3
    ⟨0, 0, rfl, rfl, rfl, rfl, rfl, rfl, by omega, by omega, by omega, by omega⟩ ?_
  rintro m fr M' ⟨k, s, hk, rfl, g2, g3, g6, g5, s0, s1, s2, s3⟩
  simp (disch := omega) only [g2, g3, g5, g6, ↓SXd, SXu, slBounds, ↓sop, ↓aop, ↓reduceIte, LV.cells, AOp.dst, LV.I, LV.B, LV.U, LV.S, LV.nil, Nat.reduceEqDiff, Nat.reduceAdd, Nat.reduceMul, Nat.reduceSub, Nat.reduceLeDiff, Nat.reduceBEq, Nat.reduceDiv, Nat.reduceMod, Int.reduceToNat, Int.reduceLT, Int.reduceLE, Int.reduceAdd, Int.reduceSub, Int.reduceMul, Int.reduceEq, Int.reduceNeg, reduceCtorEq, resV, resAll, ARes.ev, LV.flat, ite_true, ite_false, exists_eq_left', exists_eq_left, keyOf, implies_true, fillC, capOf]
  refine condC_dec (fun hlt => ?_) (fun hlt => ?_)
  · have hk3 : k = 0 ∨ k = 1 ∨ k = 2 := by omega
    rcases hk3 with rfl | rfl | rfl
    · have := s0 rfl; subst this
      simp (disch := omega) only [g2, g3, g5, g6, ↓SXd, SXu, slBounds, ↓sop, ↓aop, ↓reduceIte, LV.cells, AOp.dst, LV.I, LV.B, LV.U, LV.S, LV.nil, Nat.reduceEqDiff, Nat.reduceAdd, Nat.reduceMul, Nat.reduceSub, Nat.reduceLeDiff, Nat.reduceBEq, Nat.reduceDiv, Nat.reduceMod, Int.reduceToNat, Int.reduceLT, Int.reduceLE, Int.reduceAdd, Int.reduceSub, Int.reduceMul, Int.reduceEq, Int.reduceNeg, reduceCtorEq, resV, resAll, ARes.ev, LV.flat, ite_true, ite_false, exists_eq_left', exists_eq_left, keyOf, implies_true, fillC, capOf]
      refine callK_of h_l1Most ?_
      simp (disch := omega) only [g2, g3, g5, g6, ↓SXd, SXu, slBounds, ↓sop, ↓aop, ↓reduceIte, LV.cells, AOp.dst, LV.I, LV.B, LV.U, LV.S, LV.nil, Nat.reduceEqDiff, Nat.reduceAdd, Nat.reduceMul, Nat.reduceSub, Nat.reduceLeDiff, Nat.reduceBEq, Nat.reduceDiv, Nat.reduceMod, Int.reduceToNat, Int.reduceLT, Int.reduceLE, Int.reduceAdd, Int.reduceSub, Int.reduceMul, Int.reduceEq, Int.reduceNeg, reduceCtorEq, resV, resAll, ARes.ev, LV.flat, ite_true, ite_false, exists_eq_left', exists_eq_left, keyOf, implies_true, fillC, capOf]
      exact ⟨m - 1, by omega, 1, _, by omega, rfl, g2, g3, rfl, rfl, by omega, by omega, by omega, by omega⟩
    · have := s1 rfl; subst this
      simp (disch := omega) only [g2, g3, g5, g6, ↓SXd, SXu, slBounds, ↓sop, ↓aop, ↓reduceIte, LV.cells, AOp.dst, LV.I, LV.B, LV.U, LV.S, LV.nil, Nat.reduceEqDiff, Nat.reduceAdd, Nat.reduceMul, Nat.reduceSub, Nat.reduceLeDiff, Nat.reduceBEq, Nat.reduceDiv, Nat.reduceMod, Int.reduceToNat, Int.reduceLT, Int.reduceLE, Int.reduceAdd, Int.reduceSub, Int.reduceMul, Int.reduceEq, Int.reduceNeg, reduceCtorEq, resV, resAll, ARes.ev, LV.flat, ite_true, ite_false, exists_eq_left', exists_eq_left, keyOf, implies_true, fillC, capOf]
      refine callK_of h_l1Most ?_
      simp (disch := omega) only [g2, g3, g5, g6, ↓SXd, SXu, slBounds, ↓sop, ↓aop, ↓reduceIte, LV.cells, AOp.dst, LV.I, LV.B, LV.U, LV.S, LV.nil, Nat.reduceEqDiff, Nat.reduceAdd, Nat.reduceMul, Nat.reduceSub, Nat.reduceLeDiff, Nat.reduceBEq, Nat.reduceDiv, Nat.reduceMod, Int.reduceToNat, Int.reduceLT, Int.reduceLE, Int.reduceAdd, Int.reduceSub, Int.reduceMul, Int.reduceEq, Int.reduceNeg, reduceCtorEq, resV, resAll, ARes.ev, LV.flat, ite_true, ite_false, exists_eq_left', exists_eq_left, keyOf, implies_true, fillC, capOf]
      exact ⟨m - 1, by omega, 2, _, by omega, rfl, g2, g3, rfl, rfl, by omega, by omega, by omega, by omega⟩
    · have := s2 rfl; subst this
      simp (disch := omega) only [g2, g3, g5, g6, ↓SXd, SXu, slBounds, ↓sop, ↓aop, ↓reduceIte, LV.cells, AOp.dst, LV.I, LV.B, LV.U, LV.S, LV.nil, Nat.reduceEqDiff, Nat.reduceAdd, Nat.reduceMul, Nat.reduceSub, Nat.reduceLeDiff, Nat.reduceBEq, Nat.reduceDiv, Nat.reduceMod, Int.reduceToNat, Int.reduceLT, Int.reduceLE, Int.reduceAdd, Int.reduceSub, Int.reduceMul, Int.reduceEq, Int.reduceNeg, reduceCtorEq, resV, resAll, ARes.ev, LV.flat, ite_true, ite_false, exists_eq_left', exists_eq_left, keyOf, implies_true, fillC, capOf]
      refine callK_of h_l1Most ?_
      simp (disch := omega) only [g2, g3, g5, g6, ↓SXd, SXu, slBounds, ↓sop, ↓aop, ↓reduceIte, LV.cells, AOp.dst, LV.I, LV.B, LV.U, LV.S, LV.nil, Nat.reduceEqDiff, Nat.reduceAdd, Nat.reduceMul, Nat.reduceSub, Nat.reduceLeDiff, Nat.reduceBEq, Nat.reduceDiv, Nat.reduceMod, Int.reduceToNat, Int.reduceLT, Int.reduceLE, Int.reduceAdd, Int.reduceSub, Int.reduceMul, Int.reduceEq, Int.reduceNeg, reduceCtorEq, resV, resAll, ARes.ev, LV.flat, ite_true, ite_false, exists_eq_left', exists_eq_left, keyOf, implies_true, fillC, capOf]
      exact ⟨m - 1, by omega, 3, _, by omega, rfl, g2, g3, rfl, rfl, by omega, by omega, by omega, fun _ => rfl⟩
  · simp (disch := omega) only [g2, g3, g5, g6, ↓SXd, SXu, slBounds, ↓sop, ↓aop, ↓reduceIte, LV.cells, AOp.dst, LV.I, LV.B, LV.U, LV.S, LV.nil, Nat.reduceEqDiff, Nat.reduceAdd, Nat.reduceMul, Nat.reduceSub, Nat.reduceLeDiff, Nat.reduceBEq, Nat.reduceDiv, Nat.reduceMod, Int.reduceToNat, Int.reduceLT, Int.reduceLE, Int.reduceAdd, Int.reduceSub, Int.reduceMul, Int.reduceEq, Int.reduceNeg, reduceCtorEq, resV, resAll, ARes.ev, LV.flat, ite_true, ite_false, exists_eq_left', exists_eq_left, keyOf, implies_true, fillC, capOf]
    rw [s3 (by omega)]
    exact cmp_drop rfl

end Go.Ab

namespace Go.Ab
open Go

theorem h_l2Empty {x y z : Int} {M : Mem} : CallsTo PG F.spec_l2Empty [.I x, .I y, .I z] M (.agg [.I x, .I y, .I z, .ref M.length 0 0]) (M ++ [some (.row [] true 3)]) := by
  refine calls_run K.spec_l2Empty rfl ?_
  simp (disch := omega) only [C.spec_l2Empty, splice, ↓SXd, SXu, slBounds, ↓sop, ↓aop, ↓reduceIte, LV.cells, AOp.dst, LV.I, LV.B, LV.U, LV.S, LV.nil, Nat.reduceEqDiff, Nat.reduceAdd, Nat.reduceMul, Nat.reduceSub, Nat.reduceLeDiff, Nat.reduceBEq, Nat.reduceDiv, Nat.reduceMod, Int.reduceToNat, Int.reduceLT, Int.reduceLE, Int.reduceAdd, Int.reduceSub, Int.reduceMul, Int.reduceEq, Int.reduceNeg, reduceCtorEq, resV, resAll, ARes.ev, LV.flat, ite_true, ite_false, exists_eq_left', exists_eq_left, keyOf, implies_true, fillC, capOf]
  exact cmp_keep1 (j := 1) rfl rfl (by simp [rn, rn0, rn1, keepR_n])

theorem h_l2Made {x y z : Int} {v : LV} {t o n : Nat} {M : Mem} (ht : t < M.length) : CallsTo PG F.spec_l2Made [.agg [.I x, .I y, .I z, v], .ref t o n] M (.agg [.I x, .I y, .I z, .ref t o n]) M := by
  refine calls_run K.spec_l2Made rfl ?_
  simp (disch := omega) only [C.spec_l2Made, splice, ↓SXd, SXu, slBounds, ↓sop, ↓aop, ↓reduceIte, LV.cells, AOp.dst, LV.I, LV.B, LV.U, LV.S, LV.nil, Nat.reduceEqDiff, Nat.reduceAdd, Nat.reduceMul, Nat.reduceSub, Nat.reduceLeDiff, Nat.reduceBEq, Nat.reduceDiv, Nat.reduceMod, Int.reduceToNat, Int.reduceLT, Int.reduceLE, Int.reduceAdd, Int.reduceSub, Int.reduceMul, Int.reduceEq, Int.reduceNeg, reduceCtorEq, resV, resAll, ARes.ev, LV.flat, ite_true, ite_false, exists_eq_left', exists_eq_left, keyOf, implies_true, fillC, capOf]
  exact cmp_drop (by simp [LV.lo, LV.lo1, ht])

theorem h_l2Has {x y z a b c : Int} {t o : Nat} {cs : List Cell} {M : Mem} (h : Tri M t o cs) (hn : cs.length ≤ 1000000000) :
    CallsTo PG F.spec_l2Has [.agg [.I x, .I y, .I z, .ref t o cs.length], .agg [.I a, .I b, .I c]] M (.B (decide ((⟨a, b, c⟩ : Cell) ∈ cs))) M := by
  refine calls_run K.spec_l2Has rfl ?_
  simp (disch := omega) only [C.spec_l2Has, ↓SXd, SXu, slBounds, ↓sop, ↓aop, ↓reduceIte, LV.cells, AOp.dst, LV.I, LV.B, LV.U, LV.S, LV.nil, Nat.reduceEqDiff, Nat.reduceAdd, Nat.reduceMul, Nat.reduceSub, Nat.reduceLeDiff, Nat.reduceBEq, Nat.reduceDiv, Nat.reduceMod, Int.reduceToNat, Int.reduceLT, Int.reduceLE, Int.reduceAdd, Int.reduceSub, Int.reduceMul, Int.reduceEq, Int.reduceNeg, reduceCtorEq, resV, resAll, ARes.ev, LV.flat, ite_true, ite_false, exists_eq_left', exists_eq_left, keyOf, implies_true, fillC, capOf]
  refine ev_loop (fun m fr M' => ∃ k : Nat, k + m = cs.length ∧ M' = M ++ [some (Blk.row [.I x, .I y, .I z, .ref t o cs.length] true 0), some (Blk.row [.I a, .I b, .I c] true 0)] ∧ fr 2 = .ptr M.length 0 ∧ fr 3 = .ptr (M.length + 1) 0 ∧ fr 5 = .I k ∧ (⟨a, b, c⟩ : Cell) ∉ cs.take k) cs.length
    ⟨0, by omega, rfl, rfl, rfl, rfl, by simp⟩ ?_
  rintro m fr M' ⟨k, hk, rfl, f2, f3, f5, hno⟩
  have ht := h.lt
  simp (disch := omega) only [f2, f3, f5, ↓SXd, SXu, slBounds, ↓sop, ↓aop, ↓reduceIte, LV.cells, AOp.dst, LV.I, LV.B, LV.U, LV.S, LV.nil, Nat.reduceEqDiff, Nat.reduceAdd, Nat.reduceMul, Nat.reduceSub, Nat.reduceLeDiff, Nat.reduceBEq, Nat.reduceDiv, Nat.reduceMod, Int.reduceToNat, Int.reduceLT, Int.reduceLE, Int.reduceAdd, Int.reduceSub, Int.reduceMul, Int.reduceEq, Int.reduceNeg, reduceCtorEq, resV, resAll, ARes.ev, LV.flat, ite_true, ite_false, exists_eq_left', exists_eq_left, keyOf, implies_true, fillC, capOf]
  refine condC_dec (fun hlt => ?_) (fun hlt => ?_)
  · have hkl : k < cs.length := by omega
    have htd := take_dec (cs := cs) (k := k) (c := ⟨a, b, c⟩) hkl
    rw [decide_eq_false hno, Bool.false_or] at htd
    simp (disch := omega) only [f2, f3, f5, getCells_app, (Tri.get h (k := k) (by omega)), Cell.row, eqV, eqC, if_true, ite_true, Bool.and_true, ↓SXd, SXu, slBounds, ↓sop, ↓aop, ↓reduceIte, LV.cells, AOp.dst, LV.I, LV.B, LV.U, LV.S, LV.nil, Nat.reduceEqDiff, Nat.reduceAdd, Nat.reduceMul, Nat.reduceSub, Nat.reduceLeDiff, Nat.reduceBEq, Nat.reduceDiv, Nat.reduceMod, Int.reduceToNat, Int.reduceLT, Int.reduceLE, Int.reduceAdd, Int.reduceSub, Int.reduceMul, Int.reduceEq, Int.reduceNeg, reduceCtorEq, resV, resAll, ARes.ev, LV.flat, ite_true, ite_false, exists_eq_left', exists_eq_left, keyOf, implies_true, fillC, capOf]
    by_cases he : (⟨a, b, c⟩ : Cell) = cs.getD k default
    · obtain ⟨e1, e2, e3⟩ := cell_eq.1 he
      simp only at e1 e2 e3
      simp (disch := omega) only [f2, f3, f5, ← e1, ← e2, ← e3, Bool.and_self, ↓SXd, SXu, slBounds, ↓sop, ↓aop, ↓reduceIte, LV.cells, AOp.dst, LV.I, LV.B, LV.U, LV.S, LV.nil, Nat.reduceEqDiff, Nat.reduceAdd, Nat.reduceMul, Nat.reduceSub, Nat.reduceLeDiff, Nat.reduceBEq, Nat.reduceDiv, Nat.reduceMod, Int.reduceToNat, Int.reduceLT, Int.reduceLE, Int.reduceAdd, Int.reduceSub, Int.reduceMul, Int.reduceEq, Int.reduceNeg, reduceCtorEq, resV, resAll, ARes.ev, LV.flat, ite_true, ite_false, exists_eq_left', exists_eq_left, keyOf, implies_true, fillC, capOf]
      exact cmp_dropT (List.mem_of_mem_take (of_decide_eq_true (htd ▸ decide_eq_true he)))
    · rw [decide_eq_false he] at htd
      have hf : ((cs.getD k default).a == a && ((cs.getD k default).b == b && (cs.getD k default).c == c)) = false := by
        rw [Bool.eq_false_iff]
        intro e
        simp only [Bool.and_eq_true, beq_iff_eq] at e
        exact he (cell_eq.2 ⟨e.1.symm, e.2.1.symm, e.2.2.symm⟩)
      simp (disch := omega) only [f2, f3, f5, hf, ↓SXd, SXu, slBounds, ↓sop, ↓aop, ↓reduceIte, LV.cells, AOp.dst, LV.I, LV.B, LV.U, LV.S, LV.nil, Nat.reduceEqDiff, Nat.reduceAdd, Nat.reduceMul, Nat.reduceSub, Nat.reduceLeDiff, Nat.reduceBEq, Nat.reduceDiv, Nat.reduceMod, Int.reduceToNat, Int.reduceLT, Int.reduceLE, Int.reduceAdd, Int.reduceSub, Int.reduceMul, Int.reduceEq, Int.reduceNeg, reduceCtorEq, resV, resAll, ARes.ev, LV.flat, ite_true, ite_false, exists_eq_left', exists_eq_left, keyOf, implies_true, fillC, capOf]
      exact ⟨m - 1, by omega, k + 1, by omega, rfl, f2, f3, eqI (natI _), of_decide_eq_false htd.symm⟩
  · simp (disch := omega) only [f2, f3, f5, ↓SXd, SXu, slBounds, ↓sop, ↓aop, ↓reduceIte, LV.cells, AOp.dst, LV.I, LV.B, LV.U, LV.S, LV.nil, Nat.reduceEqDiff, Nat.reduceAdd, Nat.reduceMul, Nat.reduceSub, Nat.reduceLeDiff, Nat.reduceBEq, Nat.reduceDiv, Nat.reduceMod, Int.reduceToNat, Int.reduceLT, Int.reduceLE, Int.reduceAdd, Int.reduceSub, Int.reduceMul, Int.reduceEq, Int.reduceNeg, reduceCtorEq, resV, resAll, ARes.ev, LV.flat, ite_true, ite_false, exists_eq_left', exists_eq_left, keyOf, implies_true, fillC, capOf]
    have : k = cs.length := by omega
    subst this
    rw [List.take_length] at hno
    exact cmp_dropF hno

theorem h_l2All {x y z : Int} {v : LV} {M : Mem} (hS : Sides x y z) : CallsTo PG F.spec_l2All [.agg [.I x, .I y, .I z, v]] M (.ref M.length 0 (cellsOf x y z).length) (M ++ [some (.row (triL (cellsOf x y z)) true 3)]) := by
  obtain ⟨hx, hy, hz⟩ := id hS
  have hv := vol_cast hS
  have hlen : (cellsOf x y z).length = vol x y z := by simp [cellsOf]
  refine calls_run K.spec_l2All rfl ?_
  simp (disch := omega) only [C.spec_l2All, ↓SXd, SXu, slBounds, ↓sop, ↓aop, ↓reduceIte, LV.cells, AOp.dst, LV.I, LV.B, LV.U, LV.S, LV.nil, Nat.reduceEqDiff, Nat.reduceAdd, Nat.reduceMul, Nat.reduceSub, Nat.reduceLeDiff, Nat.reduceBEq, Nat.reduceDiv, Nat.reduceMod, Int.reduceToNat, Int.reduceLT, Int.reduceLE, Int.reduceAdd, Int.reduceSub, Int.reduceMul, Int.reduceEq, Int.reduceNeg, reduceCtorEq, resV, resAll, ARes.ev, LV.flat, ite_true, ite_false, exists_eq_left', exists_eq_left, keyOf, implies_true, fillC, capOf]
  refine ev_loop (fun m fr M' => ∃ (a u : Nat) (acc : List Cell), (a : Int) + m = x ∧ acc = (cellsOf x y z).take (idx y z ⟨a, 0, 0⟩).toNat ∧ Pre M M' ∧ Live M' M.length (.row [.I x, .I y, .I z, v] true 0) ∧ M.length + 1 ≤ u ∧ Live M' u (.row (triL acc) true 3) ∧
    fr 1 = .ptr M.length 0 ∧ fr 3 = .ref u 0 acc.length ∧ fr 4 = .I a) x.toNat
    ⟨0, M.length + 1, [], by omega, by simp [idx], Pre.app _ _, Live.new, by omega, Live.newj rfl, rfl, rfl, rfl⟩ ?_
  rintro m fr M' ⟨a, u, acc, ha, hacc, hpre, hbox, hu, hout, f1, f3, f4⟩
  simp (disch := omega) only [f1, f3, f4, hbox.cell, ↓SXd, SXu, slBounds, ↓sop, ↓aop, ↓reduceIte, LV.cells, AOp.dst, LV.I, LV.B, LV.U, LV.S, LV.nil, Nat.reduceEqDiff, Nat.reduceAdd, Nat.reduceMul, Nat.reduceSub, Nat.reduceLeDiff, Nat.reduceBEq, Nat.reduceDiv, Nat.reduceMod, Int.reduceToNat, Int.reduceLT, Int.reduceLE, Int.reduceAdd, Int.reduceSub, Int.reduceMul, Int.reduceEq, Int.reduceNeg, reduceCtorEq, resV, resAll, ARes.ev, LV.flat, ite_true, ite_false, exists_eq_left', exists_eq_left, keyOf, implies_true, fillC, capOf]
  refine condC_dec (fun hlt => ?_) (fun hlt => ?_)
  rotate_left
  · simp (disch := omega) only [f1, f3, f4, ↓SXd, SXu, slBounds, ↓sop, ↓aop, ↓reduceIte, LV.cells, AOp.dst, LV.I, LV.B, LV.U, LV.S, LV.nil, Nat.reduceEqDiff, Nat.reduceAdd, Nat.reduceMul, Nat.reduceSub, Nat.reduceLeDiff, Nat.reduceBEq, Nat.reduceDiv, Nat.reduceMod, Int.reduceToNat, Int.reduceLT, Int.reduceLE, Int.reduceAdd, Int.reduceSub, Int.reduceMul, Int.reduceEq, Int.reduceNeg, reduceCtorEq, resV, resAll, ARes.ev, LV.flat, ite_true, ite_false, exists_eq_left', exists_eq_left, keyOf, implies_true, fillC, capOf]
    have hax : (a : Int) = x := by omega
    have e : cellsOf x y z = acc := by
      rw [hacc, hax, List.take_of_length_le]
      unfold idx
      simp only [Int.add_zero]
      rw [hlen]; unfold vol; omega
    rw [e]
    exact cmp_keepL hpre (by omega) hout (triL_lo acc) (by simp [rn, rn0, rn1])
  · simp (disch := omega) only [f1, f3, f4, ↓SXd, SXu, slBounds, ↓sop, ↓aop, ↓reduceIte, LV.cells, AOp.dst, LV.I, LV.B, LV.U, LV.S, LV.nil, Nat.reduceEqDiff, Nat.reduceAdd, Nat.reduceMul, Nat.reduceSub, Nat.reduceLeDiff, Nat.reduceBEq, Nat.reduceDiv, Nat.reduceMod, Int.reduceToNat, Int.reduceLT, Int.reduceLE, Int.reduceAdd, Int.reduceSub, Int.reduceMul, Int.reduceEq, Int.reduceNeg, reduceCtorEq, resV, resAll, ARes.ev, LV.flat, ite_true, ite_false, exists_eq_left', exists_eq_left, keyOf, implies_true, fillC, capOf]
    refine ev_loop (fun m2 fr N => ∃ (b u : Nat) (acc : List Cell), (b : Int) + m2 = y ∧ acc = (cellsOf x y z).take (idx y z ⟨a, b, 0⟩).toNat ∧ Pre M N ∧ Live N M.length (.row [.I x, .I y, .I z, v] true 0) ∧ M.length + 1 ≤ u ∧ Live N u (.row (triL acc) true 3) ∧
      fr 1 = .ptr M.length 0 ∧ fr 3 = .ref u 0 acc.length ∧ fr 4 = .I a ∧ fr 5 = .I b) y.toNat
      ⟨0, u, acc, by omega, hacc, hpre, hbox, hu, hout, f1, f3, f4, rfl⟩ ?_
    clear f1 f3 f4 hpre hbox hu hout hacc
    rintro m2 fr N ⟨b, u, acc, hb, hacc, hpre, hbox, hu, hout, f1, f3, f4, f5⟩
    simp (disch := omega) only [f1, f3, f4, f5, hbox.cell, ↓SXd, SXu, slBounds, ↓sop, ↓aop, ↓reduceIte, LV.cells, AOp.dst, LV.I, LV.B, LV.U, LV.S, LV.nil, Nat.reduceEqDiff, Nat.reduceAdd, Nat.reduceMul, Nat.reduceSub, Nat.reduceLeDiff, Nat.reduceBEq, Nat.reduceDiv, Nat.reduceMod, Int.reduceToNat, Int.reduceLT, Int.reduceLE, Int.reduceAdd, Int.reduceSub, Int.reduceMul, Int.reduceEq, Int.reduceNeg, reduceCtorEq, resV, resAll, ARes.ev, LV.flat, ite_true, ite_false, exists_eq_left', exists_eq_left, keyOf, implies_true, fillC, capOf]
    refine condC_dec (fun hlt2 => ?_) (fun hlt2 => ?_)
    rotate_left
    · simp (disch := omega) only [f1, f3, f4, f5, ↓SXd, SXu, slBounds, ↓sop, ↓aop, ↓reduceIte, LV.cells, AOp.dst, LV.I, LV.B, LV.U, LV.S, LV.nil, Nat.reduceEqDiff, Nat.reduceAdd, Nat.reduceMul, Nat.reduceSub, Nat.reduceLeDiff, Nat.reduceBEq, Nat.reduceDiv, Nat.reduceMod, Int.reduceToNat, Int.reduceLT, Int.reduceLE, Int.reduceAdd, Int.reduceSub, Int.reduceMul, Int.reduceEq, Int.reduceNeg, reduceCtorEq, resV, resAll, ARes.ev, LV.flat, ite_true, ite_false, exists_eq_left', exists_eq_left, keyOf, implies_true, fillC, capOf]
      have hby : (b : Int) = y := by omega
      refine ⟨m - 1, by omega, a + 1, u, acc, by omega, ?_, hpre, hbox, hu, hout, f1, f3, eqI (natI _)⟩
      rw [hacc, hby]
      unfold idx
      simp only [Int.natCast_add, Int.natCast_one, Int.add_mul, Int.one_mul, Int.add_zero]
    · simp (disch := omega) only [f1, f3, f4, f5, ↓SXd, SXu, slBounds, ↓sop, ↓aop, ↓reduceIte, LV.cells, AOp.dst, LV.I, LV.B, LV.U, LV.S, LV.nil, Nat.reduceEqDiff, Nat.reduceAdd, Nat.reduceMul, Nat.reduceSub, Nat.reduceLeDiff, Nat.reduceBEq, Nat.reduceDiv, Nat.reduceMod, Int.reduceToNat, Int.reduceLT, Int.reduceLE, Int.reduceAdd, Int.reduceSub, Int.reduceMul, Int.reduceEq, Int.reduceNeg, reduceCtorEq, resV, resAll, ARes.ev, LV.flat, ite_true, ite_false, exists_eq_left', exists_eq_left, keyOf, implies_true, fillC, capOf]
      refine ev_loop (fun m3 fr N => ∃ (c u : Nat) (acc : List Cell), (c : Int) + m3 = z ∧ acc = (cellsOf x y z).take (idx y z ⟨a, b, c⟩).toNat ∧ Pre M N ∧ Live N M.length (.row [.I x, .I y, .I z, v] true 0) ∧ M.length + 1 ≤ u ∧ Live N u (.row (triL acc) true 3) ∧
        fr 1 = .ptr M.length 0 ∧ fr 3 = .ref u 0 acc.length ∧ fr 4 = .I a ∧ fr 5 = .I b ∧ fr 6 = .I c) z.toNat
        ⟨0, u, acc, by omega, hacc, hpre, hbox, hu, hout, f1, f3, f4, f5, rfl⟩ ?_
      clear f1 f3 f4 f5 hpre hbox hu hout hacc
      rintro m3 fr N ⟨c, u, acc, hc, hacc, hpre, hbox, hu, hout, f1, f3, f4, f5, f6⟩
      simp (disch := omega) only [f1, f3, f4, f5, f6, hbox.cell, ↓SXd, SXu, slBounds, ↓sop, ↓aop, ↓reduceIte, LV.cells, AOp.dst, LV.I, LV.B, LV.U, LV.S, LV.nil, Nat.reduceEqDiff, Nat.reduceAdd, Nat.reduceMul, Nat.reduceSub, Nat.reduceLeDiff, Nat.reduceBEq, Nat.reduceDiv, Nat.reduceMod, Int.reduceToNat, Int.reduceLT, Int.reduceLE, Int.reduceAdd, Int.reduceSub, Int.reduceMul, Int.reduceEq, Int.reduceNeg, reduceCtorEq, resV, resAll, ARes.ev, LV.flat, ite_true, ite_false, exists_eq_left', exists_eq_left, keyOf, implies_true, fillC, capOf]
      refine condC_dec (fun hlt3 => ?_) (fun hlt3 => ?_)
      rotate_left
      · simp (disch := omega) only [f1, f3, f4, f5, f6, ↓SXd, SXu, slBounds, ↓sop, ↓aop, ↓reduceIte, LV.cells, AOp.dst, LV.I, LV.B, LV.U, LV.S, LV.nil, Nat.reduceEqDiff, Nat.reduceAdd, Nat.reduceMul, Nat.reduceSub, Nat.reduceLeDiff, Nat.reduceBEq, Nat.reduceDiv, Nat.reduceMod, Int.reduceToNat, Int.reduceLT, Int.reduceLE, Int.reduceAdd, Int.reduceSub, Int.reduceMul, Int.reduceEq, Int.reduceNeg, reduceCtorEq, resV, resAll, ARes.ev, LV.flat, ite_true, ite_false, exists_eq_left', exists_eq_left, keyOf, implies_true, fillC, capOf]
        have hcz : (c : Int) = z := by omega
        refine ⟨m2 - 1, by omega, b + 1, u, acc, by omega, ?_, hpre, hbox, hu, hout, f1, f3, f4, eqI (natI _)⟩
        rw [hacc, hcz]
        unfold idx
        simp only [Int.natCast_add, Int.natCast_one, Int.add_mul, Int.one_mul, Int.add_zero, Int.add_assoc]
      · have hin : (⟨a, b, c⟩ : Cell).inBox x y z := ⟨⟨by simp only; omega, by simp only; omega⟩, ⟨by simp only; omega, by simp only; omega⟩, ⟨by simp only; omega, by simp only; omega⟩⟩
        obtain ⟨i1, i2, i3⟩ := idx_in hS hin
        have hal : acc.length ≤ 64 := by
          have := List.length_take_le (idx y z ⟨a, b, c⟩).toNat (cellsOf x y z)
          rw [hacc]; omega
        simp (disch := omega) only [f1, f3, f4, f5, f6, splice, ↓SXd, SXu, slBounds, ↓sop, ↓aop, ↓reduceIte, LV.cells, AOp.dst, LV.I, LV.B, LV.U, LV.S, LV.nil, Nat.reduceEqDiff, Nat.reduceAdd, Nat.reduceMul, Nat.reduceSub, Nat.reduceLeDiff, Nat.reduceBEq, Nat.reduceDiv, Nat.reduceMod, Int.reduceToNat, Int.reduceLT, Int.reduceLE, Int.reduceAdd, Int.reduceSub, Int.reduceMul, Int.reduceEq, Int.reduceNeg, reduceCtorEq, resV, resAll, ARes.ev, LV.flat, ite_true, ite_false, exists_eq_left', exists_eq_left, keyOf, implies_true, fillC, capOf]
        refine appendK_cell hout (by omega) fun N' l1 l2 l3 => ?_
        simp (disch := omega) only [f1, f3, f4, f5, f6, ↓SXd, SXu, slBounds, ↓sop, ↓aop, ↓reduceIte, LV.cells, AOp.dst, LV.I, LV.B, LV.U, LV.S, LV.nil, Nat.reduceEqDiff, Nat.reduceAdd, Nat.reduceMul, Nat.reduceSub, Nat.reduceLeDiff, Nat.reduceBEq, Nat.reduceDiv, Nat.reduceMod, Int.reduceToNat, Int.reduceLT, Int.reduceLE, Int.reduceAdd, Int.reduceSub, Int.reduceMul, Int.reduceEq, Int.reduceNeg, reduceCtorEq, resV, resAll, ARes.ev, LV.flat, ite_true, ite_false, exists_eq_left', exists_eq_left, keyOf, implies_true, fillC, capOf]
        refine ⟨m3 - 1, by omega, c + 1, _, acc ++ [⟨a, b, c⟩], by omega, ?_, pre_step hpre (by omega) l1 l3, live_step hbox (by omega) l3, by have := hpre.1; omega, l2, f1, rfl, f4, f5, eqI (natI _)⟩
        have e1 : (idx y z ⟨a, b, ((c + 1 : Nat) : Int)⟩).toNat = (idx y z ⟨a, b, c⟩).toNat + 1 := by unfold idx at i1 ⊢; simp only at i1 ⊢; omega
        have hlt' : (idx y z ⟨a, b, c⟩).toNat < (cellsOf x y z).length := by omega
        rw [e1, List.take_succ, ← hacc, List.getElem?_eq_getElem hlt']
        congr 1
        simp only [Option.toList, cellsOf, List.getElem_map, List.getElem_range]
        rw [Int.toNat_of_nonneg i1, i3]

theorem h_l2Near {x y z : Int} {c : Cell} {t o : Nat} {cs : List Cell} {M : Mem} (h : Tri M t o cs) (hn : cs.length ≤ 1000000000) (hin : ∀ d ∈ cs, d.inBox 4 4 4) (hc : c.inBox 4 4 4) :
    CallsTo PG F.spec_l2Near [.agg [.I x, .I y, .I z, .ref t o cs.length], .agg [.I c.a, .I c.b, .I c.c]] M (.ref M.length 0 (cs.filter fun d => decide (apart d c = 1)).length) (M ++ [some (.row (triL (cs.filter fun d => decide (apart d c = 1))) true 3)]) := by
  obtain ⟨c1, c2, c3⟩ := hc
  refine calls_run K.spec_l2Near rfl ?_
  simp (disch := omega) only [C.spec_l2Near, ↓SXd, SXu, slBounds, ↓sop, ↓aop, ↓reduceIte, LV.cells, AOp.dst, LV.I, LV.B, LV.U, LV.S, LV.nil, Nat.reduceEqDiff, Nat.reduceAdd, Nat.reduceMul, Nat.reduceSub, Nat.reduceLeDiff, Nat.reduceBEq, Nat.reduceDiv, Nat.reduceMod, Int.reduceToNat, Int.reduceLT, Int.reduceLE, Int.reduceAdd, Int.reduceSub, Int.reduceMul, Int.reduceEq, Int.reduceNeg, reduceCtorEq, resV, resAll, ARes.ev, LV.flat, ite_true, ite_false, exists_eq_left', exists_eq_left, keyOf, implies_true, fillC, capOf]
  refine ev_loop (fun m fr M' => ∃ (k u : Nat) (acc : List Cell), k + m = cs.length ∧ acc = (cs.take k).filter (fun d => decide (apart d c = 1)) ∧ Pre M M' ∧ Live M' M.length (.row [.I x, .I y, .I z, .ref t o cs.length] true 0) ∧ Live M' (M.length + 1) (.row [.I c.a, .I c.b, .I c.c] true 0) ∧ M.length + 2 ≤ u ∧ Live M' u (.row (triL acc) true 3) ∧
    fr 2 = .ptr M.length 0 ∧ fr 3 = .ptr (M.length + 1) 0 ∧ fr 5 = .ref u 0 acc.length ∧ fr 6 = .I k) cs.length
    ⟨0, M.length + 2, [], by omega, rfl, Pre.app _ _, Live.new, Live.newj rfl, by omega, Live.newj rfl, rfl, rfl, rfl, rfl⟩ ?_
  rintro m fr M' ⟨k, u, acc, hk, hacc, hpre, hbox, hcell, hu, hout, f2, f3, f5, f6⟩
  have ht := h.pre hpre
  have hal : acc.length ≤ 1000000000 := by
    have h1 := List.length_filter_le (fun d => decide (apart d c = 1)) (cs.take k)
    have h2 := List.length_take_le k cs
    rw [hacc]; omega
  simp (disch := omega) only [f2, f3, f5, f6, hbox.cell, ↓SXd, SXu, slBounds, ↓sop, ↓aop, ↓reduceIte, LV.cells, AOp.dst, LV.I, LV.B, LV.U, LV.S, LV.nil, Nat.reduceEqDiff, Nat.reduceAdd, Nat.reduceMul, Nat.reduceSub, Nat.reduceLeDiff, Nat.reduceBEq, Nat.reduceDiv, Nat.reduceMod, Int.reduceToNat, Int.reduceLT, Int.reduceLE, Int.reduceAdd, Int.reduceSub, Int.reduceMul, Int.reduceEq, Int.reduceNeg, reduceCtorEq, resV, resAll, ARes.ev, LV.flat, ite_true, ite_false, exists_eq_left', exists_eq_left, keyOf, implies_true, fillC, capOf]
  refine condC_dec (fun hlt => ?_) (fun hlt => ?_)
  · have hkl : k < cs.length := by omega
    obtain ⟨d1, d2, d3⟩ := hin (cs.getD k default) (getD_mem' hkl)
    have hts : cs.take (k + 1) = cs.take k ++ [cs.getD k default] := by
      rw [List.take_succ, List.getElem?_eq_getElem hkl]; simp [hkl]
    simp (disch := omega) only [f2, f3, f5, f6, hbox.cell, hcell.cells, (Tri.get ht (k := k) (by omega)), Cell.row, ↓SXd, SXu, slBounds, ↓sop, ↓aop, ↓reduceIte, LV.cells, AOp.dst, LV.I, LV.B, LV.U, LV.S, LV.nil, Nat.reduceEqDiff, Nat.reduceAdd, Nat.reduceMul, Nat.reduceSub, Nat.reduceLeDiff, Nat.reduceBEq, Nat.reduceDiv, Nat.reduceMod, Int.reduceToNat, Int.reduceLT, Int.reduceLE, Int.reduceAdd, Int.reduceSub, Int.reduceMul, Int.reduceEq, Int.reduceNeg, reduceCtorEq, resV, resAll, ARes.ev, LV.flat, ite_true, ite_false, exists_eq_left', exists_eq_left, keyOf, implies_true, fillC, capOf]
    refine callK_of (h_l2Apart (by omega) (by omega) (by omega) (by omega) (by omega) (by omega)) ?_
    simp (disch := omega) only [f2, f3, f5, f6, cell_eta, ↓SXd, SXu, slBounds, ↓sop, ↓aop, ↓reduceIte, LV.cells, AOp.dst, LV.I, LV.B, LV.U, LV.S, LV.nil, Nat.reduceEqDiff, Nat.reduceAdd, Nat.reduceMul, Nat.reduceSub, Nat.reduceLeDiff, Nat.reduceBEq, Nat.reduceDiv, Nat.reduceMod, Int.reduceToNat, Int.reduceLT, Int.reduceLE, Int.reduceAdd, Int.reduceSub, Int.reduceMul, Int.reduceEq, Int.reduceNeg, reduceCtorEq, resV, resAll, ARes.ev, LV.flat, ite_true, ite_false, exists_eq_left', exists_eq_left, keyOf, implies_true, fillC, capOf]
    refine condC_dec (fun he => ?_) (fun he => ?_)
    · simp (disch := omega) only [f2, f3, f5, f6, hbox.cell, (Tri.get ht (k := k) (by omega)), Cell.row, splice, ↓SXd, SXu, slBounds, ↓sop, ↓aop, ↓reduceIte, LV.cells, AOp.dst, LV.I, LV.B, LV.U, LV.S, LV.nil, Nat.reduceEqDiff, Nat.reduceAdd, Nat.reduceMul, Nat.reduceSub, Nat.reduceLeDiff, Nat.reduceBEq, Nat.reduceDiv, Nat.reduceMod, Int.reduceToNat, Int.reduceLT, Int.reduceLE, Int.reduceAdd, Int.reduceSub, Int.reduceMul, Int.reduceEq, Int.reduceNeg, reduceCtorEq, resV, resAll, ARes.ev, LV.flat, ite_true, ite_false, exists_eq_left', exists_eq_left, keyOf, implies_true, fillC, capOf]
      refine appendK_cell hout hal fun N' l1 l2 l3 => ?_
      simp (disch := omega) only [f2, f3, f5, f6, ↓SXd, SXu, slBounds, ↓sop, ↓aop, ↓reduceIte, LV.cells, AOp.dst, LV.I, LV.B, LV.U, LV.S, LV.nil, Nat.reduceEqDiff, Nat.reduceAdd, Nat.reduceMul, Nat.reduceSub, Nat.reduceLeDiff, Nat.reduceBEq, Nat.reduceDiv, Nat.reduceMod, Int.reduceToNat, Int.reduceLT, Int.reduceLE, Int.reduceAdd, Int.reduceSub, Int.reduceMul, Int.reduceEq, Int.reduceNeg, reduceCtorEq, resV, resAll, ARes.ev, LV.flat, ite_true, ite_false, exists_eq_left', exists_eq_left, keyOf, implies_true, fillC, capOf]
      refine ⟨m - 1, by omega, k + 1, _, _, by omega, ?_, pre_step hpre (by omega) l1 l3, live_step hbox (by omega) l3, live_step hcell (by omega) l3, by have := hcell.lt; omega, l2, f2, f3, rfl, eqI (natI _)⟩
      rw [hts, List.filter_append, ← hacc, List.filter_cons_of_pos (by simpa using he)]; rfl
    · simp (disch := omega) only [f2, f3, f5, f6, ↓SXd, SXu, slBounds, ↓sop, ↓aop, ↓reduceIte, LV.cells, AOp.dst, LV.I, LV.B, LV.U, LV.S, LV.nil, Nat.reduceEqDiff, Nat.reduceAdd, Nat.reduceMul, Nat.reduceSub, Nat.reduceLeDiff, Nat.reduceBEq, Nat.reduceDiv, Nat.reduceMod, Int.reduceToNat, Int.reduceLT, Int.reduceLE, Int.reduceAdd, Int.reduceSub, Int.reduceMul, Int.reduceEq, Int.reduceNeg, reduceCtorEq, resV, resAll, ARes.ev, LV.flat, ite_true, ite_false, exists_eq_left', exists_eq_left, keyOf, implies_true, fillC, capOf]
      refine ⟨m - 1, by omega, k + 1, u, acc, by omega, ?_, hpre, hbox, hcell, hu, hout, f2, f3, f5, eqI (natI _)⟩
      rw [hts, List.filter_append, ← hacc, List.filter_cons_of_neg (by simpa using he)]; simp
  · simp (disch := omega) only [f2, f3, f5, f6, ↓SXd, SXu, slBounds, ↓sop, ↓aop, ↓reduceIte, LV.cells, AOp.dst, LV.I, LV.B, LV.U, LV.S, LV.nil, Nat.reduceEqDiff, Nat.reduceAdd, Nat.reduceMul, Nat.reduceSub, Nat.reduceLeDiff, Nat.reduceBEq, Nat.reduceDiv, Nat.reduceMod, Int.reduceToNat, Int.reduceLT, Int.reduceLE, Int.reduceAdd, Int.reduceSub, Int.reduceMul, Int.reduceEq, Int.reduceNeg, reduceCtorEq, resV, resAll, ARes.ev, LV.flat, ite_true, ite_false, exists_eq_left', exists_eq_left, keyOf, implies_true, fillC, capOf]
    have : k = cs.length := by omega
    subst this
    rw [List.take_length] at hacc
    rw [← hacc]
    exact cmp_keepL hpre (by omega) hout (triL_lo acc) (by simp [rn, rn0, rn1])

theorem h_l2Without {x y z a b c : Int} {t o : Nat} {cs : List Cell} {M : Mem} (h : Tri M t o cs) (hn : cs.length ≤ 1000000000) :
    CallsTo PG F.spec_l2Without [.agg [.I x, .I y, .I z, .ref t o cs.length], .agg [.I a, .I b, .I c]] M (.agg [.I x, .I y, .I z, .ref M.length 0 (cs.filter fun d => !decide (d = ⟨a, b, c⟩)).length]) (M ++ [some (.row (triL (cs.filter fun d => !decide (d = ⟨a, b, c⟩))) true 3)]) := by
  refine calls_run K.spec_l2Without rfl ?_
  simp (disch := omega) only [C.spec_l2Without, ↓SXd, SXu, slBounds, ↓sop, ↓aop, ↓reduceIte, LV.cells, AOp.dst, LV.I, LV.B, LV.U, LV.S, LV.nil, Nat.reduceEqDiff, Nat.reduceAdd, Nat.reduceMul, Nat.reduceSub, Nat.reduceLeDiff, Nat.reduceBEq, Nat.reduceDiv, Nat.reduceMod, Int.reduceToNat, Int.reduceLT, Int.reduceLE, Int.reduceAdd, Int.reduceSub, Int.reduceMul, Int.reduceEq, Int.reduceNeg, reduceCtorEq, resV, resAll, ARes.ev, LV.flat, ite_true, ite_false, exists_eq_left', exists_eq_left, keyOf, implies_true, fillC, capOf]
  refine callK_of (h_l2Empty) ?_
  simp (disch := omega) only [splice, ↓SXd, SXu, slBounds, ↓sop, ↓aop, ↓reduceIte, LV.cells, AOp.dst, LV.I, LV.B, LV.U, LV.S, LV.nil, Nat.reduceEqDiff, Nat.reduceAdd, Nat.reduceMul, Nat.reduceSub, Nat.reduceLeDiff, Nat.reduceBEq, Nat.reduceDiv, Nat.reduceMod, Int.reduceToNat, Int.reduceLT, Int.reduceLE, Int.reduceAdd, Int.reduceSub, Int.reduceMul, Int.reduceEq, Int.reduceNeg, reduceCtorEq, resV, resAll, ARes.ev, LV.flat, ite_true, ite_false, exists_eq_left', exists_eq_left, keyOf, implies_true, fillC, capOf]
  refine ev_loop (fun m fr M' => ∃ (k u : Nat) (acc : List Cell), k + m = cs.length ∧ acc = (cs.take k).filter (fun d => !decide (d = ⟨a, b, c⟩)) ∧ Pre M M' ∧ Live M' M.length (.row [.I x, .I y, .I z, .ref t o cs.length] true 0) ∧ Live M' (M.length + 1) (.row [.I a, .I b, .I c] true 0) ∧
    Live M' (M.length + 4) (.row [.I x, .I y, .I z, .ref u 0 acc.length] true 0) ∧ (u = M.length + 3 ∨ M.length + 4 < u) ∧ Live M' u (.row (triL acc) true 3) ∧ fr 2 = .ptr M.length 0 ∧ fr 3 = .ptr (M.length + 1) 0 ∧ Live M' (M.length + 2) (.row [.I 0, .I 0, .I 0, .nil] true 0) ∧ fr 4 = .ptr (M.length + 2) 0 ∧ fr 5 = .ptr (M.length + 4) 0 ∧ fr 6 = .I k) cs.length
    ⟨0, M.length + 3, [], by omega, rfl, Pre.app _ _, Live.new, Live.newj rfl, Live.newj rfl, by omega, Live.newj rfl, rfl, rfl, Live.newj rfl, rfl, rfl, rfl⟩ ?_
  rintro m fr M' ⟨k, u, acc, hk, hacc, hpre, hbox, hcell, hres, hu, hout, f2, f3, hret, f4, f5, f6⟩
  have ht := h.pre hpre
  have hal : acc.length ≤ 1000000000 := by
    have h1 := List.length_filter_le (fun d => !decide (d = ⟨a, b, c⟩)) (cs.take k)
    have h2 := List.length_take_le k cs
    rw [hacc]; omega
  simp (disch := omega) only [f2, f3, f4, f5, f6, hbox.cell, ↓SXd, SXu, slBounds, ↓sop, ↓aop, ↓reduceIte, LV.cells, AOp.dst, LV.I, LV.B, LV.U, LV.S, LV.nil, Nat.reduceEqDiff, Nat.reduceAdd, Nat.reduceMul, Nat.reduceSub, Nat.reduceLeDiff, Nat.reduceBEq, Nat.reduceDiv, Nat.reduceMod, Int.reduceToNat, Int.reduceLT, Int.reduceLE, Int.reduceAdd, Int.reduceSub, Int.reduceMul, Int.reduceEq, Int.reduceNeg, reduceCtorEq, resV, resAll, ARes.ev, LV.flat, ite_true, ite_false, exists_eq_left', exists_eq_left, keyOf, implies_true, fillC, capOf]
  refine condC_dec (fun hlt => ?_) (fun hlt => ?_)
  · have hkl : k < cs.length := by omega
    have hts : cs.take (k + 1) = cs.take k ++ [cs.getD k default] := by
      rw [List.take_succ, List.getElem?_eq_getElem hkl]; simp [hkl]
    simp (disch := omega) only [f2, f3, f4, f5, f6, hbox.cell, hcell.cells, (Tri.get ht (k := k) (by omega)), Cell.row, eqV, eqC, if_true, ite_true, Bool.and_true, ↓SXd, SXu, slBounds, ↓sop, ↓aop, ↓reduceIte, LV.cells, AOp.dst, LV.I, LV.B, LV.U, LV.S, LV.nil, Nat.reduceEqDiff, Nat.reduceAdd, Nat.reduceMul, Nat.reduceSub, Nat.reduceLeDiff, Nat.reduceBEq, Nat.reduceDiv, Nat.reduceMod, Int.reduceToNat, Int.reduceLT, Int.reduceLE, Int.reduceAdd, Int.reduceSub, Int.reduceMul, Int.reduceEq, Int.reduceNeg, reduceCtorEq, resV, resAll, ARes.ev, LV.flat, ite_true, ite_false, exists_eq_left', exists_eq_left, keyOf, implies_true, fillC, capOf]
    by_cases he : cs.getD k default = ⟨a, b, c⟩
    · obtain ⟨e1, e2, e3⟩ := cell_eq.1 he
      simp only at e1 e2 e3
      simp (disch := omega) only [f2, f3, f4, f5, f6, e1, e2, e3, Bool.and_self, ↓SXd, SXu, slBounds, ↓sop, ↓aop, ↓reduceIte, LV.cells, AOp.dst, LV.I, LV.B, LV.U, LV.S, LV.nil, Nat.reduceEqDiff, Nat.reduceAdd, Nat.reduceMul, Nat.reduceSub, Nat.reduceLeDiff, Nat.reduceBEq, Nat.reduceDiv, Nat.reduceMod, Int.reduceToNat, Int.reduceLT, Int.reduceLE, Int.reduceAdd, Int.reduceSub, Int.reduceMul, Int.reduceEq, Int.reduceNeg, reduceCtorEq, resV, resAll, ARes.ev, LV.flat, ite_true, ite_false, exists_eq_left', exists_eq_left, keyOf, implies_true, fillC, capOf]
      refine ⟨m - 1, by omega, k + 1, u, acc, by omega, ?_, hpre, hbox, hcell, hres, hu, hout, f2, f3, hret, f4, f5, eqI (natI _)⟩
      rw [hts, List.filter_append, ← hacc, List.filter_cons_of_neg (by simp only [he]; simp)]; simp
    · have hf : ((cs.getD k default).a == a && ((cs.getD k default).b == b && (cs.getD k default).c == c)) = false := by
        rw [Bool.eq_false_iff]
        intro e
        simp only [Bool.and_eq_true, beq_iff_eq] at e
        exact he (cell_eq.2 ⟨e.1, e.2.1, e.2.2⟩)
      simp (disch := omega) only [f2, f3, f4, f5, f6, hf, hres.cell, hbox.cell, (Tri.get ht (k := k) (by omega)), Cell.row, splice, ↓SXd, SXu, slBounds, ↓sop, ↓aop, ↓reduceIte, LV.cells, AOp.dst, LV.I, LV.B, LV.U, LV.S, LV.nil, Nat.reduceEqDiff, Nat.reduceAdd, Nat.reduceMul, Nat.reduceSub, Nat.reduceLeDiff, Nat.reduceBEq, Nat.reduceDiv, Nat.reduceMod, Int.reduceToNat, Int.reduceLT, Int.reduceLE, Int.reduceAdd, Int.reduceSub, Int.reduceMul, Int.reduceEq, Int.reduceNeg, reduceCtorEq, resV, resAll, ARes.ev, LV.flat, ite_true, ite_false, exists_eq_left', exists_eq_left, keyOf, implies_true, fillC, capOf]
      refine appendK_cell hout hal fun N' l1 l2 l3 => ?_
      have hres' := live_step hres (by omega) l3
      have hlr := hres.lt
      simp (disch := omega) only [f2, f3, f4, f5, f6, hres'.setC, memK, splice, ↓SXd, SXu, slBounds, ↓sop, ↓aop, ↓reduceIte, LV.cells, AOp.dst, LV.I, LV.B, LV.U, LV.S, LV.nil, Nat.reduceEqDiff, Nat.reduceAdd, Nat.reduceMul, Nat.reduceSub, Nat.reduceLeDiff, Nat.reduceBEq, Nat.reduceDiv, Nat.reduceMod, Int.reduceToNat, Int.reduceLT, Int.reduceLE, Int.reduceAdd, Int.reduceSub, Int.reduceMul, Int.reduceEq, Int.reduceNeg, reduceCtorEq, resV, resAll, ARes.ev, LV.flat, ite_true, ite_false, exists_eq_left', exists_eq_left, keyOf, implies_true, fillC, capOf]
      refine ⟨m - 1, by omega, k + 1, M'.length + 1, _, by omega, ?_, Pre.set (pre_step hpre (by omega) l1 l3) (by omega), (live_step hbox (by omega) l3).set_ne (by omega), (live_step hcell (by omega) l3).set_ne (by omega), hres'.set_eq, by omega, l2.set_ne (by omega), f2, f3, (live_step hret (by omega) l3).set_ne (by omega), f4, f5, eqI (natI _)⟩
      rw [hts, List.filter_append, ← hacc, List.filter_cons_of_pos (by simp only [decide_eq_false he]; rfl)]; rfl
  · simp (disch := omega) only [f2, f3, f4, f5, f6, hres.cells, ↓SXd, SXu, slBounds, ↓sop, ↓aop, ↓reduceIte, LV.cells, AOp.dst, LV.I, LV.B, LV.U, LV.S, LV.nil, Nat.reduceEqDiff, Nat.reduceAdd, Nat.reduceMul, Nat.reduceSub, Nat.reduceLeDiff, Nat.reduceBEq, Nat.reduceDiv, Nat.reduceMod, Int.reduceToNat, Int.reduceLT, Int.reduceLE, Int.reduceAdd, Int.reduceSub, Int.reduceMul, Int.reduceEq, Int.reduceNeg, reduceCtorEq, resV, resAll, ARes.ev, LV.flat, ite_true, ite_false, exists_eq_left', exists_eq_left, keyOf, implies_true, fillC, capOf]
    have : k = cs.length := by omega
    subst this
    rw [List.take_length] at hacc
    have hlr := hres.lt
    have hret' := hret.set_eq (b' := .row [.I x, .I y, .I z, .ref u 0 acc.length] true 0)
    rw [← hacc, hret.setC, if_pos (by simp)]
    simp (disch := omega) only [memK, splice, f2, f3, f4, f5, f6, hret'.cells, ↓SXd, SXu, slBounds, ↓sop, ↓aop, ↓reduceIte, LV.cells, AOp.dst, LV.I, LV.B, LV.U, LV.S, LV.nil, Nat.reduceEqDiff, Nat.reduceAdd, Nat.reduceMul, Nat.reduceSub, Nat.reduceLeDiff, Nat.reduceBEq, Nat.reduceDiv, Nat.reduceMod, Int.reduceToNat, Int.reduceLT, Int.reduceLE, Int.reduceAdd, Int.reduceSub, Int.reduceMul, Int.reduceEq, Int.reduceNeg, reduceCtorEq, resV, resAll, ARes.ev, LV.flat, ite_true, ite_false, exists_eq_left', exists_eq_left, keyOf, implies_true, fillC, capOf]
    exact cmp_keepL (Pre.set hpre (by omega)) (by omega) (hout.set_ne (by omega)) (triL_lo acc) (by simp [rn, rn0, rn1])
end Go.Ab

namespace Go.Ab
open Go

theorem appendK_zero {e b t off len t2 o2 : Nat} {M : Mem} {A : LV → Mem → Prop} (h : andK (len * b ≤ 140737488355328 ∧ len ≤ 9223372036854775807) (A (.ref t off len) M)) : appendK e b (.ref t off len) (.ref t2 o2 0) M A := by
  obtain ⟨h1, h2⟩ := h
  refine ⟨by simpa using h1, .inl ?_⟩
  simpa [appV, appK] using h2
theorem appendK_pos {e b t off len t2 o2 n : Nat} {cs new : List LV} {M : Mem} {A : LV → Mem → Prop} (hn : 0 < n) (hw : getCells M t2 o2 (n * e) = some new) (hr : M[t]? = some (some (.row cs true e))) (hl : off + len * e ≤ cs.length) :
    andK ((len + n) * b ≤ 140737488355328 ∧ len + n ≤ 9223372036854775807) (A (.ref M.length 0 (len + n)) (M.set t none ++ [some (.row ((cs.drop off).take (len * e) ++ new) true e)])) → appendK e b (.ref t off len) (.ref t2 o2 n) M A := by
  rintro ⟨h1, h2⟩
  have h0 : n ≠ 0 := by omega
  simp only [appendK, lenS, winC, h0, if_false, hw]
  exact ⟨h1, .inl (by simpa [appV, appK, h0, hr, hl] using h2)⟩

theorem Tri.take {M : Mem} {t o k : Nat} {cs : List Cell} (h : Tri M t o cs) (hk : k ≤ cs.length) : Tri M t o (cs.take k) := by
  obtain ⟨row, h1, h2, h3⟩ := h
  rw [triL_len] at h2 h3
  have hl : (cs.take k).length = k := by simp; omega
  refine ⟨row, h1, by rw [triL_len, hl]; omega, ?_⟩
  rw [triL_len, hl, ← triL_take, ← h3, List.take_take, Nat.min_eq_left (by omega)]
theorem Tri.drop {M : Mem} {t o k : Nat} {cs : List Cell} (h : Tri M t o cs) (hk : k ≤ cs.length) : Tri M t (o + k * 3) (cs.drop k) := by
  obtain ⟨row, h1, h2, h3⟩ := h
  rw [triL_len] at h2 h3
  have hl : (cs.drop k).length = cs.length - k := by simp
  refine ⟨row, h1, by rw [triL_len, hl]; omega, ?_⟩
  rw [triL_len, hl, ← triL_drop, ← h3, List.drop_take, List.drop_drop]
  congr 1
  omega
theorem Tri.all {M : Mem} {t o n : Nat} {cs : List Cell} (h : Tri M t o cs) (hn : n = cs.length) : getCells M t o (n * 3) = some (triL cs) := by
  have := Has.all h
  rw [triL_len] at this; rw [hn]; exact this

theorem h_l2Own {x y z : Int} {t o : Nat} {cs : List Cell} {M : Mem} (h : Tri M t o cs) (hn : cs.length ≤ 1000000000) :
    CallsTo PG F.spec_l2Own [.agg [.I x, .I y, .I z, .ref t o cs.length]] M (.agg [.I x, .I y, .I z, .ref M.length 0 cs.length]) (M ++ [some (.row (triL cs) true 3)]) := by
  have ht := h.lt
  refine calls_run K.spec_l2Own rfl ?_
  simp (disch := omega) only [C.spec_l2Own, ↓SXd, SXu, slBounds, ↓sop, ↓aop, ↓reduceIte, LV.cells, AOp.dst, LV.I, LV.B, LV.U, LV.S, LV.nil, Nat.reduceEqDiff, Nat.reduceAdd, Nat.reduceMul, Nat.reduceSub, Nat.reduceLeDiff, Nat.reduceBEq, Nat.reduceDiv, Nat.reduceMod, Int.reduceToNat, Int.reduceLT, Int.reduceLE, Int.reduceAdd, Int.reduceSub, Int.reduceMul, Int.reduceEq, Int.reduceNeg, reduceCtorEq, resV, resAll, ARes.ev, LV.flat, ite_true, ite_false, exists_eq_left', exists_eq_left, keyOf, implies_true, fillC, capOf]
  rcases Nat.eq_zero_or_pos cs.length with h0 | h0
  · have hc : cs = [] := List.eq_nil_of_length_eq_zero h0
    subst hc
    simp (disch := omega) only [List.length_nil, ↓SXd, SXu, slBounds, ↓sop, ↓aop, ↓reduceIte, LV.cells, AOp.dst, LV.I, LV.B, LV.U, LV.S, LV.nil, Nat.reduceEqDiff, Nat.reduceAdd, Nat.reduceMul, Nat.reduceSub, Nat.reduceLeDiff, Nat.reduceBEq, Nat.reduceDiv, Nat.reduceMod, Int.reduceToNat, Int.reduceLT, Int.reduceLE, Int.reduceAdd, Int.reduceSub, Int.reduceMul, Int.reduceEq, Int.reduceNeg, reduceCtorEq, resV, resAll, ARes.ev, LV.flat, ite_true, ite_false, exists_eq_left', exists_eq_left, keyOf, implies_true, fillC, capOf]
    refine appendK_zero ?_
    simp (disch := omega) only [List.length_nil, ↓SXd, SXu, slBounds, ↓sop, ↓aop, ↓reduceIte, LV.cells, AOp.dst, LV.I, LV.B, LV.U, LV.S, LV.nil, Nat.reduceEqDiff, Nat.reduceAdd, Nat.reduceMul, Nat.reduceSub, Nat.reduceLeDiff, Nat.reduceBEq, Nat.reduceDiv, Nat.reduceMod, Int.reduceToNat, Int.reduceLT, Int.reduceLE, Int.reduceAdd, Int.reduceSub, Int.reduceMul, Int.reduceEq, Int.reduceNeg, reduceCtorEq, resV, resAll, ARes.ev, LV.flat, ite_true, ite_false, exists_eq_left', exists_eq_left, keyOf, implies_true, fillC, capOf]
    refine callK_of (h_l2Made (by simp)) ?_
    simp (disch := omega) only [splice, ↓SXd, SXu, slBounds, ↓sop, ↓aop, ↓reduceIte, LV.cells, AOp.dst, LV.I, LV.B, LV.U, LV.S, LV.nil, Nat.reduceEqDiff, Nat.reduceAdd, Nat.reduceMul, Nat.reduceSub, Nat.reduceLeDiff, Nat.reduceBEq, Nat.reduceDiv, Nat.reduceMod, Int.reduceToNat, Int.reduceLT, Int.reduceLE, Int.reduceAdd, Int.reduceSub, Int.reduceMul, Int.reduceEq, Int.reduceNeg, reduceCtorEq, resV, resAll, ARes.ev, LV.flat, ite_true, ite_false, exists_eq_left', exists_eq_left, keyOf, implies_true, fillC, capOf]
    exact cmp_keep1 (j := 2) rfl rfl (by simp [rn, rn0, rn1, keepR_n])
  · refine appendK_pos h0 (Tri.all h.app rfl) (by rw [at_j]; rfl) (by simp) ?_
    simp (disch := omega) only [List.length_append, ↓SXd, SXu, slBounds, ↓sop, ↓aop, ↓reduceIte, LV.cells, AOp.dst, LV.I, LV.B, LV.U, LV.S, LV.nil, Nat.reduceEqDiff, Nat.reduceAdd, Nat.reduceMul, Nat.reduceSub, Nat.reduceLeDiff, Nat.reduceBEq, Nat.reduceDiv, Nat.reduceMod, Int.reduceToNat, Int.reduceLT, Int.reduceLE, Int.reduceAdd, Int.reduceSub, Int.reduceMul, Int.reduceEq, Int.reduceNeg, reduceCtorEq, resV, resAll, ARes.ev, LV.flat, ite_true, ite_false, exists_eq_left', exists_eq_left, keyOf, implies_true, fillC, capOf]
    refine callK_of (h_l2Made (by simp)) ?_
    simp (disch := omega) only [splice, ↓SXd, SXu, slBounds, ↓sop, ↓aop, ↓reduceIte, LV.cells, AOp.dst, LV.I, LV.B, LV.U, LV.S, LV.nil, Nat.reduceEqDiff, Nat.reduceAdd, Nat.reduceMul, Nat.reduceSub, Nat.reduceLeDiff, Nat.reduceBEq, Nat.reduceDiv, Nat.reduceMod, Int.reduceToNat, Int.reduceLT, Int.reduceLE, Int.reduceAdd, Int.reduceSub, Int.reduceMul, Int.reduceEq, Int.reduceNeg, reduceCtorEq, resV, resAll, ARes.ev, LV.flat, ite_true, ite_false, exists_eq_left', exists_eq_left, keyOf, implies_true, fillC, capOf]
    exact cmp_keep1 (j := 3) rfl (triL_lo cs) (by simp [rn, rn0, rn1, keepR_n])

theorem with_pick {x y z : Int} {cs : List Cell} {c : Cell} {k : Nat} (hH : HeapOK x y z cs) (hc : c.inBox x y z) (hk : k ≤ cs.length) (hlo : ∀ j, j < k → (cs.getD j default).lt c) (hhi : k < cs.length → c.lt (cs.getD k default)) :
    cs.take k ++ (c :: cs.drop k) = pick x y z fun d => decide (d ∈ cs) || decide (d = c) := by
  have hs := hH.sorted
  have h1 : ∀ d ∈ cs.take k, d.lt c := fun d hd => by
    obtain ⟨j, hj, rfl⟩ := List.getElem_of_mem hd
    have hj' : j < k := by simp at hj; omega
    have := hlo j hj'
    simpa [show j < cs.length by omega] using this
  have h2 : ∀ d ∈ cs.drop k, c.lt d := fun d hd => by
    obtain ⟨j, hj, rfl⟩ := List.getElem_of_mem hd
    have hkl : k < cs.length := by simp at hj; omega
    have h3 := hhi hkl
    have hjl : k + j < cs.length := by simp at hj; omega
    rw [List.getElem_drop]
    rcases Nat.eq_zero_or_pos j with rfl | hj0
    · simpa [hkl] using h3
    · rw [List.pairwise_iff_getElem] at hs
      have := hs k (k + j) hkl hjl (by omega)
      refine Cell.lt_trans (b := cs[k]) ?_ this
      simpa [hkl] using h3
  refine sorted_ext ?_ (pick_sorted hH.1 _) fun d => ?_
  · rw [List.pairwise_append, List.pairwise_cons]
    refine ⟨hs.take, ⟨h2, hs.drop⟩, fun a ha b hb => ?_⟩
    rcases List.mem_cons.1 hb with rfl | hb
    · exact h1 a ha
    · exact Cell.lt_trans (h1 a ha) (h2 b hb)
  · rw [mem_pick hH.1]
    simp only [List.mem_append, List.mem_cons, Bool.or_eq_true, decide_eq_true_eq]
    constructor
    · rintro (h | rfl | h)
      · exact ⟨hH.mem (List.mem_of_mem_take h), .inl (List.mem_of_mem_take h)⟩
      · exact ⟨hc, .inr rfl⟩
      · exact ⟨hH.mem (List.mem_of_mem_drop h), .inl (List.mem_of_mem_drop h)⟩
    · rintro ⟨_, h | h⟩
      · rw [← List.take_append_drop k cs, List.mem_append] at h
        rcases h with h | h
        · exact .inl h
        · exact .inr (.inr h)
      · exact .inr (.inl h)

theorem h_l2With {x y z : Int} {c : Cell} {t : Nat} {w : Bool} {cs : List Cell} {M : Mem} (h : Live M t (.row (triL cs) w 3)) (hH : HeapOK x y z cs) (hc : c.inBox x y z) :
    CallsTo PG F.spec_l2With [.agg [.I x, .I y, .I z, .ref t 0 cs.length], .agg [.I c.a, .I c.b, .I c.c]] M (.agg [.I x, .I y, .I z, .ref M.length 0 (pick x y z fun d => decide (d ∈ cs) || decide (d = c)).length])
      (M ++ [some (.row (triL (pick x y z fun d => decide (d ∈ cs) || decide (d = c))) true 3)]) := by
  have hn := hH.len
  have hT : Tri M t 0 cs := h.has
  have ht := h.lt
  have hE : getEsz M t = some 3 := h.esz
  refine calls_run K.spec_l2With rfl ?_
  simp (disch := omega) only [C.spec_l2With, ↓SXd, SXu, slBounds, ↓sop, ↓aop, ↓reduceIte, LV.cells, AOp.dst, LV.I, LV.B, LV.U, LV.S, LV.nil, Nat.reduceEqDiff, Nat.reduceAdd, Nat.reduceMul, Nat.reduceSub, Nat.reduceLeDiff, Nat.reduceBEq, Nat.reduceDiv, Nat.reduceMod, Int.reduceToNat, Int.reduceLT, Int.reduceLE, Int.reduceAdd, Int.reduceSub, Int.reduceMul, Int.reduceEq, Int.reduceNeg, reduceCtorEq, resV, resAll, ARes.ev, LV.flat, ite_true, ite_false, exists_eq_left', exists_eq_left, keyOf, implies_true, fillC, capOf]
  refine ev_loop (fun m fr M' => ∃ k : Nat, k + m = cs.length ∧ M' = M ++ [some (Blk.row [.I x, .I y, .I z, .ref t 0 cs.length] true 0), some (Blk.row [.I c.a, .I c.b, .I c.c] true 0), some (Blk.row [.I 0, .I 0, .I 0, .nil] true 0)] ∧
    fr 2 = .ptr M.length 0 ∧ fr 3 = .ptr (M.length + 1) 0 ∧ fr 4 = .ptr (M.length + 2) 0 ∧ fr 5 = .I k ∧ ∀ j, j < k → (cs.getD j default).lt c) cs.length
    ⟨0, by omega, rfl, rfl, rfl, rfl, rfl, by omega⟩ ?_
  rintro m fr M' ⟨k, hk, rfl, f2, f3, f4, f5, hlo⟩
  have hgE : ∀ L : Mem, getEsz (M ++ L) t = some 3 := fun L => by rw [getEsz_app ht]; exact hE
  by_cases hkl : k < cs.length
  · simp (disch := omega) only [f2, f3, f4, f5, getCells_app, (h.tri0 hkl), Cell.row, ↓SXd, SXu, slBounds, ↓sop, ↓aop, ↓reduceIte, LV.cells, AOp.dst, LV.I, LV.B, LV.U, LV.S, LV.nil, Nat.reduceEqDiff, Nat.reduceAdd, Nat.reduceMul, Nat.reduceSub, Nat.reduceLeDiff, Nat.reduceBEq, Nat.reduceDiv, Nat.reduceMod, Int.reduceToNat, Int.reduceLT, Int.reduceLE, Int.reduceAdd, Int.reduceSub, Int.reduceMul, Int.reduceEq, Int.reduceNeg, reduceCtorEq, resV, resAll, ARes.ev, LV.flat, ite_true, ite_false, exists_eq_left', exists_eq_left, keyOf, implies_true, fillC, capOf]
    refine callK_of (h_l2Before) ?_
    simp (disch := omega) only [f2, f3, f4, f5, cell_eta, ↓SXd, SXu, slBounds, ↓sop, ↓aop, ↓reduceIte, LV.cells, AOp.dst, LV.I, LV.B, LV.U, LV.S, LV.nil, Nat.reduceEqDiff, Nat.reduceAdd, Nat.reduceMul, Nat.reduceSub, Nat.reduceLeDiff, Nat.reduceBEq, Nat.reduceDiv, Nat.reduceMod, Int.reduceToNat, Int.reduceLT, Int.reduceLE, Int.reduceAdd, Int.reduceSub, Int.reduceMul, Int.reduceEq, Int.reduceNeg, reduceCtorEq, resV, resAll, ARes.ev, LV.flat, ite_true, ite_false, exists_eq_left', exists_eq_left, keyOf, implies_true, fillC, capOf]
    refine condC_dec (fun hb => ?_) (fun hb => ?_)
    · simp (disch := omega) only [f2, f3, f4, f5, ↓SXd, SXu, slBounds, ↓sop, ↓aop, ↓reduceIte, LV.cells, AOp.dst, LV.I, LV.B, LV.U, LV.S, LV.nil, Nat.reduceEqDiff, Nat.reduceAdd, Nat.reduceMul, Nat.reduceSub, Nat.reduceLeDiff, Nat.reduceBEq, Nat.reduceDiv, Nat.reduceMod, Int.reduceToNat, Int.reduceLT, Int.reduceLE, Int.reduceAdd, Int.reduceSub, Int.reduceMul, Int.reduceEq, Int.reduceNeg, reduceCtorEq, resV, resAll, ARes.ev, LV.flat, ite_true, ite_false, exists_eq_left', exists_eq_left, keyOf, implies_true, fillC, capOf]
      exact ⟨m - 1, by omega, k + 1, by omega, rfl, f2, f3, f4, eqI (natI _), fun j hj => by
        rcases Nat.lt_or_ge j k with h1 | h1
        · exact hlo j h1
        · rw [show j = k by omega]; exact hb⟩
    · simp (disch := omega) only [f2, f3, f4, f5, getCells_app, (h.tri0 hkl), Cell.row, eqV, eqC, if_true, ite_true, Bool.and_true, ↓SXd, SXu, slBounds, ↓sop, ↓aop, ↓reduceIte, LV.cells, AOp.dst, LV.I, LV.B, LV.U, LV.S, LV.nil, Nat.reduceEqDiff, Nat.reduceAdd, Nat.reduceMul, Nat.reduceSub, Nat.reduceLeDiff, Nat.reduceBEq, Nat.reduceDiv, Nat.reduceMod, Int.reduceToNat, Int.reduceLT, Int.reduceLE, Int.reduceAdd, Int.reduceSub, Int.reduceMul, Int.reduceEq, Int.reduceNeg, reduceCtorEq, resV, resAll, ARes.ev, LV.flat, ite_true, ite_false, exists_eq_left', exists_eq_left, keyOf, implies_true, fillC, capOf]
      by_cases he : cs.getD k default = c
      · obtain ⟨e1, e2, e3⟩ := cell_eq.1 he
        simp (disch := omega) only [f2, f3, f4, f5, e1, e2, e3, beq_self_eq_true, Bool.and_self, ↓SXd, SXu, slBounds, ↓sop, ↓aop, ↓reduceIte, LV.cells, AOp.dst, LV.I, LV.B, LV.U, LV.S, LV.nil, Nat.reduceEqDiff, Nat.reduceAdd, Nat.reduceMul, Nat.reduceSub, Nat.reduceLeDiff, Nat.reduceBEq, Nat.reduceDiv, Nat.reduceMod, Int.reduceToNat, Int.reduceLT, Int.reduceLE, Int.reduceAdd, Int.reduceSub, Int.reduceMul, Int.reduceEq, Int.reduceNeg, reduceCtorEq, resV, resAll, ARes.ev, LV.flat, ite_true, ite_false, exists_eq_left', exists_eq_left, keyOf, implies_true, fillC, capOf]
        have hcm : c ∈ cs := by rw [← he]; exact getD_mem' hkl
        have hpe : pick x y z (fun d => decide (d ∈ cs) || decide (d = c)) = cs := by
          rw [pick_congr hH.1 (q := fun d => decide (d ∈ cs)) fun d _ => ?_]
          · exact hH.pick.symm
          · by_cases e : d = c
            · subst e; simp [hcm]
            · simp [e]
        rw [hpe]
        refine callK_of (h_l2Own hT.app (by omega)) ?_
        simp (disch := omega) only [f2, f3, f4, f5, splice, ↓SXd, SXu, slBounds, ↓sop, ↓aop, ↓reduceIte, LV.cells, AOp.dst, LV.I, LV.B, LV.U, LV.S, LV.nil, Nat.reduceEqDiff, Nat.reduceAdd, Nat.reduceMul, Nat.reduceSub, Nat.reduceLeDiff, Nat.reduceBEq, Nat.reduceDiv, Nat.reduceMod, Int.reduceToNat, Int.reduceLT, Int.reduceLE, Int.reduceAdd, Int.reduceSub, Int.reduceMul, Int.reduceEq, Int.reduceNeg, reduceCtorEq, resV, resAll, ARes.ev, LV.flat, ite_true, ite_false, exists_eq_left', exists_eq_left, keyOf, implies_true, fillC, capOf]
        exact cmp_keep1 (j := 3) rfl (triL_lo cs) (by simp [rn, rn0, rn1, keepR_n])
      · have hf : ((cs.getD k default).a == c.a && ((cs.getD k default).b == c.b && (cs.getD k default).c == c.c)) = false := by
          rw [Bool.eq_false_iff]
          intro e
          simp only [Bool.and_eq_true, beq_iff_eq] at e
          exact he (cell_eq.2 ⟨e.1, e.2.1, e.2.2⟩)
        have hwp := with_pick hH hc (k := k) (by omega) hlo (fun _ => ((Cell.lt_tri (cs.getD k default) c).resolve_left hb).resolve_left he)
        rw [← hwp]
        simp (disch := omega) only [f2, f3, f4, f5, hf, hgE, Nat.sub_zero, ↓SXd, SXu, slBounds, ↓sop, ↓aop, ↓reduceIte, LV.cells, AOp.dst, LV.I, LV.B, LV.U, LV.S, LV.nil, Nat.reduceEqDiff, Nat.reduceAdd, Nat.reduceMul, Nat.reduceSub, Nat.reduceLeDiff, Nat.reduceBEq, Nat.reduceDiv, Nat.reduceMod, Int.reduceToNat, Int.reduceLT, Int.reduceLE, Int.reduceAdd, Int.reduceSub, Int.reduceMul, Int.reduceEq, Int.reduceNeg, reduceCtorEq, resV, resAll, ARes.ev, LV.flat, ite_true, ite_false, exists_eq_left', exists_eq_left, keyOf, implies_true, fillC, capOf]
        have g1 : getCells M t 0 (k * 3) = some (triL (cs.take k)) := Tri.all (Tri.take hT (by omega)) (by simp; omega)
        have g2 : getCells M t (k * 3) ((cs.length - k) * 3) = some (triL (cs.drop k)) := by
          have := Tri.all (n := cs.length - k) (Tri.drop hT (k := k) (by omega)) (by simp)
          rwa [Nat.zero_add] at this
        have hT1 : (triL (cs.take k)).length = k * 3 := by rw [triL_len]; simp; omega
        have hat : ∀ L : Mem, (M ++ L)[t]? = M[t]? := fun L => List.getElem?_append_left ht
        rcases Nat.eq_zero_or_pos k with hk0 | hk0
        · subst hk0
          refine appendK_zero ?_
          simp (disch := omega) only [hat, ↓SXd, SXu, slBounds, ↓sop, ↓aop, ↓reduceIte, LV.cells, AOp.dst, LV.I, LV.B, LV.U, LV.S, LV.nil, Nat.reduceEqDiff, Nat.reduceAdd, Nat.reduceMul, Nat.reduceSub, Nat.reduceLeDiff, Nat.reduceBEq, Nat.reduceDiv, Nat.reduceMod, Int.reduceToNat, Int.reduceLT, Int.reduceLE, Int.reduceAdd, Int.reduceSub, Int.reduceMul, Int.reduceEq, Int.reduceNeg, reduceCtorEq, resV, resAll, ARes.ev, LV.flat, ite_true, ite_false, exists_eq_left', exists_eq_left, keyOf, implies_true, fillC, capOf]
          refine appendK_pos (by omega) (by rw [cells_j]; rfl) (by rw [at_j]; rfl) (by simp) ?_
          simp (disch := omega) only [hat, ↓SXd, SXu, slBounds, ↓sop, ↓aop, ↓reduceIte, LV.cells, AOp.dst, LV.I, LV.B, LV.U, LV.S, LV.nil, Nat.reduceEqDiff, Nat.reduceAdd, Nat.reduceMul, Nat.reduceSub, Nat.reduceLeDiff, Nat.reduceBEq, Nat.reduceDiv, Nat.reduceMod, Int.reduceToNat, Int.reduceLT, Int.reduceLE, Int.reduceAdd, Int.reduceSub, Int.reduceMul, Int.reduceEq, Int.reduceNeg, reduceCtorEq, resV, resAll, ARes.ev, LV.flat, ite_true, ite_false, exists_eq_left', exists_eq_left, keyOf, implies_true, fillC, capOf]
          refine appendK_pos (by omega) (by rw [getCells_app ht]; exact g2) (by rw [at_j]; rfl) (by simp) ?_
          simp (disch := omega) only [List.length_append, List.length_set, hat, ↓SXd, SXu, slBounds, ↓sop, ↓aop, ↓reduceIte, LV.cells, AOp.dst, LV.I, LV.B, LV.U, LV.S, LV.nil, Nat.reduceEqDiff, Nat.reduceAdd, Nat.reduceMul, Nat.reduceSub, Nat.reduceLeDiff, Nat.reduceBEq, Nat.reduceDiv, Nat.reduceMod, Int.reduceToNat, Int.reduceLT, Int.reduceLE, Int.reduceAdd, Int.reduceSub, Int.reduceMul, Int.reduceEq, Int.reduceNeg, reduceCtorEq, resV, resAll, ARes.ev, LV.flat, ite_true, ite_false, exists_eq_left', exists_eq_left, keyOf, implies_true, fillC, capOf]
          refine callK_of (h_l2Made (by simp)) ?_
          simp (disch := omega) only [splice, ↓SXd, SXu, slBounds, ↓sop, ↓aop, ↓reduceIte, LV.cells, AOp.dst, LV.I, LV.B, LV.U, LV.S, LV.nil, Nat.reduceEqDiff, Nat.reduceAdd, Nat.reduceMul, Nat.reduceSub, Nat.reduceLeDiff, Nat.reduceBEq, Nat.reduceDiv, Nat.reduceMod, Int.reduceToNat, Int.reduceLT, Int.reduceLE, Int.reduceAdd, Int.reduceSub, Int.reduceMul, Int.reduceEq, Int.reduceNeg, reduceCtorEq, resV, resAll, ARes.ev, LV.flat, ite_true, ite_false, exists_eq_left', exists_eq_left, keyOf, implies_true, fillC, capOf]
          simp (disch := omega) only [f4, splice, hat, ↓SXd, SXu, slBounds, ↓sop, ↓aop, ↓reduceIte, LV.cells, AOp.dst, LV.I, LV.B, LV.U, LV.S, LV.nil, Nat.reduceEqDiff, Nat.reduceAdd, Nat.reduceMul, Nat.reduceSub, Nat.reduceLeDiff, Nat.reduceBEq, Nat.reduceDiv, Nat.reduceMod, Int.reduceToNat, Int.reduceLT, Int.reduceLE, Int.reduceAdd, Int.reduceSub, Int.reduceMul, Int.reduceEq, Int.reduceNeg, reduceCtorEq, resV, resAll, ARes.ev, LV.flat, ite_true, ite_false, exists_eq_left', exists_eq_left, keyOf, implies_true, fillC, capOf]
          rw [show (LV.val (.int .i64 c.a) :: LV.val (.int .i64 c.b) :: LV.val (.int .i64 c.c) :: triL cs) = triL (List.take 0 cs ++ c :: List.drop 0 cs) by simp [triL, Cell.row], show 1 + (cs.length - 0) = (List.take 0 cs ++ c :: List.drop 0 cs).length by simp; omega]
          exact cmp_keep1 (j := 6) rfl (triL_lo _) (by simp [rn, rn0, rn1, keepR_n])
        · refine appendK_pos hk0 (by rw [getCells_app ht]; exact g1) (by rw [at_j]; rfl) (by simp) ?_
          simp (disch := omega) only [hat, ↓SXd, SXu, slBounds, ↓sop, ↓aop, ↓reduceIte, LV.cells, AOp.dst, LV.I, LV.B, LV.U, LV.S, LV.nil, Nat.reduceEqDiff, Nat.reduceAdd, Nat.reduceMul, Nat.reduceSub, Nat.reduceLeDiff, Nat.reduceBEq, Nat.reduceDiv, Nat.reduceMod, Int.reduceToNat, Int.reduceLT, Int.reduceLE, Int.reduceAdd, Int.reduceSub, Int.reduceMul, Int.reduceEq, Int.reduceNeg, reduceCtorEq, resV, resAll, ARes.ev, LV.flat, ite_true, ite_false, exists_eq_left', exists_eq_left, keyOf, implies_true, fillC, capOf]
          refine appendK_pos (by omega) (by rw [cells_j]; rfl) (by rw [at_j]; rfl) (by simp [hT1]) ?_
          simp (disch := omega) only [hat, ↓SXd, SXu, slBounds, ↓sop, ↓aop, ↓reduceIte, LV.cells, AOp.dst, LV.I, LV.B, LV.U, LV.S, LV.nil, Nat.reduceEqDiff, Nat.reduceAdd, Nat.reduceMul, Nat.reduceSub, Nat.reduceLeDiff, Nat.reduceBEq, Nat.reduceDiv, Nat.reduceMod, Int.reduceToNat, Int.reduceLT, Int.reduceLE, Int.reduceAdd, Int.reduceSub, Int.reduceMul, Int.reduceEq, Int.reduceNeg, reduceCtorEq, resV, resAll, ARes.ev, LV.flat, ite_true, ite_false, exists_eq_left', exists_eq_left, keyOf, implies_true, fillC, capOf]
          refine appendK_pos (by omega) (by rw [getCells_app ht]; exact g2) (by rw [at_j]; rfl) (by simp [hT1]; omega) ?_
          simp (disch := omega) only [hat, ↓SXd, SXu, slBounds, ↓sop, ↓aop, ↓reduceIte, LV.cells, AOp.dst, LV.I, LV.B, LV.U, LV.S, LV.nil, Nat.reduceEqDiff, Nat.reduceAdd, Nat.reduceMul, Nat.reduceSub, Nat.reduceLeDiff, Nat.reduceBEq, Nat.reduceDiv, Nat.reduceMod, Int.reduceToNat, Int.reduceLT, Int.reduceLE, Int.reduceAdd, Int.reduceSub, Int.reduceMul, Int.reduceEq, Int.reduceNeg, reduceCtorEq, resV, resAll, ARes.ev, LV.flat, ite_true, ite_false, exists_eq_left', exists_eq_left, keyOf, implies_true, fillC, capOf]
          refine callK_of (h_l2Made (by simp)) ?_
          simp (disch := omega) only [splice, ↓SXd, SXu, slBounds, ↓sop, ↓aop, ↓reduceIte, LV.cells, AOp.dst, LV.I, LV.B, LV.U, LV.S, LV.nil, Nat.reduceEqDiff, Nat.reduceAdd, Nat.reduceMul, Nat.reduceSub, Nat.reduceLeDiff, Nat.reduceBEq, Nat.reduceDiv, Nat.reduceMod, Int.reduceToNat, Int.reduceLT, Int.reduceLE, Int.reduceAdd, Int.reduceSub, Int.reduceMul, Int.reduceEq, Int.reduceNeg, reduceCtorEq, resV, resAll, ARes.ev, LV.flat, ite_true, ite_false, exists_eq_left', exists_eq_left, keyOf, implies_true, fillC, capOf]
          simp (disch := omega) only [f4, splice, hat, ↓SXd, SXu, slBounds, ↓sop, ↓aop, ↓reduceIte, LV.cells, AOp.dst, LV.I, LV.B, LV.U, LV.S, LV.nil, Nat.reduceEqDiff, Nat.reduceAdd, Nat.reduceMul, Nat.reduceSub, Nat.reduceLeDiff, Nat.reduceBEq, Nat.reduceDiv, Nat.reduceMod, Int.reduceToNat, Int.reduceLT, Int.reduceLE, Int.reduceAdd, Int.reduceSub, Int.reduceMul, Int.reduceEq, Int.reduceNeg, reduceCtorEq, resV, resAll, ARes.ev, LV.flat, ite_true, ite_false, exists_eq_left', exists_eq_left, keyOf, implies_true, fillC, capOf]
          rw [show List.take ((k + 1) * 3) (List.take (k * 3) (triL (List.take k cs)) ++ [LV.val (.int .i64 c.a), LV.val (.int .i64 c.b), LV.val (.int .i64 c.c)]) ++ triL (List.drop k cs) = triL (List.take k cs ++ c :: List.drop k cs) by
            rw [List.take_of_length_le (by simp [hT1]; omega), List.take_of_length_le (by omega)]
            simp [triL, Cell.row], show k + 1 + (cs.length - k) = (List.take k cs ++ c :: List.drop k cs).length by simp; omega]
          exact cmp_keep1 (j := 7) rfl (triL_lo _) (by simp [rn, rn0, rn1, keepR_n])
  · have hkn : k = cs.length := by omega
    have hwp := with_pick hH hc (k := k) (by omega) hlo (fun h => absurd h hkl)
    rw [← hwp]
    have hat : ∀ L : Mem, (M ++ L)[t]? = M[t]? := fun L => List.getElem?_append_left ht
    have g1 : getCells M t 0 (k * 3) = some (triL (cs.take k)) := Tri.all (Tri.take hT (by omega)) (by simp; omega)
    have hT1 : (triL (cs.take k)).length = k * 3 := by rw [triL_len]; simp; omega
    have hz : cs.length - k = 0 := by omega
    simp (disch := omega) only [f2, f3, f4, f5, hgE, Nat.sub_zero, hz, ↓SXd, SXu, slBounds, ↓sop, ↓aop, ↓reduceIte, LV.cells, AOp.dst, LV.I, LV.B, LV.U, LV.S, LV.nil, Nat.reduceEqDiff, Nat.reduceAdd, Nat.reduceMul, Nat.reduceSub, Nat.reduceLeDiff, Nat.reduceBEq, Nat.reduceDiv, Nat.reduceMod, Int.reduceToNat, Int.reduceLT, Int.reduceLE, Int.reduceAdd, Int.reduceSub, Int.reduceMul, Int.reduceEq, Int.reduceNeg, reduceCtorEq, resV, resAll, ARes.ev, LV.flat, ite_true, ite_false, exists_eq_left', exists_eq_left, keyOf, implies_true, fillC, capOf]
    rcases Nat.eq_zero_or_pos k with hk0 | hk0
    · subst hk0
      refine appendK_zero ?_
      simp (disch := omega) only [hat, ↓SXd, SXu, slBounds, ↓sop, ↓aop, ↓reduceIte, LV.cells, AOp.dst, LV.I, LV.B, LV.U, LV.S, LV.nil, Nat.reduceEqDiff, Nat.reduceAdd, Nat.reduceMul, Nat.reduceSub, Nat.reduceLeDiff, Nat.reduceBEq, Nat.reduceDiv, Nat.reduceMod, Int.reduceToNat, Int.reduceLT, Int.reduceLE, Int.reduceAdd, Int.reduceSub, Int.reduceMul, Int.reduceEq, Int.reduceNeg, reduceCtorEq, resV, resAll, ARes.ev, LV.flat, ite_true, ite_false, exists_eq_left', exists_eq_left, keyOf, implies_true, fillC, capOf]
      refine appendK_pos (by omega) (by rw [cells_j]; rfl) (by rw [at_j]; rfl) (by simp) ?_
      simp (disch := omega) only [hat, ↓SXd, SXu, slBounds, ↓sop, ↓aop, ↓reduceIte, LV.cells, AOp.dst, LV.I, LV.B, LV.U, LV.S, LV.nil, Nat.reduceEqDiff, Nat.reduceAdd, Nat.reduceMul, Nat.reduceSub, Nat.reduceLeDiff, Nat.reduceBEq, Nat.reduceDiv, Nat.reduceMod, Int.reduceToNat, Int.reduceLT, Int.reduceLE, Int.reduceAdd, Int.reduceSub, Int.reduceMul, Int.reduceEq, Int.reduceNeg, reduceCtorEq, resV, resAll, ARes.ev, LV.flat, ite_true, ite_false, exists_eq_left', exists_eq_left, keyOf, implies_true, fillC, capOf]
      refine appendK_zero ?_
      simp (disch := omega) only [List.length_append, List.length_set, hat, ↓SXd, SXu, slBounds, ↓sop, ↓aop, ↓reduceIte, LV.cells, AOp.dst, LV.I, LV.B, LV.U, LV.S, LV.nil, Nat.reduceEqDiff, Nat.reduceAdd, Nat.reduceMul, Nat.reduceSub, Nat.reduceLeDiff, Nat.reduceBEq, Nat.reduceDiv, Nat.reduceMod, Int.reduceToNat, Int.reduceLT, Int.reduceLE, Int.reduceAdd, Int.reduceSub, Int.reduceMul, Int.reduceEq, Int.reduceNeg, reduceCtorEq, resV, resAll, ARes.ev, LV.flat, ite_true, ite_false, exists_eq_left', exists_eq_left, keyOf, implies_true, fillC, capOf]
      refine callK_of (h_l2Made (by simp)) ?_
      simp (disch := omega) only [splice, ↓SXd, SXu, slBounds, ↓sop, ↓aop, ↓reduceIte, LV.cells, AOp.dst, LV.I, LV.B, LV.U, LV.S, LV.nil, Nat.reduceEqDiff, Nat.reduceAdd, Nat.reduceMul, Nat.reduceSub, Nat.reduceLeDiff, Nat.reduceBEq, Nat.reduceDiv, Nat.reduceMod, Int.reduceToNat, Int.reduceLT, Int.reduceLE, Int.reduceAdd, Int.reduceSub, Int.reduceMul, Int.reduceEq, Int.reduceNeg, reduceCtorEq, resV, resAll, ARes.ev, LV.flat, ite_true, ite_false, exists_eq_left', exists_eq_left, keyOf, implies_true, fillC, capOf]
      simp (disch := omega) only [f4, splice, hat, ↓SXd, SXu, slBounds, ↓sop, ↓aop, ↓reduceIte, LV.cells, AOp.dst, LV.I, LV.B, LV.U, LV.S, LV.nil, Nat.reduceEqDiff, Nat.reduceAdd, Nat.reduceMul, Nat.reduceSub, Nat.reduceLeDiff, Nat.reduceBEq, Nat.reduceDiv, Nat.reduceMod, Int.reduceToNat, Int.reduceLT, Int.reduceLE, Int.reduceAdd, Int.reduceSub, Int.reduceMul, Int.reduceEq, Int.reduceNeg, reduceCtorEq, resV, resAll, ARes.ev, LV.flat, ite_true, ite_false, exists_eq_left', exists_eq_left, keyOf, implies_true, fillC, capOf]
      have hnil : cs = [] := List.eq_nil_of_length_eq_zero (by omega)
      subst hnil
      exact cmp_keep1 (j := 5) (cs := triL [c]) rfl (triL_lo _) (by simp [rn, rn0, rn1, keepR_n])
    · refine appendK_pos hk0 (by rw [getCells_app ht]; exact g1) (by rw [at_j]; rfl) (by simp) ?_
      simp (disch := omega) only [hat, ↓SXd, SXu, slBounds, ↓sop, ↓aop, ↓reduceIte, LV.cells, AOp.dst, LV.I, LV.B, LV.U, LV.S, LV.nil, Nat.reduceEqDiff, Nat.reduceAdd, Nat.reduceMul, Nat.reduceSub, Nat.reduceLeDiff, Nat.reduceBEq, Nat.reduceDiv, Nat.reduceMod, Int.reduceToNat, Int.reduceLT, Int.reduceLE, Int.reduceAdd, Int.reduceSub, Int.reduceMul, Int.reduceEq, Int.reduceNeg, reduceCtorEq, resV, resAll, ARes.ev, LV.flat, ite_true, ite_false, exists_eq_left', exists_eq_left, keyOf, implies_true, fillC, capOf]
      refine appendK_pos (by omega) (by rw [cells_j]; rfl) (by rw [at_j]; rfl) (by simp [hT1]) ?_
      simp (disch := omega) only [hat, ↓SXd, SXu, slBounds, ↓sop, ↓aop, ↓reduceIte, LV.cells, AOp.dst, LV.I, LV.B, LV.U, LV.S, LV.nil, Nat.reduceEqDiff, Nat.reduceAdd, Nat.reduceMul, Nat.reduceSub, Nat.reduceLeDiff, Nat.reduceBEq, Nat.reduceDiv, Nat.reduceMod, Int.reduceToNat, Int.reduceLT, Int.reduceLE, Int.reduceAdd, Int.reduceSub, Int.reduceMul, Int.reduceEq, Int.reduceNeg, reduceCtorEq, resV, resAll, ARes.ev, LV.flat, ite_true, ite_false, exists_eq_left', exists_eq_left, keyOf, implies_true, fillC, capOf]
      refine appendK_zero ?_
      simp (disch := omega) only [hat, ↓SXd, SXu, slBounds, ↓sop, ↓aop, ↓reduceIte, LV.cells, AOp.dst, LV.I, LV.B, LV.U, LV.S, LV.nil, Nat.reduceEqDiff, Nat.reduceAdd, Nat.reduceMul, Nat.reduceSub, Nat.reduceLeDiff, Nat.reduceBEq, Nat.reduceDiv, Nat.reduceMod, Int.reduceToNat, Int.reduceLT, Int.reduceLE, Int.reduceAdd, Int.reduceSub, Int.reduceMul, Int.reduceEq, Int.reduceNeg, reduceCtorEq, resV, resAll, ARes.ev, LV.flat, ite_true, ite_false, exists_eq_left', exists_eq_left, keyOf, implies_true, fillC, capOf]
      refine callK_of (h_l2Made (by simp)) ?_
      simp (disch := omega) only [splice, ↓SXd, SXu, slBounds, ↓sop, ↓aop, ↓reduceIte, LV.cells, AOp.dst, LV.I, LV.B, LV.U, LV.S, LV.nil, Nat.reduceEqDiff, Nat.reduceAdd, Nat.reduceMul, Nat.reduceSub, Nat.reduceLeDiff, Nat.reduceBEq, Nat.reduceDiv, Nat.reduceMod, Int.reduceToNat, Int.reduceLT, Int.reduceLE, Int.reduceAdd, Int.reduceSub, Int.reduceMul, Int.reduceEq, Int.reduceNeg, reduceCtorEq, resV, resAll, ARes.ev, LV.flat, ite_true, ite_false, exists_eq_left', exists_eq_left, keyOf, implies_true, fillC, capOf]
      simp (disch := omega) only [f4, splice, hat, ↓SXd, SXu, slBounds, ↓sop, ↓aop, ↓reduceIte, LV.cells, AOp.dst, LV.I, LV.B, LV.U, LV.S, LV.nil, Nat.reduceEqDiff, Nat.reduceAdd, Nat.reduceMul, Nat.reduceSub, Nat.reduceLeDiff, Nat.reduceBEq, Nat.reduceDiv, Nat.reduceMod, Int.reduceToNat, Int.reduceLT, Int.reduceLE, Int.reduceAdd, Int.reduceSub, Int.reduceMul, Int.reduceEq, Int.reduceNeg, reduceCtorEq, resV, resAll, ARes.ev, LV.flat, ite_true, ite_false, exists_eq_left', exists_eq_left, keyOf, implies_true, fillC, capOf]
      rw [show List.take (k * 3) (triL (List.take k cs)) ++ [LV.val (.int .i64 c.a), LV.val (.int .i64 c.b), LV.val (.int .i64 c.c)] = triL (List.take k cs ++ c :: List.drop k cs) by
        rw [List.take_of_length_le (by omega), hkn]
        simp [triL, Cell.row], show k + 1 = (List.take k cs ++ c :: List.drop k cs).length by simp; omega]
      exact cmp_keep1 (j := 6) rfl (triL_lo _) (by simp [rn, rn0, rn1, keepR_n])
end Go.Ab

namespace Go.Ab

inductive Reach (x y z : Int) (p q : Cell → Bool) : Cell → Prop
  | base {c : Cell} : c.inBox x y z → p c = true → Reach x y z p q c
  | step {c d : Cell} : Reach x y z p q c → apart c d = 1 → d.inBox x y z → q d = true → Reach x y z p q d
noncomputable def reach (x y z : Int) (p q : Cell → Bool) : Cell → Bool := fun c => @decide (Reach x y z p q c) (Classical.propDecidable _)
theorem reach_iff {x y z : Int} {p q : Cell → Bool} {c : Cell} : reach x y z p q c = true ↔ Reach x y z p q c := by
  unfold reach; exact @decide_eq_true_iff _ (Classical.propDecidable _)
theorem Reach.inBox {x y z : Int} {p q : Cell → Bool} {c : Cell} (h : Reach x y z p q c) : c.inBox x y z := by
  cases h <;> assumption
theorem Reach.mono {x y z : Int} {p q p' q' : Cell → Bool} (hp : ∀ c, c.inBox x y z → p c = true → Reach x y z p' q' c) (hq : ∀ c, c.inBox x y z → q c = true → q' c = true) {c : Cell} (h : Reach x y z p q c) : Reach x y z p' q' c := by
  induction h with
  | base h1 h2 => exact hp _ h1 h2
  | step _ h2 h3 h4 ih => exact .step ih h2 h3 (hq _ h3 h4)
theorem Reach.ind {x y z : Int} {p q : Cell → Bool} {P : Cell → Prop} (h0 : ∀ c, c.inBox x y z → p c = true → P c) (h1 : ∀ c d, P c → apart c d = 1 → d.inBox x y z → q d = true → P d) {c : Cell} (h : Reach x y z p q c) : P c := by
  induction h with
  | base h2 h3 => exact h0 _ h2 h3
  | step _ h2 h3 h4 ih => exact h1 _ _ ih h2 h3 h4
theorem apart_comm (c d : Cell) : apart c d = apart d c := by unfold apart; omega

noncomputable def growK (y z : Int) (p q : Cell → Bool) (k : Nat) : Cell → Bool := by
  classical
  exact fun c => p c || (q c && decide (∃ j, j < k ∧ p (cellAt y z j) = true ∧ apart (cellAt y z j) c = 1))
theorem growK_iff {y z : Int} {p q : Cell → Bool} {k : Nat} {c : Cell} : growK y z p q k c = true ↔ p c = true ∨ (q c = true ∧ ∃ j, j < k ∧ p (cellAt y z j) = true ∧ apart (cellAt y z j) c = 1) := by
  unfold growK
  simp only [Bool.or_eq_true, Bool.and_eq_true, decide_eq_true_eq]
theorem growK_zero {y z : Int} {p q : Cell → Bool} : growK y z p q 0 = p := by
  funext c
  have := growK_iff (y := y) (z := z) (p := p) (q := q) (k := 0) (c := c)
  cases hp : p c <;> simp_all
theorem growK_succ {y z : Int} {p q : Cell → Bool} {k : Nat} (c : Cell) : growK y z p q (k + 1) c = if p (cellAt y z k) then (growK y z p q k c || (decide (apart (cellAt y z k) c = 1) && q c)) else growK y z p q k c := by
  have h1 := growK_iff (y := y) (z := z) (p := p) (q := q) (k := k) (c := c)
  have h2 := growK_iff (y := y) (z := z) (p := p) (q := q) (k := k + 1) (c := c)
  split
  · rename_i hp
    rw [Bool.eq_iff_iff, h2, Bool.or_eq_true, h1, Bool.and_eq_true, decide_eq_true_eq]
    constructor
    · rintro (h | ⟨hq, j, hj, h3, h4⟩)
      · exact .inl (.inl h)
      · rcases Nat.lt_or_ge j k with h5 | h5
        · exact .inl (.inr ⟨hq, j, h5, h3, h4⟩)
        · rw [show j = k by omega] at h4; exact .inr ⟨h4, hq⟩
    · rintro ((h | ⟨hq, j, hj, h3, h4⟩) | ⟨h4, hq⟩)
      · exact .inl h
      · exact .inr ⟨hq, j, by omega, h3, h4⟩
      · exact .inr ⟨hq, k, by omega, hp, h4⟩
  · rename_i hp
    rw [Bool.eq_iff_iff, h2, h1]
    constructor
    · rintro (h | ⟨hq, j, hj, h3, h4⟩)
      · exact .inl h
      · rcases Nat.lt_or_ge j k with h5 | h5
        · exact .inr ⟨hq, j, h5, h3, h4⟩
        · rw [show j = k by omega] at h3; exact absurd h3 hp
    · rintro (h | ⟨hq, j, hj, h3, h4⟩)
      · exact .inl h
      · exact .inr ⟨hq, j, by omega, h3, h4⟩

section
variable {x y z : Int} (hS : Sides x y z)
include hS
theorem grow_iff {p q : Cell → Bool} {c : Cell} : growK y z p q (vol x y z) c = true ↔ p c = true ∨ (q c = true ∧ ∃ d, d.inBox x y z ∧ p d = true ∧ apart d c = 1) := by
  have hv := vol_cast hS
  rw [growK_iff]
  constructor
  · rintro (h | ⟨h1, j, h2, h3, h4⟩)
    · exact .inl h
    · exact .inr ⟨h1, _, (cellAt_in hS (by omega) (by omega)).1, h3, h4⟩
  · rintro (h | ⟨h1, d, h2, h3, h4⟩)
    · exact .inl h
    · obtain ⟨k1, k2, k3⟩ := idx_in hS h2
      refine .inr ⟨h1, (idx y z d).toNat, by omega, ?_, ?_⟩
      · rw [Int.toNat_of_nonneg k1, k3]; exact h3
      · rw [Int.toNat_of_nonneg k1, k3]; exact h4
def rest (x y z : Int) (p : Cell → Bool) : Nat := (pick x y z fun c => !p c).length
theorem filter_lt {α : Type} {l : List α} {p q : α → Bool} (h : ∀ a ∈ l, p a = true → q a = true) (hx : ∃ a ∈ l, q a = true ∧ p a = false) : (l.filter p).length < (l.filter q).length := by
  induction l with
  | nil => obtain ⟨a, ha, _⟩ := hx; cases ha
  | cons a l ih =>
    have hle : (l.filter p).length ≤ (l.filter q).length := by
      clear ih hx
      induction l with
      | nil => exact Nat.le_refl _
      | cons b l ih =>
        have := ih fun c hc => h c (by simp only [List.mem_cons] at hc ⊢; rcases hc with h | h <;> simp [h])
        by_cases hb : p b = true
        · rw [List.filter_cons_of_pos hb, List.filter_cons_of_pos (h b (by simp) hb)]; simpa using this
        · rw [List.filter_cons_of_neg hb]
          by_cases hq : q b = true
          · rw [List.filter_cons_of_pos hq, List.length_cons]; omega
          · rw [List.filter_cons_of_neg hq]; exact this
    by_cases ha : p a = true
    · have := ih (fun b hb => h b (by simp [hb])) (by
        obtain ⟨b, hb, h1, h2⟩ := hx
        rcases List.mem_cons.1 hb with rfl | hb
        · rw [ha] at h2; cases h2
        · exact ⟨b, hb, h1, h2⟩)
      rw [List.filter_cons_of_pos ha, List.filter_cons_of_pos (h a (by simp) ha), List.length_cons, List.length_cons]; omega
    · rw [List.filter_cons_of_neg ha]
      by_cases hq : q a = true
      · rw [List.filter_cons_of_pos hq, List.length_cons]; omega
      · rw [List.filter_cons_of_neg hq]
        exact ih (fun b hb => h b (by simp [hb])) (by
          obtain ⟨b, hb, h1, h2⟩ := hx
          rcases List.mem_cons.1 hb with rfl | hb
          · exact absurd h1 hq
          · exact ⟨b, hb, h1, h2⟩)
theorem rest_lt {p p' : Cell → Bool} (h : ∀ c, c.inBox x y z → p c = true → p' c = true) (hx : ∃ c, c.inBox x y z ∧ p c = false ∧ p' c = true) : rest x y z p' < rest x y z p := by
  unfold rest pick
  refine filter_lt hS (fun c hc hp => ?_) ?_
  · cases hh : p c with
    | false => rfl
    | true => rw [h c ((mem_cellsOf hS).1 hc) hh] at hp; cases hp
  · obtain ⟨c, h1, h2, h3⟩ := hx
    exact ⟨c, (mem_cellsOf hS).2 h1, by rw [h2]; rfl, by rw [h3]; rfl⟩
theorem reach_of_fix {p q r : Cell → Bool} (h0 : ∀ c, c.inBox x y z → p c = true → r c = true) (h1 : ∀ c, c.inBox x y z → r c = true → Reach x y z p q c) (h2 : ∀ c, c.inBox x y z → growK y z r q (vol x y z) c = r c) :
    ∀ c, c.inBox x y z → r c = reach x y z p q c := by
  intro c hc
  rw [Bool.eq_iff_iff, reach_iff]
  refine ⟨h1 c hc, fun h => ?_⟩
  have : r c = true := by
    refine h.ind (P := fun c => c.inBox x y z ∧ r c = true) (fun c h3 h4 => ⟨h3, h0 c h3 h4⟩) (fun c d ⟨h3, h4⟩ h5 h6 h7 => ⟨h6, ?_⟩) |>.2
    rw [← h2 d h6]
    exact (grow_iff hS).2 (.inr ⟨h7, c, h3, h4, h5⟩)
  exact this
end
end Go.Ab

namespace Go.Ab
open Go

noncomputable def parts (x y z : Int) : Nat → (Cell → Bool) → List (List Cell)
  | 0, _ => []
  | f + 1, q => match pick x y z q with
    | [] => []
    | c :: _ => pick x y z (reach x y z (fun d => decide (d = c)) q) :: parts x y z f fun d => q d && !reach x y z (fun d => decide (d = c)) q d

def Css (N : Mem) (lo hi : Nat) : List LV → List (List Cell) → Prop
  | [], [] => True
  | r :: rs, l :: ls => ∃ u, lo ≤ u ∧ u < hi ∧ r = .ref u 0 l.length ∧ Live N u (.row (triL l) true 3) ∧ Css N (u + 1) hi rs ls
  | _, _ => False

theorem Css.len {N : Mem} {hi : Nat} : ∀ {lo : Nat} {rs : List LV} {ls : List (List Cell)}, Css N lo hi rs ls → rs.length = ls.length
  | _, [], [], _ => rfl
  | _, [], _ :: _, h => h.elim
  | _, _ :: _, [], h => h.elim
  | _, r :: rs, l :: ls, ⟨u, _, _, _, _, h⟩ => by simp [Css.len h]
theorem Css.mono {N N' : Mem} {hi hi' : Nat} (hh : hi ≤ hi') : ∀ {lo lo' : Nat} {rs : List LV} {ls : List (List Cell)}, lo' ≤ lo → (∀ u l, lo ≤ u → u < hi → Live N u (.row (triL l) true 3) → Live N' u (.row (triL l) true 3)) → Css N lo hi rs ls → Css N' lo' hi' rs ls
  | _, _, [], [], _, _, _ => trivial
  | _, _, [], _ :: _, _, _, h => h.elim
  | _, _, _ :: _, [], _, _, h => h.elim
  | lo, lo', r :: rs, l :: ls, hl, hk, ⟨u, h1, h2, h3, h4, h5⟩ => ⟨u, by omega, by omega, h3, hk u l h1 h2 h4, h5.mono hh (Nat.le_refl _) fun v l h6 h7 => hk v l (by omega) h7⟩
theorem Css.snoc {N : Mem} {hi hi' u : Nat} {l : List Cell} (hu : hi ≤ u) (hu' : u < hi') (hL : Live N u (.row (triL l) true 3)) : ∀ {lo : Nat} {rs : List LV} {ls : List (List Cell)}, lo ≤ u → Css N lo hi rs ls → Css N lo hi' (rs ++ [.ref u 0 l.length]) (ls ++ [l])
  | _, [], [], hl, _ => ⟨u, hl, hu', rfl, hL, trivial⟩
  | _, [], _ :: _, _, h => h.elim
  | _, _ :: _, [], _, h => h.elim
  | lo, r :: rs, m :: ls, hl, ⟨v, h1, h2, h3, h4, h5⟩ => ⟨v, h1, by omega, h3, h4, h5.snoc hu hu' hL (by omega)⟩
theorem Css.get {N : Mem} {hi : Nat} : ∀ {lo k : Nat} {rs : List LV} {ls : List (List Cell)}, Css N lo hi rs ls → k < ls.length → ∃ u, lo ≤ u ∧ u < hi ∧ rs[k]? = some (.ref u 0 (ls.getD k []).length) ∧ Live N u (.row (triL (ls.getD k [])) true 3)
  | _, k, [], [], _, hk => by simp at hk
  | _, _, [], _ :: _, h, _ => h.elim
  | _, _, _ :: _, [], h, _ => h.elim
  | lo, 0, r :: rs, l :: ls, ⟨u, h1, h2, h3, h4, _⟩, _ => ⟨u, h1, h2, by rw [h3]; rfl, h4⟩
  | lo, k + 1, r :: rs, l :: ls, ⟨u, h1, h2, h3, h4, h5⟩, hk => by
    obtain ⟨v, k1, k2, k3, k4⟩ := h5.get (k := k) (by simpa using hk)
    exact ⟨v, by omega, k2, by simpa using k3, k4⟩
theorem Css.keep {M M' : Mem} {lo hi t : Nat} {rs : List LV} {ls : List (List Cell)} (h : Css M lo hi rs ls) (ht : (hi ≤ t ∨ t < lo) ∨ ∃ cs w e, Live M t (.row cs w e) ∧ e ≠ 3) (hu : ∀ u, u ≠ t → u < M.length → M'[u]? = M[u]?) : Css M' lo hi rs ls :=
  h.mono (Nat.le_refl _) (Nat.le_refl _) fun u l h1 h2 hL => by
    refine live_step hL (fun e => ?_) hu
    subst e
    rcases ht with h3 | ⟨cs, w, e, h3, h4⟩
    · omega
    · unfold Live at hL h3; rw [hL] at h3; cases h3; exact h4 rfl
theorem Css.pre {M N : Mem} {lo hi : Nat} {rs : List LV} {ls : List (List Cell)} (h : Css M lo hi rs ls) (hp : Pre M N) : Css N lo hi rs ls := h.mono (Nat.le_refl _) (Nat.le_refl _) fun _ _ _ _ hL => hL.pre hp

theorem pick_take_step {x y z : Int} (hS : Sides x y z) {cs : List Cell} {k : Nat} (hk : k < cs.length) : pick x y z (fun d => decide (d ∈ pick x y z fun d => decide (d ∈ cs.take k)) || decide (d = cs.getD k default)) = pick x y z fun d => decide (d ∈ cs.take (k + 1)) :=
  pick_congr hS fun d hd => by
    rw [← take_dec hk]
    congr 1
    exact decide_eq_decide.2 ⟨fun h => by simpa using ((mem_pick hS).1 h).2, fun h => (mem_pick hS).2 ⟨hd, by simpa using h⟩⟩
theorem filter_pick {x y z : Int} (p q : Cell → Bool) : (pick x y z p).filter q = pick x y z fun d => p d && q d := by
  unfold pick; rw [List.filter_filter]
  congr 1; funext d; rw [Bool.and_comm]
theorem nodup_len {x y z : Int} (hS : Sides x y z) {l : List Cell} (hn : l.Nodup) (hb : ∀ c ∈ l, c.inBox x y z) : l.length ≤ 64 := by
  have h1 : l.Nodup := hn
  have h2 : ∀ {l m : List Cell}, l.Nodup → (∀ c ∈ l, c ∈ m) → l.length ≤ m.length := by
    intro l
    induction l with
    | nil => intro m _ _; simp
    | cons c l ih =>
      intro m hn hm
      rw [List.nodup_cons] at hn
      have hc := hm c (by simp)
      have := ih (m := m.erase c) hn.2 fun d hd => (List.mem_erase_of_ne (fun e => hn.1 (by rw [← e]; exact hd))).2 (hm d (by simp [hd]))
      rw [List.length_erase_of_mem hc] at this
      have h0 : 0 < m.length := List.length_pos_of_mem hc
      simp only [List.length_cons]
      omega
  have := h2 h1 fun c hc => (mem_cellsOf hS).2 (hb c hc)
  have h3 : (cellsOf x y z).length = vol x y z := by simp [cellsOf]
  have := vol_cast hS
  omega
theorem Live.ne_esz {M : Mem} {t t' e e' : Nat} {cs cs' : List LV} {w w' : Bool} (h : Live M t (.row cs w e)) (h' : Live M t' (.row cs' w' e')) (he : e ≠ e') : t ≠ t' := fun et => by
  subst et
  unfold Live at h h'; rw [h] at h'; cases h'; exact he rfl
end Go.Ab

namespace Go.Ab
open Go

theorem memK_box {M : Mem} {t e : Nat} {old vs : List LV} {A : Mem → Prop} (ht : Live M t (.row old true e)) (hl : vs.length = old.length)
    (hA : ∀ M', M'.length = M.length → Live M' t (.row vs true e) → (∀ u, u ≠ t → u < M.length → M'[u]? = M[u]?) → A M') : memK (setCells M t 0 vs) A := by
  rw [ht.setC, if_pos (by omega)]
  have : splice old 0 vs = vs := by simp [splice, hl]
  rw [this]
  exact hA _ (by simp) ht.set_eq fun u hu _ => List.getElem?_set_ne (fun e => hu e.symm)

structure Que (x y z : Int) (q : Cell → Bool) (c : Cell) (n : Nat) (l : List Cell) : Prop where
  nodup : l.Nodup
  mem : ∀ d ∈ l, d.inBox x y z ∧ q d = true ∧ Reach x y z (fun d => decide (d = c)) q d
  start : c ∈ l
  done : ∀ i, i < n → i < l.length → ∀ e, e.inBox x y z → q e = true → apart (l.getD i default) e = 1 → e ∈ l

theorem Que.reach {x y z : Int} {q : Cell → Bool} {c : Cell} {n : Nat} {l : List Cell} (h : Que x y z q c n l) (hn : l.length ≤ n) {d : Cell} : d ∈ l ↔ reach x y z (fun d => decide (d = c)) q d = true := by
  rw [reach_iff]
  refine ⟨fun hd => (h.mem d hd).2.2, fun hd => ?_⟩
  refine hd.ind (P := fun d => d ∈ l) (fun e _ he => ?_) fun a b ha hab hb hq => ?_
  · rw [of_decide_eq_true he]; exact h.start
  · obtain ⟨i, hi, rfl⟩ := List.getElem_of_mem ha
    exact h.done i (by omega) hi b hb hq (by simpa [hi] using hab)

theorem Que.next {x y z : Int} {q : Cell → Bool} {c : Cell} {n : Nat} {l : List Cell} (hS : Sides x y z) (h : Que x y z q c n l) (hn : n < l.length) :
    Que x y z q c (n + 1) (l ++ pick x y z fun d => (q d && !decide (d ∈ l)) && decide (apart d (l.getD n default) = 1)) := by
  have hm := fun d => mem_pick hS (p := fun d => (q d && !decide (d ∈ l)) && decide (apart d (l.getD n default) = 1)) (c := d)
  simp only [Bool.and_eq_true, Bool.not_eq_true', decide_eq_false_iff_not, decide_eq_true_eq] at hm
  have hln := h.mem _ (getD_mem' (d := default) hn)
  refine ⟨?_, fun d hd => ?_, by simp [h.start], fun i hi hil e he hq ha => ?_⟩
  · rw [List.nodup_append]
    refine ⟨h.nodup, (pick_ok hS _).nodup, fun a ha b hb e => ?_⟩
    subst e
    exact ((hm a).1 hb).2.1.2 ha
  · rcases List.mem_append.1 hd with hd | hd
    · exact h.mem d hd
    · obtain ⟨h1, ⟨h2, h3⟩, h4⟩ := (hm d).1 hd
      exact ⟨h1, h2, .step hln.2.2 (by rw [apart_comm]; exact h4) h1 h2⟩
  · have hg : ∀ {j}, j < l.length → (l ++ pick x y z fun d => (q d && !decide (d ∈ l)) && decide (apart d (l.getD n default) = 1)).getD j default = l.getD j default := fun {j} hj => by
      simp only [List.getD_eq_getElem?_getD]; rw [List.getElem?_append_left hj]
    rw [List.mem_append]
    rcases Nat.lt_or_ge i n with h1 | h1
    · rw [hg (by omega)] at ha
      exact .inl (h.done i h1 (by omega) e he hq ha)
    · have hin : i = n := by omega
      subst hin
      rw [hg hn] at ha
      by_cases hel : e ∈ l
      · exact .inl hel
      · exact .inr ((hm e).2 ⟨he, ⟨hq, hel⟩, by rw [apart_comm]; exact ha⟩)

theorem h_l2Parts {x y z : Int} {t : Nat} {w : Bool} {cs : List Cell} {M : Mem} (h : Live M t (.row (triL cs) w 3)) (hH : HeapOK x y z cs) :
    CallsR PG F.spec_l2Parts [.agg [.I x, .I y, .I z, .ref t 0 cs.length]] M fun v N => ∃ (u : Nat) (refs : List LV), v = .ref u 0 refs.length ∧ M.length ≤ u ∧ Live N u (.row refs true 1) ∧ Css N M.length N.length refs (parts x y z 65 fun d => decide (d ∈ cs)) ∧ Pre M N := by
  have hS := hH.1
  have hn := hH.len
  have ht := h.lt
  refine callsR_run K.spec_l2Parts rfl ?_
  simp (disch := omega) only [C.spec_l2Parts, ↓SXd, SXu, slBounds, ↓sop, ↓aop, ↓reduceIte, LV.cells, AOp.dst, LV.I, LV.B, LV.U, LV.S, LV.nil, Nat.reduceEqDiff, Nat.reduceAdd, Nat.reduceMul, Nat.reduceSub, Nat.reduceLeDiff, Nat.reduceBEq, Nat.reduceDiv, Nat.reduceMod, Int.reduceToNat, Int.reduceLT, Int.reduceLE, Int.reduceAdd, Int.reduceSub, Int.reduceMul, Int.reduceEq, Int.reduceNeg, reduceCtorEq, resV, resAll, ARes.ev, LV.flat, ite_true, ite_false, exists_eq_left', exists_eq_left, keyOf, implies_true, fillC, capOf]
  refine callK_of (h_l2Own (Has.app h.has) (by omega)) ?_
  simp (disch := omega) only [splice, ↓SXd, SXu, slBounds, ↓sop, ↓aop, ↓reduceIte, LV.cells, AOp.dst, LV.I, LV.B, LV.U, LV.S, LV.nil, Nat.reduceEqDiff, Nat.reduceAdd, Nat.reduceMul, Nat.reduceSub, Nat.reduceLeDiff, Nat.reduceBEq, Nat.reduceDiv, Nat.reduceMod, Int.reduceToNat, Int.reduceLT, Int.reduceLE, Int.reduceAdd, Int.reduceSub, Int.reduceMul, Int.reduceEq, Int.reduceNeg, reduceCtorEq, resV, resAll, ARes.ev, LV.flat, ite_true, ite_false, exists_eq_left', exists_eq_left, keyOf, implies_true, fillC, capOf]
  have hcs := hH.pick
  refine ev_loop (fun m fr M' => ∃ (q : Cell → Bool) (refs : List LV) (L : List (List Cell)) (to tl : Nat), parts x y z 65 (fun d => decide (d ∈ cs)) = L ++ parts x y z m q ∧ (pick x y z q).length < m ∧ Pre M M' ∧ Live M' M.length (.row [.I x, .I y, .I z, .ref t 0 cs.length] true 0) ∧
    Live M' (M.length + 3) (.row [.I x, .I y, .I z, .ref tl 0 (pick x y z q).length] true 0) ∧ Live M' tl (.row (triL (pick x y z q)) true 3) ∧ M.length + 1 ≤ to ∧ Live M' to (.row refs true 1) ∧ Css M' M.length M'.length refs L ∧ refs.length = L.length ∧ L.length + m ≤ 65 ∧
    fr 1 = .ptr M.length 0 ∧ fr 3 = .ref to 0 refs.length ∧ fr 4 = .ptr (M.length + 3) 0) 65
    ⟨fun d => decide (d ∈ cs), [], [], M.length + 1, M.length + 2, rfl, by rw [← hcs]; omega, Pre.app _ _, Live.new, by rw [← hcs]; exact Live.newj rfl, by rw [← hcs]; exact Live.newj rfl, by omega, Live.newj rfl, trivial, rfl, by simp, rfl, rfl, rfl⟩ ?_
  clear hcs
  rintro m fr M' ⟨q, refs, L, to, tl, hparts, hfuel, hpre, hbox, hlb, hlr, hto, hout, hcss, hrl, hLm, f1, f3, f4⟩
  have hl0 := hlb.lt
  have hl1 := hlr.lt
  have hl2 := hout.lt
  simp (disch := omega) only [f1, f3, f4, hlb.cell, ↓SXd, SXu, slBounds, ↓sop, ↓aop, ↓reduceIte, LV.cells, AOp.dst, LV.I, LV.B, LV.U, LV.S, LV.nil, Nat.reduceEqDiff, Nat.reduceAdd, Nat.reduceMul, Nat.reduceSub, Nat.reduceLeDiff, Nat.reduceBEq, Nat.reduceDiv, Nat.reduceMod, Int.reduceToNat, Int.reduceLT, Int.reduceLE, Int.reduceAdd, Int.reduceSub, Int.reduceMul, Int.reduceEq, Int.reduceNeg, reduceCtorEq, resV, resAll, ARes.ev, LV.flat, ite_true, ite_false, exists_eq_left', exists_eq_left, keyOf, implies_true, fillC, capOf]
  refine condC_dec (fun hlt => ?_) (fun hlt => ?_)
  rotate_left
  · simp (disch := omega) only [f1, f3, f4, ↓SXd, SXu, slBounds, ↓sop, ↓aop, ↓reduceIte, LV.cells, AOp.dst, LV.I, LV.B, LV.U, LV.S, LV.nil, Nat.reduceEqDiff, Nat.reduceAdd, Nat.reduceMul, Nat.reduceSub, Nat.reduceLeDiff, Nat.reduceBEq, Nat.reduceDiv, Nat.reduceMod, Int.reduceToNat, Int.reduceLT, Int.reduceLE, Int.reduceAdd, Int.reduceSub, Int.reduceMul, Int.reduceEq, Int.reduceNeg, reduceCtorEq, resV, resAll, ARes.ev, LV.flat, ite_true, ite_false, exists_eq_left', exists_eq_left, keyOf, implies_true, fillC, capOf]
    have hnil : pick x y z q = [] := List.eq_nil_of_length_eq_zero (by omega)
    have : parts x y z m q = [] := by cases m with
      | zero => rfl
      | succ m => simp only [parts, hnil]
    rw [this, List.append_nil] at hparts
    rw [hparts]
    exact ⟨to, refs, rfl, by omega, hout, hcss, hpre⟩
  · obtain ⟨c, rs, hpk⟩ : ∃ c rs, pick x y z q = c :: rs := by
      cases hh : pick x y z q with
      | nil => rw [hh] at hlt; simp at hlt
      | cons c rs => exact ⟨c, rs, rfl⟩
    have hcq := (mem_pick hS (p := q) (c := c)).1 (by rw [hpk]; simp)
    have hg0 : (pick x y z q).getD 0 default = c := by rw [hpk]; rfl
    have hc0 := hlr.tri0 (k := 0) (by omega)
    rw [hg0, Nat.zero_mul] at hc0
    simp (disch := omega) only [f1, f3, f4, hbox.cell, hlb.cell, hc0, Cell.row, List.getElem?_append_left, splice, ↓SXd, SXu, slBounds, ↓sop, ↓aop, ↓reduceIte, LV.cells, AOp.dst, LV.I, LV.B, LV.U, LV.S, LV.nil, Nat.reduceEqDiff, Nat.reduceAdd, Nat.reduceMul, Nat.reduceSub, Nat.reduceLeDiff, Nat.reduceBEq, Nat.reduceDiv, Nat.reduceMod, Int.reduceToNat, Int.reduceLT, Int.reduceLE, Int.reduceAdd, Int.reduceSub, Int.reduceMul, Int.reduceEq, Int.reduceNeg, reduceCtorEq, resV, resAll, ARes.ev, LV.flat, ite_true, ite_false, exists_eq_left', exists_eq_left, keyOf, implies_true, fillC, capOf]
    refine callK_of (h_l2Empty) ?_
    simp (disch := omega) only [f1, f3, f4, List.getElem?_append_left, splice, ↓SXd, SXu, slBounds, ↓sop, ↓aop, ↓reduceIte, LV.cells, AOp.dst, LV.I, LV.B, LV.U, LV.S, LV.nil, Nat.reduceEqDiff, Nat.reduceAdd, Nat.reduceMul, Nat.reduceSub, Nat.reduceLeDiff, Nat.reduceBEq, Nat.reduceDiv, Nat.reduceMod, Int.reduceToNat, Int.reduceLT, Int.reduceLE, Int.reduceAdd, Int.reduceSub, Int.reduceMul, Int.reduceEq, Int.reduceNeg, reduceCtorEq, resV, resAll, ARes.ev, LV.flat, ite_true, ite_false, exists_eq_left', exists_eq_left, keyOf, implies_true, fillC, capOf]
    have e1 : Live (M' ++ [some (.row [.I c.a, .I c.b, .I c.c] true 3), some (.row [.I x, .I y, .I z, .ref (M'.length + 2) 0 0] true 0), some (.row [] true 3)]) M'.length (.row [.I c.a, .I c.b, .I c.c] true 3) := Live.new
    have e2 : Live (M' ++ [some (.row [.I c.a, .I c.b, .I c.c] true 3), some (.row [.I x, .I y, .I z, .ref (M'.length + 2) 0 0] true 0), some (.row [] true 3)]) (M'.length + 1) (.row [.I x, .I y, .I z, .ref (M'.length + 2) 0 0] true 0) := Live.newj rfl
    have e3 : Live (M' ++ [some (.row [.I c.a, .I c.b, .I c.c] true 3), some (.row [.I x, .I y, .I z, .ref (M'.length + 2) 0 0] true 0), some (.row [] true 3)]) (M'.length + 2) (.row [] true 3) := Live.newj rfl
    have hp1 : Pre M' (M' ++ [some (.row [.I c.a, .I c.b, .I c.c] true 3), some (.row [.I x, .I y, .I z, .ref (M'.length + 2) 0 0] true 0), some (.row [] true 3)]) := Pre.app _ _
    generalize M' ++ [some (.row [.I c.a, .I c.b, .I c.c] true 3), some (.row [.I x, .I y, .I z, .ref (M'.length + 2) 0 0] true 0), some (.row [] true 3)] = N1 at e1 e2 e3 hp1 ⊢
    have hlb1 := hlb.pre hp1
    have hlr1 := hlr.pre hp1
    simp (disch := omega) only [f1, f3, f4, hlb1.cells, e1.cells, ↓SXd, SXu, slBounds, ↓sop, ↓aop, ↓reduceIte, LV.cells, AOp.dst, LV.I, LV.B, LV.U, LV.S, LV.nil, Nat.reduceEqDiff, Nat.reduceAdd, Nat.reduceMul, Nat.reduceSub, Nat.reduceLeDiff, Nat.reduceBEq, Nat.reduceDiv, Nat.reduceMod, Int.reduceToNat, Int.reduceLT, Int.reduceLE, Int.reduceAdd, Int.reduceSub, Int.reduceMul, Int.reduceEq, Int.reduceNeg, reduceCtorEq, resV, resAll, ARes.ev, LV.flat, ite_true, ite_false, exists_eq_left', exists_eq_left, keyOf, implies_true, fillC, capOf]
    refine callH_of (h_l2Without hlr1.has (by have := pick_len hS q; omega)) ?_
    intro tl2 N2 htl2 hp2 hlr2
    rw [cell_eta, filter_pick] at hlr2 ⊢
    simp (disch := omega) only [f1, f3, f4, ↓SXd, SXu, slBounds, ↓sop, ↓aop, ↓reduceIte, LV.cells, AOp.dst, LV.I, LV.B, LV.U, LV.S, LV.nil, Nat.reduceEqDiff, Nat.reduceAdd, Nat.reduceMul, Nat.reduceSub, Nat.reduceLeDiff, Nat.reduceBEq, Nat.reduceDiv, Nat.reduceMod, Int.reduceToNat, Int.reduceLT, Int.reduceLE, Int.reduceAdd, Int.reduceSub, Int.reduceMul, Int.reduceEq, Int.reduceNeg, reduceCtorEq, resV, resAll, ARes.ev, LV.flat, ite_true, ite_false, exists_eq_left', exists_eq_left, keyOf, implies_true, fillC, capOf]
    refine memK_box (hlb1.pre hp2) (by simp) fun N3 k1 k2 k3 => ?_
    simp (disch := omega) only [f1, f3, f4, ↓SXd, SXu, slBounds, ↓sop, ↓aop, ↓reduceIte, LV.cells, AOp.dst, LV.I, LV.B, LV.U, LV.S, LV.nil, Nat.reduceEqDiff, Nat.reduceAdd, Nat.reduceMul, Nat.reduceSub, Nat.reduceLeDiff, Nat.reduceBEq, Nat.reduceDiv, Nat.reduceMod, Int.reduceToNat, Int.reduceLT, Int.reduceLE, Int.reduceAdd, Int.reduceSub, Int.reduceMul, Int.reduceEq, Int.reduceNeg, reduceCtorEq, resV, resAll, ARes.ev, LV.flat, ite_true, ite_false, exists_eq_left', exists_eq_left, keyOf, implies_true, fillC, capOf]
    have hN1 := hp1.1
    have hN1' := e3.lt
    have hN2 := hp2.1
    have hM3 : M.length + 3 < M'.length := hl0
    have hno := hout.ne_esz hlb (by decide)
    have hlr3 := live_step hlr2 (by omega) k3
    have hbox3 := live_step ((hbox.pre hp1).pre hp2) (by omega) k3
    have hout3 := live_step ((hout.pre hp1).pre hp2) (by omega) k3
    have g1 := live_step (e1.pre hp2) (by omega) k3
    have g2 := live_step (e2.pre hp2) (by omega) k3
    have g3 := live_step (e3.pre hp2) (by omega) k3
    have hpre3 := pre_step ((hpre.trans hp1).trans hp2) (by omega) (j := 0) k1 k3
    have hcss3 := ((hcss.pre hp1).pre hp2).keep (.inr ⟨_, _, _, hlb1.pre hp2, by decide⟩) k3
    have hrows : ∀ l : List Cell, (Blk.row [.I c.a, .I c.b, .I c.c] true 3) = .row (triL [c]) true 3 := fun _ => rfl
    refine ev_loop (fun m2 fr N => ∃ (n : Nat) (list : List Cell) (ti tl tp : Nat), n + m2 = 64 ∧ n ≤ list.length ∧ Que x y z q c n list ∧ Pre M N ∧ Live N M.length (.row [.I x, .I y, .I z, .ref t 0 cs.length] true 0) ∧
      Live N (M.length + 3) (.row [.I x, .I y, .I z, .ref tl 0 (pick x y z fun d => q d && !decide (d ∈ list)).length] true 0) ∧ Live N tl (.row (triL (pick x y z fun d => q d && !decide (d ∈ list))) true 3) ∧
      Live N (M'.length + 1) (.row [.I x, .I y, .I z, .ref tp 0 (pick x y z fun d => decide (d ∈ list.take n)).length] true 0) ∧ Live N tp (.row (triL (pick x y z fun d => decide (d ∈ list.take n))) true 3) ∧
      Live N ti (.row (triL list) true 3) ∧ Live N to (.row refs true 1) ∧ Css N M.length M'.length refs L ∧ M'.length ≤ ti ∧ M'.length ≤ tl ∧ M'.length ≤ tp ∧ ti ≠ tl ∧ ti ≠ tp ∧ ti ≠ M'.length + 1 ∧
      fr 1 = .ptr M.length 0 ∧ fr 3 = .ref to 0 refs.length ∧ fr 4 = .ptr (M.length + 3) 0 ∧ fr 5 = .ptr (M'.length + 1) 0 ∧ fr 6 = .ref ti 0 list.length ∧ fr 7 = .I n) 64
      ⟨0, [c], M'.length, tl2, M'.length + 2, rfl, by simp, ⟨by simp, fun d hd => by rw [List.mem_singleton.1 hd]; exact ⟨hcq.1, hcq.2, .base hcq.1 (by simp)⟩, by simp, by omega⟩, hpre3, hbox3, ?_, ?_, ?_, ?_, g1, hout3, hcss3, by omega, by omega, by omega, by omega, by omega, by omega, f1, f3, f4, rfl, rfl, rfl⟩ ?_
    · rw [pick_congr hS (p := fun d => q d && !decide (d ∈ [c])) (q := fun d => q d && !decide (d = c)) fun d _ => by simp]; exact k2
    · rw [pick_congr hS (p := fun d => q d && !decide (d ∈ [c])) (q := fun d => q d && !decide (d = c)) fun d _ => by simp]; exact hlr3
    · rw [show pick x y z (fun d => decide (d ∈ [c].take 0)) = [] by unfold pick; rw [List.filter_eq_nil_iff]; simp]; exact g2
    · rw [show pick x y z (fun d => decide (d ∈ [c].take 0)) = [] by unfold pick; rw [List.filter_eq_nil_iff]; simp]; exact g3
    clear f1 f3 f4 hbox hlb hlr hout hcss hpre hlb1 hlr1 hlr2 k1 k2 k3 hlr3 hbox3 hout3 g1 g2 g3 hpre3 hcss3 e1 e2 e3 hp1 hp2 hN1 hN1' hN2 htl2 hno hc0 hl0 hl1 hl2
    rintro m2 fr N ⟨n, list, ti, tl, tp, hnm, hnl, hque, hpre, hbox, hlb, hlr, hpb, hpr, hli, hout, hcss, hti, htl, htp, hd1, hd2, hd3, f1, f3, f4, f5, f6, f7⟩
    have hll := nodup_len hS hque.nodup fun d hd => (hque.mem d hd).1
    have hNl := hpb.lt
    have hl0 := hlb.lt
    simp (disch := omega) only [f1, f3, f4, f5, f6, f7, ↓SXd, SXu, slBounds, ↓sop, ↓aop, ↓reduceIte, LV.cells, AOp.dst, LV.I, LV.B, LV.U, LV.S, LV.nil, Nat.reduceEqDiff, Nat.reduceAdd, Nat.reduceMul, Nat.reduceSub, Nat.reduceLeDiff, Nat.reduceBEq, Nat.reduceDiv, Nat.reduceMod, Int.reduceToNat, Int.reduceLT, Int.reduceLE, Int.reduceAdd, Int.reduceSub, Int.reduceMul, Int.reduceEq, Int.reduceNeg, reduceCtorEq, resV, resAll, ARes.ev, LV.flat, ite_true, ite_false, exists_eq_left', exists_eq_left, keyOf, implies_true, fillC, capOf]
    refine condC_dec (fun hlt2 => ?_) (fun hlt2 => ?_)
    · have hnl' : n < list.length := by omega
      have hlc := hli.tri0 hnl'
      have hcn := hque.mem _ (getD_mem' (d := default) hnl')
      have hpk2 := pick_ok hS fun d => decide (d ∈ list.take n)
      simp (disch := omega) only [f1, f3, f4, f5, f6, f7, hpb.cells, hlc, Cell.row, ↓SXd, SXu, slBounds, ↓sop, ↓aop, ↓reduceIte, LV.cells, AOp.dst, LV.I, LV.B, LV.U, LV.S, LV.nil, Nat.reduceEqDiff, Nat.reduceAdd, Nat.reduceMul, Nat.reduceSub, Nat.reduceLeDiff, Nat.reduceBEq, Nat.reduceDiv, Nat.reduceMod, Int.reduceToNat, Int.reduceLT, Int.reduceLE, Int.reduceAdd, Int.reduceSub, Int.reduceMul, Int.reduceEq, Int.reduceNeg, reduceCtorEq, resV, resAll, ARes.ev, LV.flat, ite_true, ite_false, exists_eq_left', exists_eq_left, keyOf, implies_true, fillC, capOf]
      refine callH_of (h_l2With hpr hpk2 hcn.1) ?_
      intro tp2 N2 htp2 hp2 hpr2
      rw [pick_take_step hS hnl'] at hpr2 ⊢
      simp (disch := omega) only [f1, f3, f4, f5, f6, f7, ↓SXd, SXu, slBounds, ↓sop, ↓aop, ↓reduceIte, LV.cells, AOp.dst, LV.I, LV.B, LV.U, LV.S, LV.nil, Nat.reduceEqDiff, Nat.reduceAdd, Nat.reduceMul, Nat.reduceSub, Nat.reduceLeDiff, Nat.reduceBEq, Nat.reduceDiv, Nat.reduceMod, Int.reduceToNat, Int.reduceLT, Int.reduceLE, Int.reduceAdd, Int.reduceSub, Int.reduceMul, Int.reduceEq, Int.reduceNeg, reduceCtorEq, resV, resAll, ARes.ev, LV.flat, ite_true, ite_false, exists_eq_left', exists_eq_left, keyOf, implies_true, fillC, capOf]
      refine memK_box (hpb.pre hp2) (by simp) fun N3 k1 k2 k3 => ?_
      have hN2 := hp2.1
      have hlb3 := live_step (hlb.pre hp2) (by omega) k3
      have hlr3 := live_step (hlr.pre hp2) (hlr.ne_esz hpb (by decide)) k3
      have hli3 := live_step (hli.pre hp2) (by omega) k3
      have hbox3 := live_step (hbox.pre hp2) (by omega) k3
      have hout3 := live_step (hout.pre hp2) (hout.ne_esz hpb (by decide)) k3
      have hpr3 := live_step hpr2 (by omega) k3
      have hcss3 := (hcss.pre hp2).keep (.inr ⟨_, _, _, hpb.pre hp2, by decide⟩) k3
      have hpre3 := pre_step (hpre.trans hp2) (by omega) (j := 0) k1 k3
      have hlc3 := hli3.tri0 hnl'
      simp (disch := omega) only [f1, f3, f4, f5, f6, f7, hlb3.cells, hlc3, Cell.row, ↓SXd, SXu, slBounds, ↓sop, ↓aop, ↓reduceIte, LV.cells, AOp.dst, LV.I, LV.B, LV.U, LV.S, LV.nil, Nat.reduceEqDiff, Nat.reduceAdd, Nat.reduceMul, Nat.reduceSub, Nat.reduceLeDiff, Nat.reduceBEq, Nat.reduceDiv, Nat.reduceMod, Int.reduceToNat, Int.reduceLT, Int.reduceLE, Int.reduceAdd, Int.reduceSub, Int.reduceMul, Int.reduceEq, Int.reduceNeg, reduceCtorEq, resV, resAll, ARes.ev, LV.flat, ite_true, ite_false, exists_eq_left', exists_eq_left, keyOf, implies_true, fillC, capOf]
      refine callN_of (h_l2Near hlr3.has (by have := pick_len hS fun d => q d && !decide (d ∈ list); omega) (fun d hd => ?_) ?_) ?_
      · have := ((mem_pick hS).1 hd).1
        obtain ⟨⟨_, _⟩, ⟨_, _⟩, ⟨_, _⟩⟩ := id hS
        exact ⟨⟨this.1.1, by have := this.1.2; omega⟩, ⟨this.2.1.1, by have := this.2.1.2; omega⟩, ⟨this.2.2.1, by have := this.2.2.2; omega⟩⟩
      · have := hcn.1
        obtain ⟨⟨_, _⟩, ⟨_, _⟩, ⟨_, _⟩⟩ := id hS
        exact ⟨⟨this.1.1, by have := this.1.2; omega⟩, ⟨this.2.1.1, by have := this.2.1.2; omega⟩, ⟨this.2.2.1, by have := this.2.2.2; omega⟩⟩
      intro tn N4 htn hp4 hnr
      rw [filter_pick] at hnr ⊢
      have hnx := hque.next hS hnl'
      simp (disch := omega) only [f1, f3, f4, f5, f6, f7, ↓SXd, SXu, slBounds, ↓sop, ↓aop, ↓reduceIte, LV.cells, AOp.dst, LV.I, LV.B, LV.U, LV.S, LV.nil, Nat.reduceEqDiff, Nat.reduceAdd, Nat.reduceMul, Nat.reduceSub, Nat.reduceLeDiff, Nat.reduceBEq, Nat.reduceDiv, Nat.reduceMod, Int.reduceToNat, Int.reduceLT, Int.reduceLE, Int.reduceAdd, Int.reduceSub, Int.reduceMul, Int.reduceEq, Int.reduceNeg, reduceCtorEq, resV, resAll, ARes.ev, LV.flat, ite_true, ite_false, exists_eq_left', exists_eq_left, keyOf, implies_true, fillC, capOf]
      have hnrl := pick_len hS fun d => (q d && !decide (d ∈ list)) && decide (apart d (list.getD n default) = 1)
      have hN2 := hp2.1
      have hN4 := hp4.1
      have hN3 : N3.length = N2.length := k1
      have hlN3 := hlr3.lt
      have hlN0 := hli.lt
      have hlN4 := hli3.lt
      have hlN5 := hpr3.lt
      generalize hnrd : pick x y z (fun d => (q d && !decide (d ∈ list)) && decide (apart d (list.getD n default) = 1)) = nr at hnr hnx hnrl ⊢
      refine ev_loop (fun m3 fr N => ∃ (i ti tl : Nat), i + m3 = nr.length ∧ Pre M N ∧ Live N M.length (.row [.I x, .I y, .I z, .ref t 0 cs.length] true 0) ∧
        Live N (M.length + 3) (.row [.I x, .I y, .I z, .ref tl 0 (pick x y z fun d => q d && !decide (d ∈ list ++ nr.take i)).length] true 0) ∧ Live N tl (.row (triL (pick x y z fun d => q d && !decide (d ∈ list ++ nr.take i))) true 3) ∧
        Live N (M'.length + 1) (.row [.I x, .I y, .I z, .ref tp2 0 (pick x y z fun d => decide (d ∈ list.take (n + 1))).length] true 0) ∧ Live N tp2 (.row (triL (pick x y z fun d => decide (d ∈ list.take (n + 1)))) true 3) ∧
        Live N ti (.row (triL (list ++ nr.take i)) true 3) ∧ Live N tn (.row (triL nr) true 3) ∧ Live N to (.row refs true 1) ∧ Css N M.length M'.length refs L ∧ M'.length ≤ ti ∧ M'.length ≤ tl ∧ M'.length ≤ tp2 ∧ ti ≠ tl ∧ ti ≠ tp2 ∧ ti ≠ M'.length + 1 ∧ ti ≠ tn ∧
        fr 1 = .ptr M.length 0 ∧ fr 3 = .ref to 0 refs.length ∧ fr 4 = .ptr (M.length + 3) 0 ∧ fr 5 = .ptr (M'.length + 1) 0 ∧ fr 6 = .ref ti 0 (list ++ nr.take i).length ∧ fr 7 = .I n ∧ fr 8 = .ref tn 0 nr.length ∧ fr 9 = .I i) nr.length
        ⟨0, ti, tl, by omega, hpre3.trans hp4, hbox3.pre hp4, by simpa using hlb3.pre hp4, by simpa using hlr3.pre hp4, k2.pre hp4, hpr3.pre hp4, by simpa using hli3.pre hp4, hnr, hout3.pre hp4, hcss3.pre hp4, hti, htl, by omega, hd1, by omega, hd3, by omega, f1, f3, f4, f5, by simp only [List.take_zero, List.append_nil]; exact f6, f7, rfl, rfl⟩ ?_
      clear f1 f3 f4 f5 f6 f7 hpre3 hbox3 hlb3 hlr3 k2 hpr3 hli3 hnr hout3 hcss3 hlb hlr hpb hpr hli hout hcss hpre hbox k1 k3 hlc hlc3
      rintro m3 fr N ⟨i, ti, tl, hi, hpre, hbox, hlb, hlr, hpb, hpr, hli, hnr, hout, hcss, hti, htl, htp, hd1, hd2, hd3, hd4, f1, f3, f4, f5, f6, f7, f8, f9⟩
      simp (disch := omega) only [f1, f3, f4, f5, f6, f7, f8, f9, ↓SXd, SXu, slBounds, ↓sop, ↓aop, ↓reduceIte, LV.cells, AOp.dst, LV.I, LV.B, LV.U, LV.S, LV.nil, Nat.reduceEqDiff, Nat.reduceAdd, Nat.reduceMul, Nat.reduceSub, Nat.reduceLeDiff, Nat.reduceBEq, Nat.reduceDiv, Nat.reduceMod, Int.reduceToNat, Int.reduceLT, Int.reduceLE, Int.reduceAdd, Int.reduceSub, Int.reduceMul, Int.reduceEq, Int.reduceNeg, reduceCtorEq, resV, resAll, ARes.ev, LV.flat, ite_true, ite_false, exists_eq_left', exists_eq_left, keyOf, implies_true, fillC, capOf]
      refine condC_dec (fun hlt3 => ?_) (fun hlt3 => ?_)
      · have hin : i < nr.length := by omega
        have hnc := hnr.tri0 hin
        have hts : nr.take (i + 1) = nr.take i ++ [nr.getD i default] := by
          rw [List.take_succ, List.getElem?_eq_getElem hin]; simp [hin]
        have hll2 : (list ++ nr.take i).length ≤ 1000 := by simp; omega
        simp (disch := omega) only [f1, f3, f4, f5, f6, f7, f8, f9, hnc, Cell.row, splice, ↓SXd, SXu, slBounds, ↓sop, ↓aop, ↓reduceIte, LV.cells, AOp.dst, LV.I, LV.B, LV.U, LV.S, LV.nil, Nat.reduceEqDiff, Nat.reduceAdd, Nat.reduceMul, Nat.reduceSub, Nat.reduceLeDiff, Nat.reduceBEq, Nat.reduceDiv, Nat.reduceMod, Int.reduceToNat, Int.reduceLT, Int.reduceLE, Int.reduceAdd, Int.reduceSub, Int.reduceMul, Int.reduceEq, Int.reduceNeg, reduceCtorEq, resV, resAll, ARes.ev, LV.flat, ite_true, ite_false, exists_eq_left', exists_eq_left, keyOf, implies_true, fillC, capOf]
        refine appendK_cell hli (by omega) fun N5 l1 l2 l3 => ?_
        have hlb5 := live_step hlb (hlb.ne_esz hli (by decide)) l3
        have hnr5 := live_step hnr (by omega) l3
        have hlr5 := live_step hlr (by omega) l3
        rw [cell_eta, List.append_assoc, ← hts] at l2
        have hnc5 := hnr5.tri0 hin
        simp (disch := omega) only [f1, f3, f4, f5, f6, f7, f8, f9, hlb5.cells, hnc5, Cell.row, ↓SXd, SXu, slBounds, ↓sop, ↓aop, ↓reduceIte, LV.cells, AOp.dst, LV.I, LV.B, LV.U, LV.S, LV.nil, Nat.reduceEqDiff, Nat.reduceAdd, Nat.reduceMul, Nat.reduceSub, Nat.reduceLeDiff, Nat.reduceBEq, Nat.reduceDiv, Nat.reduceMod, Int.reduceToNat, Int.reduceLT, Int.reduceLE, Int.reduceAdd, Int.reduceSub, Int.reduceMul, Int.reduceEq, Int.reduceNeg, reduceCtorEq, resV, resAll, ARes.ev, LV.flat, ite_true, ite_false, exists_eq_left', exists_eq_left, keyOf, implies_true, fillC, capOf]
        refine callH_of (h_l2Without hlr5.has (by have := pick_len hS fun d => q d && !decide (d ∈ list ++ nr.take i); omega)) ?_
        intro tl3 N6 htl3 hp6 hlr6
        have hpe : pick x y z (fun d => (q d && !decide (d ∈ list ++ nr.take i)) && !decide (d = nr.getD i default)) = pick x y z fun d => q d && !decide (d ∈ list ++ nr.take (i + 1)) := pick_congr hS fun d _ => by
          rw [hts, ← List.append_assoc]
          simp only [List.mem_append (s := list ++ nr.take i), List.mem_singleton, Bool.decide_or, Bool.not_or, Bool.and_assoc]
        rw [cell_eta, filter_pick, hpe] at hlr6 ⊢
        simp (disch := omega) only [f1, f3, f4, f5, f6, f7, f8, f9, ↓SXd, SXu, slBounds, ↓sop, ↓aop, ↓reduceIte, LV.cells, AOp.dst, LV.I, LV.B, LV.U, LV.S, LV.nil, Nat.reduceEqDiff, Nat.reduceAdd, Nat.reduceMul, Nat.reduceSub, Nat.reduceLeDiff, Nat.reduceBEq, Nat.reduceDiv, Nat.reduceMod, Int.reduceToNat, Int.reduceLT, Int.reduceLE, Int.reduceAdd, Int.reduceSub, Int.reduceMul, Int.reduceEq, Int.reduceNeg, reduceCtorEq, resV, resAll, ARes.ev, LV.flat, ite_true, ite_false, exists_eq_left', exists_eq_left, keyOf, implies_true, fillC, capOf]
        refine memK_box (hlb5.pre hp6) (by simp) fun N7 j1 j2 j3 => ?_
        have hlM := hpb.lt
        have hl6 := hp6.1
        have hla := hpr.lt
        have hlb' := hnr.lt
        simp (disch := omega) only [f1, f3, f4, f5, f6, f7, f8, f9, ↓SXd, SXu, slBounds, ↓sop, ↓aop, ↓reduceIte, LV.cells, AOp.dst, LV.I, LV.B, LV.U, LV.S, LV.nil, Nat.reduceEqDiff, Nat.reduceAdd, Nat.reduceMul, Nat.reduceSub, Nat.reduceLeDiff, Nat.reduceBEq, Nat.reduceDiv, Nat.reduceMod, Int.reduceToNat, Int.reduceLT, Int.reduceLE, Int.reduceAdd, Int.reduceSub, Int.reduceMul, Int.reduceEq, Int.reduceNeg, reduceCtorEq, resV, resAll, ARes.ev, LV.flat, ite_true, ite_false, exists_eq_left', exists_eq_left, keyOf, implies_true, fillC, capOf]
        refine ⟨m3 - 1, by omega, i + 1, N.length + 1, tl3, by omega, pre_step ((pre_step hpre (by omega) l1 l3).trans hp6) (by omega) (j := 0) j1 j3, live_step ((live_step hbox (hbox.ne_esz hli (by decide)) l3).pre hp6) (by omega) j3, j2, live_step hlr6 (by omega) j3,
          live_step ((live_step hpb (by omega) l3).pre hp6) (by omega) j3, live_step ((live_step hpr (by omega) l3).pre hp6) ?_ j3, live_step (l2.pre hp6) (by omega) j3, live_step (hnr5.pre hp6) ?_ j3, live_step ((live_step hout (hout.ne_esz hli (by decide)) l3).pre hp6) ?_ j3,
          (((hcss.keep (.inl (.inl hti)) l3).pre hp6).keep (.inr ⟨_, _, _, hlb5.pre hp6, by decide⟩) j3), by omega, by omega, htp, by omega, by omega, by omega, by omega, f1, f3, f4, f5, ?_, f7, f8, eqI (natI _)⟩
        · exact hpr.ne_esz hlb (by decide)
        · exact hnr.ne_esz hlb (by decide)
        · exact hout.ne_esz hlb (by decide)
        · simp only [List.append_assoc, hts, cell_eta]; rfl
      · simp (disch := omega) only [f1, f3, f4, f5, f6, f7, f8, f9, ↓SXd, SXu, slBounds, ↓sop, ↓aop, ↓reduceIte, LV.cells, AOp.dst, LV.I, LV.B, LV.U, LV.S, LV.nil, Nat.reduceEqDiff, Nat.reduceAdd, Nat.reduceMul, Nat.reduceSub, Nat.reduceLeDiff, Nat.reduceBEq, Nat.reduceDiv, Nat.reduceMod, Int.reduceToNat, Int.reduceLT, Int.reduceLE, Int.reduceAdd, Int.reduceSub, Int.reduceMul, Int.reduceEq, Int.reduceNeg, reduceCtorEq, resV, resAll, ARes.ev, LV.flat, ite_true, ite_false, exists_eq_left', exists_eq_left, keyOf, implies_true, fillC, capOf]
        have : i = nr.length := by omega
        subst this
        rw [List.take_length] at *
        have htk : (list ++ nr).take (n + 1) = list.take (n + 1) := List.take_append_of_le_length (by omega)
        exact ⟨m2 - 1, by omega, n + 1, list ++ nr, ti, tl, tp2, by omega, by simp; omega, hnx, hpre, hbox, hlb, hlr, by rw [htk]; exact hpb, by rw [htk]; exact hpr, hli, hout, hcss, hti, htl, htp, hd1, hd2, hd3, f1, f3, f4, f5, f6, eqI (natI _)⟩
    · have hnn : n = list.length := by omega
      subst hnn
      have hr := fun d => hque.reach (d := d) (Nat.le_refl _)
      rw [List.take_length] at hpb hpr
      have hpe : pick x y z (fun d => decide (d ∈ list)) = pick x y z (reach x y z (fun d => decide (d = c)) q) := pick_congr hS fun d _ => by
        rw [Bool.eq_iff_iff, decide_eq_true_iff]; exact hr d
      have hqe : pick x y z (fun d => q d && !decide (d ∈ list)) = pick x y z fun d => q d && !reach x y z (fun d => decide (d = c)) q d := pick_congr hS fun d _ => by
        congr 2
        rw [Bool.eq_iff_iff, decide_eq_true_iff]; exact hr d
      rw [hpe] at hpb hpr
      rw [hqe] at hlb hlr
      simp (disch := omega) only [f1, f3, f4, f5, f6, f7, hpb.cell, splice, ↓SXd, SXu, slBounds, ↓sop, ↓aop, ↓reduceIte, LV.cells, AOp.dst, LV.I, LV.B, LV.U, LV.S, LV.nil, Nat.reduceEqDiff, Nat.reduceAdd, Nat.reduceMul, Nat.reduceSub, Nat.reduceLeDiff, Nat.reduceBEq, Nat.reduceDiv, Nat.reduceMod, Int.reduceToNat, Int.reduceLT, Int.reduceLE, Int.reduceAdd, Int.reduceSub, Int.reduceMul, Int.reduceEq, Int.reduceNeg, reduceCtorEq, resV, resAll, ARes.ev, LV.flat, ite_true, ite_false, exists_eq_left', exists_eq_left, keyOf, implies_true, fillC, capOf]
      refine appendK_1 (acc := refs) (new := [.ref tp 0 (pick x y z (reach x y z (fun d => decide (d = c)) q)).length]) hout (by omega) rfl (by omega) (by omega) (by omega) fun N5 l1 l2 l3 => ?_
      simp (disch := omega) only [f1, f3, f4, f5, f6, f7, ↓SXd, SXu, slBounds, ↓sop, ↓aop, ↓reduceIte, LV.cells, AOp.dst, LV.I, LV.B, LV.U, LV.S, LV.nil, Nat.reduceEqDiff, Nat.reduceAdd, Nat.reduceMul, Nat.reduceSub, Nat.reduceLeDiff, Nat.reduceBEq, Nat.reduceDiv, Nat.reduceMod, Int.reduceToNat, Int.reduceLT, Int.reduceLE, Int.reduceAdd, Int.reduceSub, Int.reduceMul, Int.reduceEq, Int.reduceNeg, reduceCtorEq, resV, resAll, ARes.ev, LV.flat, ite_true, ite_false, exists_eq_left', exists_eq_left, keyOf, implies_true, fillC, capOf]
      obtain ⟨m', rfl⟩ : ∃ m', m = m' + 1 := ⟨m - 1, by omega⟩
      have hlM := hpr.lt
      have hpl := hpre.1
      have hpp : parts x y z (m' + 1) q = pick x y z (reach x y z (fun d => decide (d = c)) q) :: parts x y z m' fun d => q d && !reach x y z (fun d => decide (d = c)) q d := by simp only [parts, hpk]
      rw [hpp] at hparts
      refine ⟨m', by omega, fun d => q d && !reach x y z (fun d => decide (d = c)) q d, refs ++ [.ref tp 0 (pick x y z (reach x y z (fun d => decide (d = c)) q)).length], L ++ [pick x y z (reach x y z (fun d => decide (d = c)) q)], N.length + 1, tl, ?_, ?_,
        pre_step hpre (by omega) l1 l3, live_step hbox (hbox.ne_esz hout (by decide)) l3, live_step hlb (hlb.ne_esz hout (by decide)) l3, live_step hlr (hlr.ne_esz hout (by decide)) l3, by omega, l2, ?_, by simp [hrl], by simp; omega, f1, ?_, f4⟩
      · rw [hparts, List.append_assoc]; rfl
      · have := filter_lt hS (l := cellsOf x y z) (p := fun d => q d && !reach x y z (fun d => decide (d = c)) q d) (q := q) (fun a _ ha => by simp only [Bool.and_eq_true] at ha; exact ha.1)
          ⟨c, (mem_cellsOf hS).2 hcq.1, hcq.2, by rw [(reach_iff (c := c)).2 (.base hcq.1 (by simp))]; simp⟩
        unfold pick at hfuel ⊢
        omega
      · exact (hcss.keep (.inr ⟨_, _, _, hout, by decide⟩) l3).snoc htp (by omega) (live_step hpr (hpr.ne_esz hout (by decide)) l3) (by omega)
      · rw [List.length_append, List.length_singleton]; rfl
end Go.Ab

namespace Go.Ab
open Go
set_option maxRecDepth 20000

theorem memK_one {M : Mem} {t j e : Nat} {old : List LV} {v : LV} {A : Mem → Prop} (ht : Live M t (.row old true e)) (hj : j < old.length)
    (hA : ∀ M', M'.length = M.length → Live M' t (.row (old.set j v) true e) → (∀ u, u ≠ t → u < M.length → M'[u]? = M[u]?) → A M') : memK (setCells M t j [v]) A := by
  rw [ht.setC, if_pos (by simp; omega), splice_1 hj]
  exact hA _ (by simp) ht.set_eq fun u hu _ => List.getElem?_set_ne (fun e => hu e.symm)
end Go.Ab

namespace Go.Ab.C
open Go.Ab
end Go.Ab.C

namespace Go.Ab.K
open Go Go.Ab
end Go.Ab.K

namespace Go.Ab
open Go

theorem SlC.at {M N : Mem} {w : LV} {l : List Cell} (h : SlC M w l) (hk : ∀ t o n, w = .ref t o n → N[t]? = M[t]?) : SlC N w l := by
  rcases h with h | ⟨t, ex, h1, h2⟩
  · exact .inl h
  · refine .inr ⟨t, ex, h1, ?_⟩
    unfold Live; rw [hk _ _ _ h1]; exact h2
theorem Live.at {M N : Mem} {t : Nat} {b : Blk} (h : Live M t b) (hk : N[t]? = M[t]?) : Live N t b := by unfold Live; rw [hk]; exact h

def Pre3 (a b c : Nat) (M N : Mem) : Prop := M.length ≤ N.length ∧ ∀ u, u < M.length → u ≠ a → u ≠ b → u ≠ c → N[u]? = M[u]?
theorem Pre3.live {a b c : Nat} {M N : Mem} {t : Nat} {bl : Blk} (hp : Pre3 a b c M N) (h : Live M t bl) (h1 : t ≠ a) (h2 : t ≠ b) (h3 : t ≠ c) : Live N t bl := h.at (hp.2 t h.lt h1 h2 h3)
theorem Pre3.pre {a b c : Nat} {M0 M N : Mem} (hp : Pre3 a b c M N) (h : Pre M0 M) (h1 : M0.length ≤ a) (h2 : M0.length ≤ b) (h3 : M0.length ≤ c) : Pre M0 N := ⟨Nat.le_trans h.1 hp.1, fun u hu => by rw [hp.2 u (Nat.lt_of_lt_of_le hu h.1) (by omega) (by omega) (by omega)]; exact h.2 u hu⟩

end Go.Ab

namespace Go.Ab
open Go
set_option maxRecDepth 20000

def byL (bs : List Nat) : List LV := bs.map fun (b : Nat) => LV.val (.int .u8 (b : Int))
theorem byL_len (bs : List Nat) : (byL bs).length = bs.length := by simp [byL]
def Bytes (M : Mem) (t o : Nat) (bs : List Nat) : Prop := Has M t o (byL bs)
theorem Bytes.get {M : Mem} {t o k : Nat} {bs : List Nat} (h : Bytes M t o bs) (hk : k < bs.length) : getCell M t (o + k) = some (.val (.int .u8 ((bs.getD k 0 : Nat) : Int))) := by
  rw [Has.get h (by rw [byL_len]; exact hk)]
  simp [byL, hk]
def CurAt (M : Mem) (p t o : Nat) (bs : List Nat) (a : Nat) : Prop := (∃ (i : Nat) (s : Int), i ≤ a ∧ Live M p (.row [.ref t o bs.length, .I i, .val (.int .u64 s)] true 0)) ∧ Bytes M t o bs ∧ t ≠ p ∧ (∀ b ∈ bs, b ≤ 255) ∧ bs.length ≤ 1000000000
def DrawN (M : Mem) (p t o : Nat) (bs : List Nat) (a : Nat) (N : Mem) : Prop := CurAt N p t o bs a ∧ M.length ≤ N.length ∧ ∀ q, q < M.length → q ≠ p → N[q]? = M[q]?
theorem Has.at' {M N : Mem} {t o : Nat} {vs : List LV} (h : Has M t o vs) (hk : N[t]? = M[t]?) : Has N t o vs := by
  obtain ⟨row, h1, h2⟩ := h
  refine ⟨row, ?_, h2⟩
  unfold getRow at *
  rw [hk]; exact h1
theorem CurAt.keep {M N : Mem} {p t o : Nat} {bs : List Nat} {a b : Nat} (h : CurAt M p t o bs a) (hk : ∀ q, q < M.length → N[q]? = M[q]?) (hab : a ≤ b) : CurAt N p t o bs b := by
  obtain ⟨⟨i, s, h1, h2⟩, h3, h4⟩ := h
  exact ⟨⟨i, s, by omega, Live.at h2 (hk _ h2.lt)⟩, Has.at' h3 (hk _ h3.lt), h4⟩
theorem DrawN.trans {M N N' : Mem} {p t o : Nat} {bs : List Nat} {a b : Nat} (h : DrawN M p t o bs a N) (k : DrawN N p t o bs b N') : DrawN M p t o bs b N' :=
  ⟨k.1, Nat.le_trans h.2.1 k.2.1, fun q h1 h2 => by rw [k.2.2 q (Nat.lt_of_lt_of_le h1 h.2.1) h2]; exact h.2.2 q h1 h2⟩
theorem DrawN.of_pre {M N N' : Mem} {p t o : Nat} {bs : List Nat} {a : Nat} (h : Pre M N) (k : DrawN N p t o bs a N') : DrawN M p t o bs a N' :=
  ⟨k.1, Nat.le_trans h.1 k.2.1, fun q h1 h2 => by rw [k.2.2 q (Nat.lt_of_lt_of_le h1 h.1) h2]; exact h.2 q h1⟩
theorem CurAt.pre {M N : Mem} {p t o : Nat} {bs : List Nat} {a : Nat} (h : CurAt M p t o bs a) (hp : Pre M N) : CurAt N p t o bs a := h.keep hp.2 (Nat.le_refl _)
theorem byte_and {a : BitVec 64} : (a &&& 255#64).toNat ≤ 255 := by
  rw [BitVec.toNat_and]
  exact Nat.and_le_right
theorem u64_small {n : Nat} (h : n ≤ 255) : IntKind.i64.wrap (IntKind.u64.wrap (n : Int)) = (n : Int) := by
  have : IntKind.u64.wrap (n : Int) = (n : Int) := by
    rw [IntKind.wrap_u64]; omega
  rw [this, wrap_id (by omega)]
theorem u64_key (a : BitVec 64) : LV.val (.int .i64 (IntKind.i64.wrap (IntKind.u64.wrap (((a &&& BitVec.ofInt 64 255).toNat : Nat) : Int)))) = LV.I (((a &&& 255#64).toNat : Nat) : Int) := by
  rw [show BitVec.ofInt 64 255 = 255#64 from rfl, u64_small byte_and]
section
variable {p t o a : Nat} {bs : List Nat} {M : Mem}
theorem d_next (h : CurAt M p t o bs a) (ha : a ≤ 1000000) : CallsR PG F.spec_l1Cur_next [.ptr p 0] M fun v N => (∃ b : Nat, v = .I b ∧ b ≤ 255) ∧ DrawN M p t o bs (a + 1) N := by
  obtain ⟨⟨i, s, hi, hp⟩, hB, htp, h255, hbl⟩ := id h
  have hpl := hp.lt
  refine callsR_run K.spec_l1Cur_next rfl ?_
  have fin : ∀ {N : Mem} {s' : Int}, N.length = M.length → Live N p (.row [.ref t o bs.length, .I (i + 1 : Nat), .val (.int .u64 s')] true 0) → (∀ q, q ≠ p → q < M.length → N[q]? = M[q]?) → DrawN M p t o bs (a + 1) N := fun {N s'} h1 h2 h3 =>
    ⟨⟨⟨i + 1, s', by omega, h2⟩, Has.at' hB (h3 t htp hB.lt), htp, h255, hbl⟩, by omega, fun q q1 q2 => h3 q q2 q1⟩
  by_cases hlt : i < bs.length
  · have hg := hB.get hlt
    have hb := h255 _ (getD_mem' (d := 0) hlt)
    generalize bs.getD i 0 = b at hg hb
    have hle : (i : Int) + 1 ≤ bs.length := by omega
    simp (disch := omega) only [C.spec_l1Cur_next, hp.cell, hlt, hg, Nat.mul_one, ↓SXd, SXu, slBounds, ↓sop, ↓aop, ↓reduceIte, LV.cells, AOp.dst, LV.I, LV.B, LV.U, LV.S, LV.nil, Nat.reduceEqDiff, Nat.reduceAdd, Nat.reduceMul, Nat.reduceSub, Nat.reduceLeDiff, Nat.reduceBEq, Nat.reduceDiv, Nat.reduceMod, Int.reduceToNat, Int.reduceLT, Int.reduceLE, Int.reduceAdd, Int.reduceSub, Int.reduceMul, Int.reduceEq, Int.reduceNeg, reduceCtorEq, resV, resAll, ARes.ev, LV.flat, ite_true, ite_false, exists_eq_left', exists_eq_left, keyOf, implies_true, fillC, capOf]
    refine memK_one hp (by simp) fun N1 j1 j2 j3 => ?_
    simp (disch := omega) only [j2.cell, bv_mul, bv_add, ↓SXd, SXu, slBounds, ↓sop, ↓aop, ↓reduceIte, LV.cells, AOp.dst, LV.I, LV.B, LV.U, LV.S, LV.nil, Nat.reduceEqDiff, Nat.reduceAdd, Nat.reduceMul, Nat.reduceSub, Nat.reduceLeDiff, Nat.reduceBEq, Nat.reduceDiv, Nat.reduceMod, Int.reduceToNat, Int.reduceLT, Int.reduceLE, Int.reduceAdd, Int.reduceSub, Int.reduceMul, Int.reduceEq, Int.reduceNeg, reduceCtorEq, resV, resAll, ARes.ev, LV.flat, ite_true, ite_false, exists_eq_left', exists_eq_left, keyOf, implies_true, fillC, capOf]
    refine memK_one j2 (by simp) fun N2 k1 k2 k3 => ?_
    simp (disch := omega) only [k2.cell, hle, ↓SXd, SXu, slBounds, ↓sop, ↓aop, ↓reduceIte, LV.cells, AOp.dst, LV.I, LV.B, LV.U, LV.S, LV.nil, Nat.reduceEqDiff, Nat.reduceAdd, Nat.reduceMul, Nat.reduceSub, Nat.reduceLeDiff, Nat.reduceBEq, Nat.reduceDiv, Nat.reduceMod, Int.reduceToNat, Int.reduceLT, Int.reduceLE, Int.reduceAdd, Int.reduceSub, Int.reduceMul, Int.reduceEq, Int.reduceNeg, reduceCtorEq, resV, resAll, ARes.ev, LV.flat, ite_true, ite_false, exists_eq_left', exists_eq_left, keyOf, implies_true, fillC, capOf]
    exact ⟨⟨b, rfl, hb⟩, fin (by omega) k2 fun q q1 q2 => by rw [k3 q q1 (by omega)]; exact j3 q q1 q2⟩
  · have hle : ¬ ((i : Int) + 1 ≤ bs.length) := by omega
    simp (disch := omega) only [C.spec_l1Cur_next, hp.cell, hlt, ↓SXd, SXu, slBounds, ↓sop, ↓aop, ↓reduceIte, LV.cells, AOp.dst, LV.I, LV.B, LV.U, LV.S, LV.nil, Nat.reduceEqDiff, Nat.reduceAdd, Nat.reduceMul, Nat.reduceSub, Nat.reduceLeDiff, Nat.reduceBEq, Nat.reduceDiv, Nat.reduceMod, Int.reduceToNat, Int.reduceLT, Int.reduceLE, Int.reduceAdd, Int.reduceSub, Int.reduceMul, Int.reduceEq, Int.reduceNeg, reduceCtorEq, resV, resAll, ARes.ev, LV.flat, ite_true, ite_false, exists_eq_left', exists_eq_left, keyOf, implies_true, fillC, capOf]
    refine memK_one hp (by simp) fun N1 j1 j2 j3 => ?_
    simp (disch := omega) only [j2.cell, bv_mul, bv_add, ↓SXd, SXu, slBounds, ↓sop, ↓aop, ↓reduceIte, LV.cells, AOp.dst, LV.I, LV.B, LV.U, LV.S, LV.nil, Nat.reduceEqDiff, Nat.reduceAdd, Nat.reduceMul, Nat.reduceSub, Nat.reduceLeDiff, Nat.reduceBEq, Nat.reduceDiv, Nat.reduceMod, Int.reduceToNat, Int.reduceLT, Int.reduceLE, Int.reduceAdd, Int.reduceSub, Int.reduceMul, Int.reduceEq, Int.reduceNeg, reduceCtorEq, resV, resAll, ARes.ev, LV.flat, ite_true, ite_false, exists_eq_left', exists_eq_left, keyOf, implies_true, fillC, capOf]
    refine memK_one j2 (by simp) fun N2 k1 k2 k3 => ?_
    simp (disch := omega) only [k2.cell, hle, bv_shr, bv_and, ↓SXd, SXu, slBounds, ↓sop, ↓aop, ↓reduceIte, LV.cells, AOp.dst, LV.I, LV.B, LV.U, LV.S, LV.nil, Nat.reduceEqDiff, Nat.reduceAdd, Nat.reduceMul, Nat.reduceSub, Nat.reduceLeDiff, Nat.reduceBEq, Nat.reduceDiv, Nat.reduceMod, Int.reduceToNat, Int.reduceLT, Int.reduceLE, Int.reduceAdd, Int.reduceSub, Int.reduceMul, Int.reduceEq, Int.reduceNeg, reduceCtorEq, resV, resAll, ARes.ev, LV.flat, ite_true, ite_false, exists_eq_left', exists_eq_left, keyOf, implies_true, fillC, capOf]
    refine ⟨⟨_, u64_key _, byte_and⟩, fin (by omega) k2 fun q q1 q2 => by rw [k3 q q1 (by omega)]; exact j3 q q1 q2⟩
theorem d_pick {n : Int} (h : CurAt M p t o bs a) (ha : a ≤ 999990) : CallsR PG F.spec_l1Cur_pick [.ptr p 0, .I n] M fun v N => (∃ b : Nat, v = .I b ∧ ((b : Int) < n ∨ b = 0)) ∧ DrawN M p t o bs (a + 2) N := by
  refine callsR_run K.spec_l1Cur_pick rfl ?_
  by_cases h1 : n ≤ 1
  · simp (disch := omega) only [C.spec_l1Cur_pick, h1, ↓SXd, SXu, slBounds, ↓sop, ↓aop, ↓reduceIte, LV.cells, AOp.dst, LV.I, LV.B, LV.U, LV.S, LV.nil, Nat.reduceEqDiff, Nat.reduceAdd, Nat.reduceMul, Nat.reduceSub, Nat.reduceLeDiff, Nat.reduceBEq, Nat.reduceDiv, Nat.reduceMod, Int.reduceToNat, Int.reduceLT, Int.reduceLE, Int.reduceAdd, Int.reduceSub, Int.reduceMul, Int.reduceEq, Int.reduceNeg, reduceCtorEq, resV, resAll, ARes.ev, LV.flat, ite_true, ite_false, exists_eq_left', exists_eq_left, keyOf, implies_true, fillC, capOf]
    exact ⟨⟨0, rfl, .inr rfl⟩, h.keep (fun _ _ => rfl) (by omega), Nat.le_refl _, fun _ _ _ => rfl⟩
  · have hn0 : ¬ (n = 0) := by omega
    simp (disch := omega) only [C.spec_l1Cur_pick, h1, ↓SXd, SXu, slBounds, ↓sop, ↓aop, ↓reduceIte, LV.cells, AOp.dst, LV.I, LV.B, LV.U, LV.S, LV.nil, Nat.reduceEqDiff, Nat.reduceAdd, Nat.reduceMul, Nat.reduceSub, Nat.reduceLeDiff, Nat.reduceBEq, Nat.reduceDiv, Nat.reduceMod, Int.reduceToNat, Int.reduceLT, Int.reduceLE, Int.reduceAdd, Int.reduceSub, Int.reduceMul, Int.reduceEq, Int.reduceNeg, reduceCtorEq, resV, resAll, ARes.ev, LV.flat, ite_true, ite_false, exists_eq_left', exists_eq_left, keyOf, implies_true, fillC, capOf]
    refine callR_of (d_next h (by omega)) ?_
    rintro _ N ⟨⟨b, rfl, hb⟩, hd⟩
    have hm := fun (m : Nat) => Int.tmod_eq_emod_of_nonneg (a := (m : Int)) (b := n) (by omega)
    have hm2 := fun (m : Nat) => Int.emod_nonneg (m : Int) (b := n) (by omega)
    have hm3 := fun (m : Nat) => Int.emod_lt_of_pos (m : Int) (b := n) (by omega)
    by_cases h2 : n > 200
    · simp (disch := omega) only [h2, ↓SXd, SXu, slBounds, ↓sop, ↓aop, ↓reduceIte, LV.cells, AOp.dst, LV.I, LV.B, LV.U, LV.S, LV.nil, Nat.reduceEqDiff, Nat.reduceAdd, Nat.reduceMul, Nat.reduceSub, Nat.reduceLeDiff, Nat.reduceBEq, Nat.reduceDiv, Nat.reduceMod, Int.reduceToNat, Int.reduceLT, Int.reduceLE, Int.reduceAdd, Int.reduceSub, Int.reduceMul, Int.reduceEq, Int.reduceNeg, reduceCtorEq, resV, resAll, ARes.ev, LV.flat, ite_true, ite_false, exists_eq_left', exists_eq_left, keyOf, implies_true, fillC, capOf]
      refine callR_of (d_next hd.1 (by omega)) ?_
      rintro _ N2 ⟨⟨b2, rfl, hb2⟩, hd2⟩
      simp (disch := omega) only [ne_eq, hn0, not_false_eq_true, ↓SXd, SXu, slBounds, ↓sop, ↓aop, ↓reduceIte, LV.cells, AOp.dst, LV.I, LV.B, LV.U, LV.S, LV.nil, Nat.reduceEqDiff, Nat.reduceAdd, Nat.reduceMul, Nat.reduceSub, Nat.reduceLeDiff, Nat.reduceBEq, Nat.reduceDiv, Nat.reduceMod, Int.reduceToNat, Int.reduceLT, Int.reduceLE, Int.reduceAdd, Int.reduceSub, Int.reduceMul, Int.reduceEq, Int.reduceNeg, reduceCtorEq, resV, resAll, ARes.ev, LV.flat, ite_true, ite_false, exists_eq_left', exists_eq_left, keyOf, implies_true, fillC, capOf]
      have e := hm (b * 256 + b2)
      have e2 := hm2 (b * 256 + b2)
      have e3 := hm3 (b * 256 + b2)
      refine ⟨⟨(((b * 256 + b2 : Nat) : Int) % n).toNat, ?_, .inl (by omega)⟩, hd.trans hd2⟩
      rw [Int.toNat_of_nonneg e2, ← e]
      rw [Int.natCast_add, Int.natCast_mul]; rfl
    · simp (disch := omega) only [h2, ne_eq, hn0, not_false_eq_true, ↓SXd, SXu, slBounds, ↓sop, ↓aop, ↓reduceIte, LV.cells, AOp.dst, LV.I, LV.B, LV.U, LV.S, LV.nil, Nat.reduceEqDiff, Nat.reduceAdd, Nat.reduceMul, Nat.reduceSub, Nat.reduceLeDiff, Nat.reduceBEq, Nat.reduceDiv, Nat.reduceMod, Int.reduceToNat, Int.reduceLT, Int.reduceLE, Int.reduceAdd, Int.reduceSub, Int.reduceMul, Int.reduceEq, Int.reduceNeg, reduceCtorEq, resV, resAll, ARes.ev, LV.flat, ite_true, ite_false, exists_eq_left', exists_eq_left, keyOf, implies_true, fillC, capOf]
      have e := hm b
      have e2 := hm2 b
      have e3 := hm3 b
      refine ⟨⟨((b : Int) % n).toNat, by rw [Int.toNat_of_nonneg e2, ← e], .inl (by omega)⟩, ?_⟩
      exact ⟨hd.1.keep (fun _ _ => rfl) (by omega), hd.2⟩
theorem d_one {n : Int} (h : CurAt M p t o bs a) (ha : a ≤ 999990) : CallsR PG F.spec_l1Cur_one [.ptr p 0, .I n] M fun v N => (∃ b : Bool, v = .B b) ∧ DrawN M p t o bs (a + 2) N := by
  refine callsR_run K.spec_l1Cur_one rfl ?_
  simp (disch := omega) only [C.spec_l1Cur_one, ↓SXd, SXu, slBounds, ↓sop, ↓aop, ↓reduceIte, LV.cells, AOp.dst, LV.I, LV.B, LV.U, LV.S, LV.nil, Nat.reduceEqDiff, Nat.reduceAdd, Nat.reduceMul, Nat.reduceSub, Nat.reduceLeDiff, Nat.reduceBEq, Nat.reduceDiv, Nat.reduceMod, Int.reduceToNat, Int.reduceLT, Int.reduceLE, Int.reduceAdd, Int.reduceSub, Int.reduceMul, Int.reduceEq, Int.reduceNeg, reduceCtorEq, resV, resAll, ARes.ev, LV.flat, ite_true, ite_false, exists_eq_left', exists_eq_left, keyOf, implies_true, fillC, capOf]
  refine callR_of (d_pick h ha) ?_
  rintro _ N ⟨⟨b, rfl, _⟩, hd⟩
  simp (disch := omega) only [↓SXd, SXu, slBounds, ↓sop, ↓aop, ↓reduceIte, LV.cells, AOp.dst, LV.I, LV.B, LV.U, LV.S, LV.nil, Nat.reduceEqDiff, Nat.reduceAdd, Nat.reduceMul, Nat.reduceSub, Nat.reduceLeDiff, Nat.reduceBEq, Nat.reduceDiv, Nat.reduceMod, Int.reduceToNat, Int.reduceLT, Int.reduceLE, Int.reduceAdd, Int.reduceSub, Int.reduceMul, Int.reduceEq, Int.reduceNeg, reduceCtorEq, resV, resAll, ARes.ev, LV.flat, ite_true, ite_false, exists_eq_left', exists_eq_left, keyOf, implies_true, fillC, capOf]
  exact ⟨⟨_, rfl⟩, hd⟩
theorem d_among {u q : Nat} {xs : List Int} (h : CurAt M p t o bs a) (ha : a ≤ 999990) (hx : Ints M u q xs) (hu : u ≠ p) (h0 : 0 < xs.length) (hxl : xs.length ≤ 1000) : CallsR PG F.spec_l1Cur_among [.ptr p 0, .ref u q xs.length] M fun v N => (∃ b : Int, v = .I b ∧ b ∈ xs) ∧ DrawN M p t o bs (a + 2) N := by
  refine callsR_run K.spec_l1Cur_among rfl ?_
  simp (disch := omega) only [C.spec_l1Cur_among, ↓SXd, SXu, slBounds, ↓sop, ↓aop, ↓reduceIte, LV.cells, AOp.dst, LV.I, LV.B, LV.U, LV.S, LV.nil, Nat.reduceEqDiff, Nat.reduceAdd, Nat.reduceMul, Nat.reduceSub, Nat.reduceLeDiff, Nat.reduceBEq, Nat.reduceDiv, Nat.reduceMod, Int.reduceToNat, Int.reduceLT, Int.reduceLE, Int.reduceAdd, Int.reduceSub, Int.reduceMul, Int.reduceEq, Int.reduceNeg, reduceCtorEq, resV, resAll, ARes.ev, LV.flat, ite_true, ite_false, exists_eq_left', exists_eq_left, keyOf, implies_true, fillC, capOf]
  refine callR_of (d_pick h ha) ?_
  rintro _ N ⟨⟨b, rfl, hb⟩, hd⟩
  have hbl : b < xs.length := by omega
  have hg := Ints.get (Has.at' hx (hd.2.2 u hx.lt hu)) hbl
  simp (disch := omega) only [hg, Nat.mul_one, ↓SXd, SXu, slBounds, ↓sop, ↓aop, ↓reduceIte, LV.cells, AOp.dst, LV.I, LV.B, LV.U, LV.S, LV.nil, Nat.reduceEqDiff, Nat.reduceAdd, Nat.reduceMul, Nat.reduceSub, Nat.reduceLeDiff, Nat.reduceBEq, Nat.reduceDiv, Nat.reduceMod, Int.reduceToNat, Int.reduceLT, Int.reduceLE, Int.reduceAdd, Int.reduceSub, Int.reduceMul, Int.reduceEq, Int.reduceNeg, reduceCtorEq, resV, resAll, ARes.ev, LV.flat, ite_true, ite_false, exists_eq_left', exists_eq_left, keyOf, implies_true, fillC, capOf]
  exact ⟨⟨_, rfl, getD_mem' hbl⟩, hd⟩
end
end Go.Ab

namespace Go.Ab
open Go
set_option maxRecDepth 20000

theorem cond_cut {P : Program} {v : LV} {a b c : ACode} {fr : Fr} {M : Mem} {Q : AExit → Fr → Mem → Prop} (I : Fr → Mem → Prop) (h : condC v P a b fr M (thenK I Q)) (hb : ∀ fr M, I fr M → EvC P c fr M Q) : condC v P a b fr M (seqK P c Q) := by
  have hm : ∀ e fr M, thenK I Q e fr M → seqK P c Q e fr M := fun e fr M hh => by
    cases e with
    | normal => exact hb _ _ hh
    | exit i => exact hh
    | ret => exact hh
  have key : ∀ {A A' B B' : Prop}, (A → A') → (B → B') → condV v A B → condV v A' B' := fun {A A' B B'} h1 h2 h => by
    unfold condV at *
    split
    · exact ⟨fun e => h1 (h.1 e), fun e => h2 (h.2 e)⟩
    · rename_i hne
      split at h
      · exact (hne _ rfl).elim
      · exact h
  exact key (evc_mono hm) (evc_mono hm) h
theorem k_rBig {t o : Nat} {n : Nat} {M : Mem} (hn : n ≤ 9223372036854775807) : CallsTo PG F.laws_rBig [.ref t o n] M (.B (decide ((65536 : Int) < n))) M := by
  refine calls_run K.laws_rBig rfl ?_
  simp (disch := omega) only [C.laws_rBig, ↓SXd, SXu, slBounds, ↓sop, ↓aop, ↓reduceIte, LV.cells, AOp.dst, LV.I, LV.B, LV.U, LV.S, LV.nil, Nat.reduceEqDiff, Nat.reduceAdd, Nat.reduceMul, Nat.reduceSub, Nat.reduceLeDiff, Nat.reduceBEq, Nat.reduceDiv, Nat.reduceMod, Int.reduceToNat, Int.reduceLT, Int.reduceLE, Int.reduceAdd, Int.reduceSub, Int.reduceMul, Int.reduceEq, Int.reduceNeg, reduceCtorEq, resV, resAll, ARes.ev, LV.flat, ite_true, ite_false, exists_eq_left', exists_eq_left, keyOf, implies_true, fillC, capOf]
  exact cmp_drop0 rfl
theorem IntsV.lenV {N : Mem} {v : LV} {l : List Int} (h : IntsV N v l) : lenV v = some (l.length : Int) := by
  rcases h with ⟨rfl, rfl⟩ | ⟨t, o, rfl, _⟩ <;> rfl
theorem IntsV.at {N : Mem} {v : LV} {l : List Int} {k : Nat} (h : IntsV N v l) (hk : k < l.length) : ∃ t o, v = .ref t o l.length ∧ getCell N t (o + k) = some (.I (l.getD k 0)) := by
  rcases h with ⟨rfl, rfl⟩ | ⟨t, o, rfl, h⟩
  · simp at hk
  · exact ⟨t, o, rfl, Ints.get h hk⟩
end Go.Ab

namespace Go.Ab.C
open Go.Ab
end Go.Ab.C

namespace Go.Ab.K
open Go Go.Ab
end Go.Ab.K

namespace Go.Ab.C
open Go.Ab
end Go.Ab.C

namespace Go.Ab.K
open Go Go.Ab
end Go.Ab.K

namespace Go.Ab
open Go

def Den1 (t : Nat) (a b : LV) : Prop := a = b ∨ (a = .nil ∧ b = .ref t 0 0)
def Den0 (t : Nat) (a b : LV) : Prop := Den1 t a b ∨ ∃ cs ds, a = .agg cs ∧ b = .agg ds ∧ All2 (Den1 t) cs ds
def Den (t : Nat) (a b : LV) : Prop := Den0 t a b ∨ ∃ cs ds, a = .tup cs ∧ b = .tup ds ∧ All2 (Den0 t) cs ds
theorem Den1.rfl {t : Nat} {a : LV} : Den1 t a a := .inl (Eq.refl a)
theorem Den0.rfl {t : Nat} {a : LV} : Den0 t a a := .inl .rfl
theorem Den1.nil {t : Nat} : Den1 t .nil (.ref t 0 0) := .inr ⟨Eq.refl _, Eq.refl _⟩
theorem All2.thru {α β γ : Type} {R : α → β → Prop} {S : α → γ → Prop} {T : γ → β → Prop} (h : ∀ a b c, R a b → S a c → T c b) : ∀ {l1 : List α} {l2 : List β} {l3 : List γ}, All2 R l1 l2 → All2 S l1 l3 → All2 T l3 l2
  | [], [], [], _, _ => trivial
  | _ :: _, _ :: _, _ :: _, h1, h2 => ⟨h _ _ _ h1.1 h2.1, All2.thru h h1.2 h2.2⟩
  | [], _ :: _, _, h1, _ => h1.elim
  | _ :: _, [], _, h1, _ => h1.elim
  | [], _, _ :: _, _, h2 => h2.elim
  | _ :: _, _, [], _, h2 => h2.elim
section
variable {G : Gh} {t : Nat} {β : Base} (hg : G t = some β)
include hg
theorem VR1.den {a b : LV} {x : Value} (h : VR1 G a x) (k : Den1 t a b) : VR1 G b x := by
  rcases k with rfl | ⟨rfl, rfl⟩
  · exact h
  · obtain ⟨rfl, _⟩ := h
    exact ⟨β, hg, none, 0, rfl, .inl ⟨rfl, rfl⟩⟩
theorem VR0.den {a b : LV} {x : Value} (h : VR0 G a x) (k : Den0 t a b) : VR0 G b x := by
  rcases k with k | ⟨cs, ds, rfl, rfl, k⟩
  · rcases k with rfl | ⟨rfl, rfl⟩
    · exact h
    · exact VR1.den hg (a := .nil) (b := .ref t 0 0) h .nil
  · obtain ⟨xs, h1, h2⟩ := h
    exact ⟨xs, h1, All2.thru (R := VR1 G) (S := Den1 t) (T := VR1 G) (fun _ _ _ p q => VR1.den hg p q) h2 k⟩
theorem VR.den {a b : LV} {x : Value} (h : VR G a x) (k : Den t a b) : VR G b x := by
  rcases k with k | ⟨cs, ds, rfl, rfl, k⟩
  · rcases k with k | ⟨cs, ds, rfl, rfl, k⟩
    · rcases k with rfl | ⟨rfl, rfl⟩
      · exact h
      · exact VR1.den hg (a := .nil) (b := .ref t 0 0) h .nil
    · exact VR0.den hg (a := .agg cs) (b := .agg ds) h (.inr ⟨cs, ds, rfl, rfl, k⟩)
  · obtain ⟨xs, h1, h2⟩ := h
    exact ⟨xs, h1, All2.thru (R := VR0 G) (S := Den0 t) (T := VR0 G) (fun _ _ _ p q => VR0.den hg p q) h2 k⟩
end
theorem CallsR.den {P : Program} {f : FuncId} {args : List LV} {M : Mem} {A B : LV → Mem → Prop} {e : Nat} (h : CallsR P f args M A) (hab : ∀ v N, A v N → B v N ∨ ∃ v', Den N.length v v' ∧ B v' (N ++ [some (.row [] true e)])) : CallsR P f args M B := by
  refine ⟨h.1, fun G w xs hi hx => (h.2 G w xs hi hx).mono fun r w' ⟨v, N, x, G', h1, h2, h3, h4, h5⟩ => ?_⟩
  rcases hab v N h1 with hb | ⟨v', hd, hb⟩
  · exact ⟨v, N, x, G', hb, h2, h3, h4, h5⟩
  have hno := h4.top N.length (Nat.le_refl _)
  have hxt : Ext G' (G'.put N.length ⟨0, 0, e, 0, true⟩) := Gh.put_ext hno
  have hat : (G'.put N.length ⟨0, 0, e, 0, true⟩) N.length = some ⟨0, 0, e, 0, true⟩ := by simp [Gh.put]
  refine ⟨v', _, x, G'.put N.length ⟨0, 0, e, 0, true⟩, hb, h2, VR.den hat (VR.ext hxt h3) hd, ⟨fun t b hl => ?_, fun t t' b b' γ γ' hne hl hl' ho hγ hγ' hv hv' => ?_, fun t ht => ?_⟩, ⟨fun t ht => ?_, by have := h5.len; simp; omega, h5.size, h5.os, h5.tape, h5.output, h5.keep, fun b hb => ?_, fun t b hl ho => ?_⟩⟩
  · rcases live_push hl with ⟨_, h6⟩ | ⟨rfl, rfl⟩
    · obtain ⟨γ, hγ, he⟩ := h4.emb t b h6
      exact ⟨γ, hxt _ _ hγ, he.ext hxt fun _ => rfl⟩
    · exact ⟨_, hat, rfl, .inl ⟨rfl, rfl⟩⟩
  · rcases live_push hl with ⟨hlt, h6⟩ | ⟨rfl, rfl⟩
    · rcases live_push hl' with ⟨hlt', h7⟩ | ⟨rfl, rfl⟩
      · unfold Gh.put at hγ hγ'
        rw [if_neg (by omega)] at hγ hγ'
        exact h4.sep t t' b b' γ γ' hne h6 h7 ho hγ hγ' hv hv'
      · rw [hat] at hγ'; cases hγ'; cases hv'
    · rw [hat] at hγ; cases hγ; cases hv
  · simp at ht
    unfold Gh.put
    rw [if_neg (by omega)]
    exact h4.top t (by omega)
  · have := h5.len
    unfold Gh.put
    rw [if_neg (by omega)]
    exact h5.gh t ht
  · refine h5.own b ?_
    obtain ⟨t, blk, γ, hl, ho, hγ, hv, hbb⟩ := hb
    rcases live_push hl with ⟨hlt, h6⟩ | ⟨rfl, rfl⟩
    · unfold Gh.put at hγ
      rw [if_neg (by omega)] at hγ
      exact ⟨t, blk, γ, h6, ho, hγ, hv, hbb⟩
    · rw [hat] at hγ; cases hγ; cases hv
  · rcases live_push hl with ⟨_, h6⟩ | ⟨rfl, rfl⟩
    · exact h5.ro t b h6 ho
    · cases ho
end Go.Ab

namespace Go.Ab.C
open Go.Ab
def spec_l1Cur_heap : AFn :=
 ⟨1, 56, [.cellN 2 4],
 .seq (.ops [(none, .alloc 2 [(.I 0), (.I 0), (.I 0), .nil])])
 (.seq (.ops [(none, .mv 8 (.t 0)),
 (none, .call (some 9) F.spec_l1Cur_sides [(.t 8)]),
 (none, .mv 7 (.t 9)),
 (none, .extract 10 (.t 7) 0),
 (none, .extract 11 (.t 7) 1),
 (none, .extract 12 (.t 7) 2),
 (none, .mv 3 (.t 10)),
 (none, .mv 4 (.t 11)),
 (none, .mv 5 (.t 12))])
 (.seq (.ops [(none, .mv 13 (.t 0)),
 (none, .mv 14 (.t 3)),
 (none, .mv 15 (.t 4)),
 (none, .mv 16 (.t 5)),
 (none, .call (some 17) F.spec_l1Cur_someHeap [(.t 13), (.t 14), (.t 15), (.t 16)]),
 (none, .alloc 6 [(.I 0), (.I 0), (.I 0), .nil]),
 (none, .store 4 (.t 6) (.t 17))])
 (.seq (.seq (.ops [(none, .mv 18 (.t 0)),
 (none, .call (some 19) F.spec_l1Cur_pick [(.t 18), (.c (.I 60))])])
 (.block 0 (.seq (.ops [(none, .bin 21 .eql (.t 19) (.c (.I 0))),
 (none, .mv 20 (.t 21))])
 (.cond (.t 20) (.ops [(none, .fieldAddr 22 (.t 6) 3),
 (none, .load1 23 (.t 22)),
 (none, .mv 24 (.t 3)),
 (none, .build 25 [(.I 0), (.I 0), (.I 0)] [(0, 1, (.t 24)), (1, 1, (.c (.I 0))), (2, 1, (.c (.I 0)))]),
 (none, .buildSl 26 1 3 [(.I 0), (.I 0), (.I 0)] [(0, 3, (.t 25))]),
 (none, .append 27 3 24 (.t 23) (.t 26)),
 (none, .fieldAddr 28 (.t 6) 3),
 (none, .store 1 (.t 28) (.t 27))])
 (.seq (.ops [(none, .bin 30 .eql (.t 19) (.c (.I 1))),
 (none, .mv 29 (.t 30))])
 (.cond (.t 29) (.ops [(none, .fieldAddr 31 (.t 6) 3),
 (none, .load1 32 (.t 31)),
 (none, .build 33 [(.I 0), (.I 0), (.I 0)] [(0, 1, (.c (.I (-1)))), (1, 1, (.c (.I 0))), (2, 1, (.c (.I 0)))]),
 (none, .buildSl 34 1 3 [(.I 0), (.I 0), (.I 0)] [(0, 3, (.t 33))]),
 (none, .append 35 3 24 (.t 32) (.t 34)),
 (none, .fieldAddr 36 (.t 6) 3),
 (none, .store 1 (.t 36) (.t 35))])
 (.seq (.ops [(none, .bin 38 .eql (.t 19) (.c (.I 2))),
 (none, .mv 37 (.t 38))])
 (.cond (.t 37) (.seq (.ops [(none, .fieldAddr 39 (.t 6) 3),
 (none, .load1 40 (.t 39)),
 (none, .len 41 (.t 40)),
 (none, .bin 42 .gtr (.t 41) (.c (.I 0)))])
 (.cond (.t 42) (.draw [⟨(none, .fieldAddr 43 (.t 6) 3), [], []⟩,
 ⟨(none, .load1 44 (.t 43)), [], []⟩,
 ⟨(none, .fieldAddr 45 (.t 6) 3), [], []⟩,
 ⟨(none, .load1 46 (.t 45)), [], []⟩,
 ⟨(none, .idxS 47 3 (.t 46) (.c (.I 0))), [], []⟩,
 ⟨(none, .loadN 48 3 (.t 47)), [], []⟩,
 ⟨(none, .buildSl 49 1 3 [(.I 0), (.I 0), (.I 0)] [(0, 3, (.t 48))]), [], []⟩,
 ⟨(none, .append 50 3 24 (.t 44) (.t 49)), [], []⟩,
 ⟨(none, .fieldAddr 51 (.t 6) 3), [], []⟩,
 ⟨(none, .store 1 (.t 51) (.t 50)), [], []⟩])
 (.skip)))
 (.seq (.ops [(none, .bin 53 .eql (.t 19) (.c (.I 3))),
 (none, .mv 52 (.t 53))])
 (.cond (.t 52) (.seq (.ops [(none, .build 54 [(.I 0), (.I 0), (.I 0), .nil] []),
 (none, .store 4 (.t 2) (.t 54))])
 (.ret))
 (.skip)))))))))))
 (.seq (.ops [(none, .loadN 55 4 (.t 6)),
 (none, .store 4 (.t 2) (.t 55))])
 (.ret)))))⟩
end Go.Ab.C

namespace Go.Ab.K
open Go Go.Ab
theorem spec_l1Cur_heap : prepF Go.Proofs.Try.prog F.spec_l1Cur_heap = some C.spec_l1Cur_heap := by kernel_rfl
end Go.Ab.K

namespace Go.Ab.C
open Go.Ab
def spec_l1Cur_sides : AFn :=
 ⟨1, 37, [.tmp 2, .tmp 3, .tmp 4],
 .seq (.ops [(none, .mv 2 (.c (.I 0))),
 (none, .mv 3 (.c (.I 0))),
 (none, .mv 4 (.c (.I 0)))])
 (.seq (.ops [(none, .mv 8 (.t 0)),
 (none, .buildSl 9 5 1 [(.I 0), (.I 0), (.I 0), (.I 0), (.I 0)] [(0, 1, (.c (.I 2))), (1, 1, (.c (.I 3))), (2, 1, (.c (.I 3))), (3, 1, (.c (.I 1))), (4, 1, (.c (.I 4)))]),
 (none, .call (some 10) F.spec_l1Cur_among [(.t 8), (.t 9)]),
 (none, .mv 11 (.t 0)),
 (none, .buildSl 12 5 1 [(.I 0), (.I 0), (.I 0), (.I 0), (.I 0)] [(0, 1, (.c (.I 2))), (1, 1, (.c (.I 3))), (2, 1, (.c (.I 2))), (3, 1, (.c (.I 1))), (4, 1, (.c (.I 4)))]),
 (none, .call (some 13) F.spec_l1Cur_among [(.t 11), (.t 12)]),
 (none, .mv 14 (.t 0)),
 (none, .buildSl 15 5 1 [(.I 0), (.I 0), (.I 0), (.I 0), (.I 0)] [(0, 1, (.c (.I 2))), (1, 1, (.c (.I 3))), (2, 1, (.c (.I 3))), (3, 1, (.c (.I 1))), (4, 1, (.c (.I 4)))]),
 (none, .call (some 16) F.spec_l1Cur_among [(.t 14), (.t 15)]),
 (none, .mv 5 (.t 10)),
 (none, .mv 6 (.t 13)),
 (none, .mv 7 (.t 16))])
 (.seq (.seq (.ops [(none, .mv 17 (.t 0)),
 (none, .call (some 18) F.spec_l1Cur_pick [(.t 17), (.c (.I 60))])])
 (.block 0 (.seq (.ops [(none, .bin 20 .eql (.t 18) (.c (.I 0))),
 (none, .mv 19 (.t 20))])
 (.cond (.t 19) (.ops [(none, .mv 21 (.t 0)),
 (none, .buildSl 22 4 1 [(.I 0), (.I 0), (.I 0), (.I 0)] [(0, 1, (.c (.I 0))), (1, 1, (.c (.I 5))), (2, 1, (.c (.I (-1)))), (3, 1, (.c (.I 4611686018427387904)))]),
 (none, .call (some 23) F.spec_l1Cur_among [(.t 21), (.t 22)]),
 (none, .mv 5 (.t 23))])
 (.seq (.ops [(none, .bin 25 .eql (.t 18) (.c (.I 1))),
 (none, .mv 24 (.t 25))])
 (.cond (.t 24) (.ops [(none, .mv 26 (.t 0)),
 (none, .buildSl 27 3 1 [(.I 0), (.I 0), (.I 0)] [(0, 1, (.c (.I 0))), (1, 1, (.c (.I 5))), (2, 1, (.c (.I (-1))))]),
 (none, .call (some 28) F.spec_l1Cur_among [(.t 26), (.t 27)]),
 (none, .mv 6 (.t 28))])
 (.seq (.ops [(none, .bin 30 .eql (.t 18) (.c (.I 2))),
 (none, .mv 29 (.t 30))])
 (.cond (.t 29) (.ops [(none, .mv 31 (.t 0)),
 (none, .buildSl 32 3 1 [(.I 0), (.I 0), (.I 0)] [(0, 1, (.c (.I 0))), (1, 1, (.c (.I 5))), (2, 1, (.c (.I (-1))))]),
 (none, .call (some 33) F.spec_l1Cur_among [(.t 31), (.t 32)]),
 (none, .mv 7 (.t 33))])
 (.skip)))))))))
 (.seq (.ops [(none, .mv 34 (.t 5)),
 (none, .mv 35 (.t 6)),
 (none, .mv 36 (.t 7)),
 (none, .mv 2 (.t 34)),
 (none, .mv 3 (.t 35)),
 (none, .mv 4 (.t 36))])
 (.ret))))⟩
def spec_l1Cur_someHeap : AFn :=
 ⟨4, 64, [.cellN 8 4],
 .seq (.ops [(none, .alloc 8 [(.I 0), (.I 0), (.I 0), .nil])])
 (.seq (.ops [(none, .mv 13 (.t 1)),
 (none, .mv 14 (.t 2)),
 (none, .mv 15 (.t 3)),
 (none, .call (some 16) F.spec_l2Empty [(.t 13), (.t 14), (.t 15)]),
 (none, .mv 17 (.t 0)),
 (none, .buildSl 18 4 1 [(.I 0), (.I 0), (.I 0), (.I 0)] [(0, 1, (.c (.I 2))), (1, 1, (.c (.I 3))), (2, 1, (.c (.I 2))), (3, 1, (.c (.I 4)))]),
 (none, .call (some 19) F.spec_l1Cur_among [(.t 17), (.t 18)]),
 (none, .alloc 9 [(.I 0), (.I 0), (.I 0), .nil]),
 (none, .store 4 (.t 9) (.t 16)),
 (none, .mv 10 (.t 19))])
 (.seq (.seq (.ops [(none, .mv 20 (.t 1)),
 (none, .mv 21 (.t 2)),
 (none, .mv 22 (.t 3)),
 (none, .call (some 23) F.spec_l2Sides [(.t 20), (.t 21), (.t 22)]),
 (none, .un 24 .not (.t 23))])
 (.cond (.t 24) (.seq (.ops [(none, .loadN 25 4 (.t 9)),
 (none, .store 4 (.t 8) (.t 25))])
 (.ret))
 (.skip)))
 (.seq (.ops [(none, .loadN 26 4 (.t 9)),
 (none, .call (some 27) F.spec_l2All [(.t 26)]),
 (none, .mv 11 (.t 27))])
 (.seq (.seq (.ops [(none, .mv 12 (.c (.I 0)))])
 (.block 0 (.loop (.seq (.seq (.ops [(none, .mv 28 (.t 12)),
 (none, .mv 29 (.t 11)),
 (none, .len 30 (.t 29)),
 (none, .bin 31 .lss (.t 28) (.t 30))])
 (.cond (.t 31) (.skip)
 (.exit 0)))
 (.seq (.block 1 (.seq (.ops [(none, .mv 34 (.t 0)),
 (none, .mv 35 (.t 10)),
 (none, .call (some 36) F.spec_l1Cur_one [(.t 34), (.t 35)])])
 (.cond (.t 36) (.draw [⟨(none, .fieldAddr 37 (.t 9) 3), [], []⟩,
 ⟨(none, .load1 38 (.t 37)), [], []⟩,
 ⟨(none, .mv 39 (.t 11)), [], []⟩,
 ⟨(none, .mv 40 (.t 12)), [], []⟩,
 ⟨(none, .idxS 41 3 (.t 39) (.t 40)), [], []⟩,
 ⟨(none, .loadN 42 3 (.t 41)), [], []⟩,
 ⟨(none, .buildSl 43 1 3 [(.I 0), (.I 0), (.I 0)] [(0, 3, (.t 42))]), [], []⟩,
 ⟨(none, .append 44 3 24 (.t 38) (.t 43)), [], []⟩,
 ⟨(none, .fieldAddr 45 (.t 9) 3), [], []⟩,
 ⟨(none, .store 1 (.t 45) (.t 44)), [], []⟩])
 (.skip))))
 (.ops [(none, .mv 32 (.t 12)),
 (none, .bin 33 .add (.t 32) (.c (.I 1))),
 (none, .mv 12 (.t 33))]))))))
 (.seq (.seq (.ops [(none, .mv 46 (.t 0)),
 (none, .call (some 47) F.spec_l1Cur_pick [(.t 46), (.c (.I 12))])])
 (.block 2 (.seq (.ops [(none, .bin 49 .eql (.t 47) (.c (.I 0))),
 (none, .mv 48 (.t 49))])
 (.cond (.t 48) (.ops [(none, .loadN 51 4 (.t 9)),
 (none, .call (some 52) F.spec_OtherCells [(.t 51)]),
 (none, .mv 50 (.t 52)),
 (none, .extract 53 (.t 50) 0),
 (none, .extract 54 (.t 50) 1),
 (none, .store 4 (.t 9) (.t 53))])
 (.seq (.ops [(none, .bin 56 .eql (.t 47) (.c (.I 1))),
 (none, .mv 55 (.t 56))])
 (.cond (.t 55) (.ops [(none, .mv 57 (.t 1)),
 (none, .mv 58 (.t 2)),
 (none, .mv 59 (.t 3)),
 (none, .loadN 60 4 (.t 9)),
 (none, .call (some 61) F.spec_l2Heights [(.t 60)]),
 (none, .call (some 62) F.spec_l2Stack [(.t 57), (.t 58), (.t 59), (.t 61)]),
 (none, .store 4 (.t 9) (.t 62))])
 (.skip)))))))
 (.seq (.ops [(none, .loadN 63 4 (.t 9)),
 (none, .store 4 (.t 8) (.t 63))])
 (.ret)))))))⟩
def spec_l2Heights : AFn :=
 ⟨1, 5, [.tmp 2],
 .seq (.ops [(none, .box 1 (.t 0)),
 (none, .mv 2 (.c .nil))])
 (.seq (.ops [(none, .loadN 3 4 (.t 1)),
 (none, .call (some 4) F.spec_l2View [(.t 3), (.c (.I 2))]),
 (none, .mv 2 (.t 4))])
 (.ret))⟩
end Go.Ab.C

namespace Go.Ab.K
open Go Go.Ab
theorem spec_l1Cur_sides : prepF Go.Proofs.Try.prog F.spec_l1Cur_sides = some C.spec_l1Cur_sides := by kernel_rfl
theorem spec_l1Cur_someHeap : prepF Go.Proofs.Try.prog F.spec_l1Cur_someHeap = some C.spec_l1Cur_someHeap := by kernel_rfl
theorem spec_l2Heights : prepF Go.Proofs.Try.prog F.spec_l2Heights = some C.spec_l2Heights := by kernel_rfl
end Go.Ab.K
