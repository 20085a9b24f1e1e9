/- Parts of the proof of FnHolesSaid: Pe C_Hh0 K_Hh0 Hh0 Hh Tt Hi C_Jb K_Jb C_Ja K_Ja Ja Jb Jc Jf Jk C_Bs K_Bs C_Bq K_Bq Bq C_Qb K_Qb Qb C_Ul K_Ul Ul Bs Qf C_Hk K_Hk C_Tr K_Tr C_Tp K_Tp C_Tn K_Tn C_Tm K_Tm Tm Tn Tp Tr C_Tq K_Tq Tq C_Tz K_Tz Tz. -/
import Derived.Test.YtggnfklcgopflaaA9
import Derived.Test.YtggnfklcgopflaaA4
import Derived.Test.YtggnfklcgopflaaA6
import Derived.Test.YtggnfklcgopflaaA3
import Derived.Test.YtggnfklcgopflaaProg
import Derived.KernelRfl
import Derived.Test.YtggnfklcgopflaaA7
import Derived.Test.YtggnfklcgopflaaA8
import Derived.Test.YtggnfklcgopflaaA5
set_option linter.all false
namespace Go.Ab
open Go

theorem h_l6Steps {M : Mem} : CallsTo PG F.spec_l6Steps [] M (.agg [.I (-1), .I 0, .I 0, .I 1, .I 0, .I 0, .I 0, .I (-1), .I 0, .I 0, .I 1, .I 0, .I 0, .I 0, .I (-1), .I 0, .I 0, .I 1]) M := by
  refine calls_run K.spec_l6Steps rfl ?_
  simp (disch := omega) only [C.spec_l6Steps, splice, ↓SXd, SXu, slBounds, ↓sop, ↓aop, ↓reduceIte, LV.cells, AOp.dst, LV.I, LV.B, LV.U, LV.S, LV.nil, Nat.reduceEqDiff, Nat.reduceAdd, Nat.reduceMul, Nat.reduceSub, Nat.reduceLeDiff, Nat.reduceBEq, Nat.reduceDiv, Nat.reduceMod, Int.reduceToNat, Int.reduceLT, Int.reduceLE, Int.reduceAdd, Int.reduceSub, Int.reduceMul, Int.reduceEq, Int.reduceNeg, reduceCtorEq, resV, resAll, ARes.ev, LV.flat, ite_true, ite_false, exists_eq_left', exists_eq_left, keyOf, implies_true, fillC, capOf]
  exact cmp_drop rfl
theorem h_l6Beside {a b c d e f : Int} {M : Mem} (h : (-100 ≤ a ∧ a ≤ 100) ∧ (-100 ≤ b ∧ b ≤ 100) ∧ (-100 ≤ c ∧ c ≤ 100) ∧ (-100 ≤ d ∧ d ≤ 100) ∧ (-100 ≤ e ∧ e ≤ 100) ∧ (-100 ≤ f ∧ f ≤ 100)) :
    CallsTo PG F.spec_l6Beside [.agg [.I a, .I b, .I c], .agg [.I d, .I e, .I f]] M (.agg [.I (a + d), .I (b + e), .I (c + f)]) M := by
  obtain ⟨⟨_, _⟩, ⟨_, _⟩, ⟨_, _⟩, ⟨_, _⟩, ⟨_, _⟩, ⟨_, _⟩⟩ := h
  refine calls_run K.spec_l6Beside rfl ?_
  simp (disch := omega) only [C.spec_l6Beside, splice, ↓SXd, SXu, slBounds, ↓sop, ↓aop, ↓reduceIte, LV.cells, AOp.dst, LV.I, LV.B, LV.U, LV.S, LV.nil, Nat.reduceEqDiff, Nat.reduceAdd, Nat.reduceMul, Nat.reduceSub, Nat.reduceLeDiff, Nat.reduceBEq, Nat.reduceDiv, Nat.reduceMod, Int.reduceToNat, Int.reduceLT, Int.reduceLE, Int.reduceAdd, Int.reduceSub, Int.reduceMul, Int.reduceEq, Int.reduceNeg, reduceCtorEq, resV, resAll, ARes.ev, LV.flat, ite_true, ite_false, exists_eq_left', exists_eq_left, keyOf, implies_true, fillC, capOf]
  exact cmp_drop rfl

def steps : List Cell := [⟨-1, 0, 0⟩, ⟨1, 0, 0⟩, ⟨0, -1, 0⟩, ⟨0, 1, 0⟩, ⟨0, 0, -1⟩, ⟨0, 0, 1⟩]
theorem steps_nbrs {c : Cell} {k : Nat} (hk : k < 6) : (nbrs c).getD k default = ⟨c.a + (steps.getD k default).a, c.b + (steps.getD k default).b, c.c + (steps.getD k default).c⟩ := by
  rcases (show k = 0 ∨ k = 1 ∨ k = 2 ∨ k = 3 ∨ k = 4 ∨ k = 5 by omega) with rfl | rfl | rfl | rfl | rfl | rfl <;> simp [nbrs, steps]
theorem steps_le {k : Nat} (hk : k < 6) : (-1 ≤ (steps.getD k default).a ∧ (steps.getD k default).a ≤ 1) ∧ (-1 ≤ (steps.getD k default).b ∧ (steps.getD k default).b ≤ 1) ∧ (-1 ≤ (steps.getD k default).c ∧ (steps.getD k default).c ≤ 1) := by
  rcases (show k = 0 ∨ k = 1 ∨ k = 2 ∨ k = 3 ∨ k = 4 ∨ k = 5 by omega) with rfl | rfl | rfl | rfl | rfl | rfl <;> simp [steps]
theorem Live.step {N : Mem} {t k : Nat} (h : Live N t (.row (triL steps) true 0)) (hk : k < 6) : getCells N t (k * 3) 3 = some (steps.getD k default).row := by
  have := Tri.get (cs := steps) (o := 0) h.has (k := k) hk
  rwa [Nat.zero_add] at this

theorem h_l6Enclosed {x y z : Int} {t : Nat} {w : Bool} {cs : List Cell} {M : Mem} (h : Live M t (.row (triL cs) w 3)) (hH : HeapOK x y z cs) :
    CallsTo PG F.spec_l6Enclosed [.agg [.I x, .I y, .I z, .ref t 0 cs.length]] M (.ref M.length 0 (pick x y z (closed x y z fun c => decide (c ∈ cs))).length) (M ++ [some (.row (triL (pick x y z (closed x y z fun c => decide (c ∈ cs)))) true 3)]) := by
  have hS := hH.1
  have hn : cs.length ≤ 1000000000 := by have := hH.len; omega
  obtain ⟨⟨hx0, hx⟩, ⟨hy0, hy⟩, ⟨hz0, hz⟩⟩ := id hS
  have ht := h.lt
  refine calls_run K.spec_l6Enclosed rfl ?_
  simp (disch := omega) only [C.spec_l6Enclosed, ↓SXd, SXu, slBounds, ↓sop, ↓aop, ↓reduceIte, LV.cells, AOp.dst, LV.I, LV.B, LV.U, LV.S, LV.nil, Nat.reduceEqDiff, Nat.reduceAdd, Nat.reduceMul, Nat.reduceSub, Nat.reduceLeDiff, Nat.reduceBEq, Nat.reduceDiv, Nat.reduceMod, Int.reduceToNat, Int.reduceLT, Int.reduceLE, Int.reduceAdd, Int.reduceSub, Int.reduceMul, Int.reduceEq, Int.reduceNeg, reduceCtorEq, resV, resAll, ARes.ev, LV.flat, ite_true, ite_false, exists_eq_left', exists_eq_left, keyOf, implies_true, fillC, capOf]
  refine callK_of (h_l2Empty) ?_
  simp (disch := omega) only [↓SXd, SXu, slBounds, ↓sop, ↓aop, ↓reduceIte, LV.cells, AOp.dst, LV.I, LV.B, LV.U, LV.S, LV.nil, Nat.reduceEqDiff, Nat.reduceAdd, Nat.reduceMul, Nat.reduceSub, Nat.reduceLeDiff, Nat.reduceBEq, Nat.reduceDiv, Nat.reduceMod, Int.reduceToNat, Int.reduceLT, Int.reduceLE, Int.reduceAdd, Int.reduceSub, Int.reduceMul, Int.reduceEq, Int.reduceNeg, reduceCtorEq, resV, resAll, ARes.ev, LV.flat, ite_true, ite_false, exists_eq_left', exists_eq_left, keyOf, implies_true, fillC, capOf]
  refine callK_of (h_l6Steps) ?_
  simp (disch := omega) only [splice, ↓SXd, SXu, slBounds, ↓sop, ↓aop, ↓reduceIte, LV.cells, AOp.dst, LV.I, LV.B, LV.U, LV.S, LV.nil, Nat.reduceEqDiff, Nat.reduceAdd, Nat.reduceMul, Nat.reduceSub, Nat.reduceLeDiff, Nat.reduceBEq, Nat.reduceDiv, Nat.reduceMod, Int.reduceToNat, Int.reduceLT, Int.reduceLE, Int.reduceAdd, Int.reduceSub, Int.reduceMul, Int.reduceEq, Int.reduceNeg, reduceCtorEq, resV, resAll, ARes.ev, LV.flat, ite_true, ite_false, exists_eq_left', exists_eq_left, keyOf, implies_true, fillC, capOf]
  refine ev_loop (fun m fr N => ∃ (i : Int) (u : Nat) (l : List Cell), i + m = x + 1 ∧ -1 ≤ i ∧ Mgn x y z i (-1) (-1) l ∧ Pre M N ∧ Live N M.length (.row [.I x, .I y, .I z, .ref t 0 cs.length] true 0) ∧
    Live N (M.length + 1) (.row [] true 3) ∧ Live N (M.length + 2) (.row [.I x, .I y, .I z, .ref (M.length + 1) 0 0] true 0) ∧ 
    Live N (M.length + 4) (.row (triL steps) true 0) ∧ Live N u (.row (triL l) true 3) ∧ (u = M.length + 3 ∨ M.length + 4 < u) ∧
    fr 1 = .ptr M.length 0 ∧ fr 3 = .ptr (M.length + 2) 0 ∧ fr 4 = .ref u 0 l.length ∧ fr 5 = .ptr (M.length + 4) 0 ∧ fr 6 = .I i) (x + 2).toNat
    ⟨-1, M.length + 3, [], by omega, by omega, Mgn.nil, Pre.app _ _, Live.new, Live.newj rfl, Live.newj rfl, Live.newj rfl, Live.newj rfl, .inl rfl, rfl, rfl, rfl, rfl, rfl⟩ ?_
  rintro m fr N ⟨i, u, l, hi, hi1, hm, hpre, b1, b1', b3, b5, bu, hu, f1, f3, f4, f5, f6⟩
  simp (disch := omega) only [f1, f3, f4, f5, f6, b1.cell, ↓SXd, SXu, slBounds, ↓sop, ↓aop, ↓reduceIte, LV.cells, AOp.dst, LV.I, LV.B, LV.U, LV.S, LV.nil, Nat.reduceEqDiff, Nat.reduceAdd, Nat.reduceMul, Nat.reduceSub, Nat.reduceLeDiff, Nat.reduceBEq, Nat.reduceDiv, Nat.reduceMod, Int.reduceToNat, Int.reduceLT, Int.reduceLE, Int.reduceAdd, Int.reduceSub, Int.reduceMul, Int.reduceEq, Int.reduceNeg, reduceCtorEq, resV, resAll, ARes.ev, LV.flat, ite_true, ite_false, exists_eq_left', exists_eq_left, keyOf, implies_true, fillC, capOf]
  refine condC_dec (fun hlt => ?_) (fun hlt => ?_)
  · simp (disch := omega) only [f1, f3, f4, f5, f6, ↓SXd, SXu, slBounds, ↓sop, ↓aop, ↓reduceIte, LV.cells, AOp.dst, LV.I, LV.B, LV.U, LV.S, LV.nil, Nat.reduceEqDiff, Nat.reduceAdd, Nat.reduceMul, Nat.reduceSub, Nat.reduceLeDiff, Nat.reduceBEq, Nat.reduceDiv, Nat.reduceMod, Int.reduceToNat, Int.reduceLT, Int.reduceLE, Int.reduceAdd, Int.reduceSub, Int.reduceMul, Int.reduceEq, Int.reduceNeg, reduceCtorEq, resV, resAll, ARes.ev, LV.flat, ite_true, ite_false, exists_eq_left', exists_eq_left, keyOf, implies_true, fillC, capOf]
    refine ev_loop (fun m2 fr N => ∃ (j : Int) (u : Nat) (l : List Cell), j + m2 = y + 1 ∧ -1 ≤ j ∧ Mgn x y z i j (-1) l ∧ Pre M N ∧ Live N M.length (.row [.I x, .I y, .I z, .ref t 0 cs.length] true 0) ∧
      Live N (M.length + 1) (.row [] true 3) ∧ Live N (M.length + 2) (.row [.I x, .I y, .I z, .ref (M.length + 1) 0 0] true 0) ∧ 
      Live N (M.length + 4) (.row (triL steps) true 0) ∧ Live N u (.row (triL l) true 3) ∧ (u = M.length + 3 ∨ M.length + 4 < u) ∧
      fr 1 = .ptr M.length 0 ∧ fr 3 = .ptr (M.length + 2) 0 ∧ fr 4 = .ref u 0 l.length ∧ fr 5 = .ptr (M.length + 4) 0 ∧ fr 6 = .I i ∧ fr 7 = .I j) (y + 2).toNat
      ⟨-1, u, l, by omega, by omega, hm, hpre, b1, b1', b3, b5, bu, hu, f1, f3, f4, f5, f6, rfl⟩ ?_
    clear f1 f3 f4 f5 f6 hpre b1 b1' b3 b5 bu hu hm
    rintro m2 fr N ⟨j, u, l, hj, hj1, hm, hpre, b1, b1', b3, b5, bu, hu, f1, f3, f4, f5, f6, f7⟩
    simp (disch := omega) only [f1, f3, f4, f5, f6, f7, b1.cell, ↓SXd, SXu, slBounds, ↓sop, ↓aop, ↓reduceIte, LV.cells, AOp.dst, LV.I, LV.B, LV.U, LV.S, LV.nil, Nat.reduceEqDiff, Nat.reduceAdd, Nat.reduceMul, Nat.reduceSub, Nat.reduceLeDiff, Nat.reduceBEq, Nat.reduceDiv, Nat.reduceMod, Int.reduceToNat, Int.reduceLT, Int.reduceLE, Int.reduceAdd, Int.reduceSub, Int.reduceMul, Int.reduceEq, Int.reduceNeg, reduceCtorEq, resV, resAll, ARes.ev, LV.flat, ite_true, ite_false, exists_eq_left', exists_eq_left, keyOf, implies_true, fillC, capOf]
    refine condC_dec (fun hlt2 => ?_) (fun hlt2 => ?_)
    · simp (disch := omega) only [f1, f3, f4, f5, f6, f7, ↓SXd, SXu, slBounds, ↓sop, ↓aop, ↓reduceIte, LV.cells, AOp.dst, LV.I, LV.B, LV.U, LV.S, LV.nil, Nat.reduceEqDiff, Nat.reduceAdd, Nat.reduceMul, Nat.reduceSub, Nat.reduceLeDiff, Nat.reduceBEq, Nat.reduceDiv, Nat.reduceMod, Int.reduceToNat, Int.reduceLT, Int.reduceLE, Int.reduceAdd, Int.reduceSub, Int.reduceMul, Int.reduceEq, Int.reduceNeg, reduceCtorEq, resV, resAll, ARes.ev, LV.flat, ite_true, ite_false, exists_eq_left', exists_eq_left, keyOf, implies_true, fillC, capOf]
      refine ev_loop (fun m3 fr N => ∃ (k : Int) (u : Nat) (l : List Cell), k + m3 = z + 1 ∧ -1 ≤ k ∧ Mgn x y z i j k l ∧ Pre M N ∧ Live N M.length (.row [.I x, .I y, .I z, .ref t 0 cs.length] true 0) ∧
        Live N (M.length + 1) (.row [] true 3) ∧ Live N (M.length + 2) (.row [.I x, .I y, .I z, .ref (M.length + 1) 0 0] true 0) ∧ 
        Live N (M.length + 4) (.row (triL steps) true 0) ∧ Live N u (.row (triL l) true 3) ∧ (u = M.length + 3 ∨ M.length + 4 < u) ∧
        fr 1 = .ptr M.length 0 ∧ fr 3 = .ptr (M.length + 2) 0 ∧ fr 4 = .ref u 0 l.length ∧ fr 5 = .ptr (M.length + 4) 0 ∧ fr 6 = .I i ∧ fr 7 = .I j ∧ fr 8 = .I k) (z + 2).toNat
        ⟨-1, u, l, by omega, by omega, hm, hpre, b1, b1', b3, b5, bu, hu, f1, f3, f4, f5, f6, f7, rfl⟩ ?_
      clear f1 f3 f4 f5 f6 f7 hpre b1 b1' b3 b5 bu hu hm
      rintro m3 fr N ⟨k, u, l, hk, hk1, hm, hpre, b1, b1', b3, b5, bu, hu, f1, f3, f4, f5, f6, f7, f8⟩
      simp (disch := omega) only [f1, f3, f4, f5, f6, f7, f8, b1.cell, ↓SXd, SXu, slBounds, ↓sop, ↓aop, ↓reduceIte, LV.cells, AOp.dst, LV.I, LV.B, LV.U, LV.S, LV.nil, Nat.reduceEqDiff, Nat.reduceAdd, Nat.reduceMul, Nat.reduceSub, Nat.reduceLeDiff, Nat.reduceBEq, Nat.reduceDiv, Nat.reduceMod, Int.reduceToNat, Int.reduceLT, Int.reduceLE, Int.reduceAdd, Int.reduceSub, Int.reduceMul, Int.reduceEq, Int.reduceNeg, reduceCtorEq, resV, resAll, ARes.ev, LV.flat, ite_true, ite_false, exists_eq_left', exists_eq_left, keyOf, implies_true, fillC, capOf]
      refine condC_dec (fun hlt3 => ?_) (fun hlt3 => ?_)
      · simp (disch := omega) only [f1, f3, f4, f5, f6, f7, f8, b1.cells, splice, ↓SXd, SXu, slBounds, ↓sop, ↓aop, ↓reduceIte, LV.cells, AOp.dst, LV.I, LV.B, LV.U, LV.S, LV.nil, Nat.reduceEqDiff, Nat.reduceAdd, Nat.reduceMul, Nat.reduceSub, Nat.reduceLeDiff, Nat.reduceBEq, Nat.reduceDiv, Nat.reduceMod, Int.reduceToNat, Int.reduceLT, Int.reduceLE, Int.reduceAdd, Int.reduceSub, Int.reduceMul, Int.reduceEq, Int.reduceNeg, reduceCtorEq, resV, resAll, ARes.ev, LV.flat, ite_true, ite_false, exists_eq_left', exists_eq_left, keyOf, implies_true, fillC, capOf]
        refine callK_of (h_l2In hS) ?_
        simp (disch := omega) only [f1, f3, f4, f5, f6, f7, f8, ↓SXd, SXu, slBounds, ↓sop, ↓aop, ↓reduceIte, LV.cells, AOp.dst, LV.I, LV.B, LV.U, LV.S, LV.nil, Nat.reduceEqDiff, Nat.reduceAdd, Nat.reduceMul, Nat.reduceSub, Nat.reduceLeDiff, Nat.reduceBEq, Nat.reduceDiv, Nat.reduceMod, Int.reduceToNat, Int.reduceLT, Int.reduceLE, Int.reduceAdd, Int.reduceSub, Int.reduceMul, Int.reduceEq, Int.reduceNeg, reduceCtorEq, resV, resAll, ARes.ev, LV.flat, ite_true, ite_false, exists_eq_left', exists_eq_left, keyOf, implies_true, fillC, capOf]
        refine condC_dec (fun hin => ?_) (fun hin => ?_)
        · simp (disch := omega) only [f1, f3, f4, f5, f6, f7, f8, splice, ↓SXd, SXu, slBounds, ↓sop, ↓aop, ↓reduceIte, LV.cells, AOp.dst, LV.I, LV.B, LV.U, LV.S, LV.nil, Nat.reduceEqDiff, Nat.reduceAdd, Nat.reduceMul, Nat.reduceSub, Nat.reduceLeDiff, Nat.reduceBEq, Nat.reduceDiv, Nat.reduceMod, Int.reduceToNat, Int.reduceLT, Int.reduceLE, Int.reduceAdd, Int.reduceSub, Int.reduceMul, Int.reduceEq, Int.reduceNeg, reduceCtorEq, resV, resAll, ARes.ev, LV.flat, ite_true, ite_false, exists_eq_left', exists_eq_left, keyOf, implies_true, fillC, capOf]
          exact ⟨m3 - 1, by omega, k + 1, u, l, by omega, by omega, hm.in hin, hpre, b1, b1', b3, b5, bu, hu, f1, f3, f4, f5, f6, f7, rfl⟩
        · simp (disch := omega) only [f1, f3, f4, f5, f6, f7, f8, splice, ↓SXd, SXu, slBounds, ↓sop, ↓aop, ↓reduceIte, LV.cells, AOp.dst, LV.I, LV.B, LV.U, LV.S, LV.nil, Nat.reduceEqDiff, Nat.reduceAdd, Nat.reduceMul, Nat.reduceSub, Nat.reduceLeDiff, Nat.reduceBEq, Nat.reduceDiv, Nat.reduceMod, Int.reduceToNat, Int.reduceLT, Int.reduceLE, Int.reduceAdd, Int.reduceSub, Int.reduceMul, Int.reduceEq, Int.reduceNeg, reduceCtorEq, resV, resAll, ARes.ev, LV.flat, ite_true, ite_false, exists_eq_left', exists_eq_left, keyOf, implies_true, fillC, capOf]
          have hml := hm.len
          refine appendK_cell bu (by omega) fun N' l1 l2 l3 => ?_
          have hb5 := b5.lt
          simp (disch := omega) only [f1, f3, f4, f5, f6, f7, f8, splice, ↓SXd, SXu, slBounds, ↓sop, ↓aop, ↓reduceIte, LV.cells, AOp.dst, LV.I, LV.B, LV.U, LV.S, LV.nil, Nat.reduceEqDiff, Nat.reduceAdd, Nat.reduceMul, Nat.reduceSub, Nat.reduceLeDiff, Nat.reduceBEq, Nat.reduceDiv, Nat.reduceMod, Int.reduceToNat, Int.reduceLT, Int.reduceLE, Int.reduceAdd, Int.reduceSub, Int.reduceMul, Int.reduceEq, Int.reduceNeg, reduceCtorEq, resV, resAll, ARes.ev, LV.flat, ite_true, ite_false, exists_eq_left', exists_eq_left, keyOf, implies_true, fillC, capOf]
          exact ⟨m3 - 1, by omega, k + 1, _, l ++ [⟨i, j, k⟩], by omega, by omega, hm.out (by omega) ⟨⟨by simp only; omega, by simp only; omega⟩, ⟨by simp only; omega, by simp only; omega⟩, ⟨by simp only; omega, by simp only; omega⟩⟩ hin,
            pre_step hpre (by omega) l1 l3, live_step b1 (by omega) l3, live_step b1' (by omega) l3, live_step b3 (by omega) l3, live_step b5 (by omega) l3, l2, by omega, f1, f3, rfl, f5, f6, f7, rfl⟩
      · simp (disch := omega) only [f1, f3, f4, f5, f6, f7, f8, ↓SXd, SXu, slBounds, ↓sop, ↓aop, ↓reduceIte, LV.cells, AOp.dst, LV.I, LV.B, LV.U, LV.S, LV.nil, Nat.reduceEqDiff, Nat.reduceAdd, Nat.reduceMul, Nat.reduceSub, Nat.reduceLeDiff, Nat.reduceBEq, Nat.reduceDiv, Nat.reduceMod, Int.reduceToNat, Int.reduceLT, Int.reduceLE, Int.reduceAdd, Int.reduceSub, Int.reduceMul, Int.reduceEq, Int.reduceNeg, reduceCtorEq, resV, resAll, ARes.ev, LV.flat, ite_true, ite_false, exists_eq_left', exists_eq_left, keyOf, implies_true, fillC, capOf]
        have : k = z + 1 := by omega
        exact ⟨m2 - 1, by omega, j + 1, u, l, by omega, by omega, hm.row (by omega) (by omega), hpre, b1, b1', b3, b5, bu, hu, f1, f3, f4, f5, f6, rfl⟩
    · simp (disch := omega) only [f1, f3, f4, f5, f6, f7, ↓SXd, SXu, slBounds, ↓sop, ↓aop, ↓reduceIte, LV.cells, AOp.dst, LV.I, LV.B, LV.U, LV.S, LV.nil, Nat.reduceEqDiff, Nat.reduceAdd, Nat.reduceMul, Nat.reduceSub, Nat.reduceLeDiff, Nat.reduceBEq, Nat.reduceDiv, Nat.reduceMod, Int.reduceToNat, Int.reduceLT, Int.reduceLE, Int.reduceAdd, Int.reduceSub, Int.reduceMul, Int.reduceEq, Int.reduceNeg, reduceCtorEq, resV, resAll, ARes.ev, LV.flat, ite_true, ite_false, exists_eq_left', exists_eq_left, keyOf, implies_true, fillC, capOf]
      exact ⟨m - 1, by omega, i + 1, u, l, by omega, by omega, hm.plane (by omega) (by omega), hpre, b1, b1', b3, b5, bu, hu, f1, f3, f4, f5, rfl⟩
  · simp (disch := omega) only [f1, f3, f4, f5, f6, ↓SXd, SXu, slBounds, ↓sop, ↓aop, ↓reduceIte, LV.cells, AOp.dst, LV.I, LV.B, LV.U, LV.S, LV.nil, Nat.reduceEqDiff, Nat.reduceAdd, Nat.reduceMul, Nat.reduceSub, Nat.reduceLeDiff, Nat.reduceBEq, Nat.reduceDiv, Nat.reduceMod, Int.reduceToNat, Int.reduceLT, Int.reduceLE, Int.reduceAdd, Int.reduceSub, Int.reduceMul, Int.reduceEq, Int.reduceNeg, reduceCtorEq, resV, resAll, ARes.ev, LV.flat, ite_true, ite_false, exists_eq_left', exists_eq_left, keyOf, implies_true, fillC, capOf]
    have hix : i = x + 1 := by omega
    subst hix
    have hml := hm.len
    have hout : Out x y z (fun c => decide (c ∈ cs)) 0 0 l [] := ⟨fun c h1 h2 => hm.all c h1 h2 (by have := h1.1.2; unfold Bef; omega), hm.mem, by simp, by simp, by omega, by omega⟩
    refine ev_loop (fun m fr N => ∃ (n u s : Nat) (r : List Cell), n + m = 300 ∧ n ≤ (l ++ r).length ∧ Out x y z (fun c => decide (c ∈ cs)) n 0 l r ∧ Pre M N ∧ Live N M.length (.row [.I x, .I y, .I z, .ref t 0 cs.length] true 0) ∧
      Live N s (.row (triL (pick x y z fun d => decide (d ∈ r))) true 3) ∧ Live N (M.length + 2) (.row [.I x, .I y, .I z, .ref s 0 (pick x y z fun d => decide (d ∈ r)).length] true 0) ∧ 
      Live N (M.length + 4) (.row (triL steps) true 0) ∧ Live N u (.row (triL (l ++ r)) true 3) ∧ u ≠ s ∧ M.length < u ∧ M.length < s ∧
      fr 1 = .ptr M.length 0 ∧ fr 3 = .ptr (M.length + 2) 0 ∧ fr 4 = .ref u 0 (l ++ r).length ∧ fr 5 = .ptr (M.length + 4) 0 ∧ fr 9 = .I n) 300
      ⟨0, u, M.length + 1, [], rfl, by omega, hout, hpre, b1, ?_, ?_, b5, by rw [List.append_nil]; exact bu, by omega, by omega, by omega, f1, f3, by rw [List.append_nil]; exact f4, f5, rfl⟩ ?_
    · rw [show pick x y z (fun d => decide (d ∈ ([] : List Cell))) = [] by unfold pick; rw [List.filter_eq_nil_iff]; simp]; exact b1'
    · rw [show pick x y z (fun d => decide (d ∈ ([] : List Cell))) = [] by unfold pick; rw [List.filter_eq_nil_iff]; simp]; exact b3
    clear f1 f3 f4 f5 f6 hpre b1 b1' b3 b5 bu hu hm hout
    rintro m fr N ⟨n, u, s, r, hnm, hnl, hout, hpre, b1, bs, b3, b5, bu, hus, hu, hs, f1, f3, f4, f5, f9⟩
    have hrl := nodup_len hS hout.nodup fun d hd => (hout.mem d hd).1
    have hll : (l ++ r).length = l.length + r.length := List.length_append
    simp (disch := omega) only [f1, f3, f4, f5, f9, ↓SXd, SXu, slBounds, ↓sop, ↓aop, ↓reduceIte, LV.cells, AOp.dst, LV.I, LV.B, LV.U, LV.S, LV.nil, Nat.reduceEqDiff, Nat.reduceAdd, Nat.reduceMul, Nat.reduceSub, Nat.reduceLeDiff, Nat.reduceBEq, Nat.reduceDiv, Nat.reduceMod, Int.reduceToNat, Int.reduceLT, Int.reduceLE, Int.reduceAdd, Int.reduceSub, Int.reduceMul, Int.reduceEq, Int.reduceNeg, reduceCtorEq, resV, resAll, ARes.ev, LV.flat, ite_true, ite_false, exists_eq_left', exists_eq_left, keyOf, implies_true, fillC, capOf]
    refine condC_dec (fun hlt2 => ?_) (fun hlt2 => ?_)
    · simp (disch := omega) only [f1, f3, f4, f5, f9, ↓SXd, SXu, slBounds, ↓sop, ↓aop, ↓reduceIte, LV.cells, AOp.dst, LV.I, LV.B, LV.U, LV.S, LV.nil, Nat.reduceEqDiff, Nat.reduceAdd, Nat.reduceMul, Nat.reduceSub, Nat.reduceLeDiff, Nat.reduceBEq, Nat.reduceDiv, Nat.reduceMod, Int.reduceToNat, Int.reduceLT, Int.reduceLE, Int.reduceAdd, Int.reduceSub, Int.reduceMul, Int.reduceEq, Int.reduceNeg, reduceCtorEq, resV, resAll, ARes.ev, LV.flat, ite_true, ite_false, exists_eq_left', exists_eq_left, keyOf, implies_true, fillC, capOf]
      have hnl' : n < (l ++ r).length := by omega
      refine ev_loop (fun m2 fr N => ∃ (k u s : Nat) (r : List Cell), k + m2 = 6 ∧ n < (l ++ r).length ∧ Out x y z (fun c => decide (c ∈ cs)) n k l r ∧ Pre M N ∧ Live N M.length (.row [.I x, .I y, .I z, .ref t 0 cs.length] true 0) ∧
        Live N s (.row (triL (pick x y z fun d => decide (d ∈ r))) true 3) ∧ Live N (M.length + 2) (.row [.I x, .I y, .I z, .ref s 0 (pick x y z fun d => decide (d ∈ r)).length] true 0) ∧ 
        Live N (M.length + 4) (.row (triL steps) true 0) ∧ Live N u (.row (triL (l ++ r)) true 3) ∧ u ≠ s ∧ M.length < u ∧ M.length < s ∧
        fr 1 = .ptr M.length 0 ∧ fr 3 = .ptr (M.length + 2) 0 ∧ fr 4 = .ref u 0 (l ++ r).length ∧ fr 5 = .ptr (M.length + 4) 0 ∧ fr 9 = .I n ∧ fr 10 = .I k) 6
        ⟨0, u, s, r, rfl, hnl', hout, hpre, b1, bs, b3, b5, bu, hus, hu, hs, f1, f3, f4, f5, f9, rfl⟩ ?_
      clear f1 f3 f4 f5 f9 hpre b1 bs b3 b5 bu hus hu hs hout hnl hrl hll hnl'
      rintro m2 fr N ⟨k, u, s, r, hk, hnl, hout, hpre, b1, bs, b3, b5, bu, hus, hu, hs, f1, f3, f4, f5, f9, f10⟩
      simp (disch := omega) only [f1, f3, f4, f5, f9, f10, ↓SXd, SXu, slBounds, ↓sop, ↓aop, ↓reduceIte, LV.cells, AOp.dst, LV.I, LV.B, LV.U, LV.S, LV.nil, Nat.reduceEqDiff, Nat.reduceAdd, Nat.reduceMul, Nat.reduceSub, Nat.reduceLeDiff, Nat.reduceBEq, Nat.reduceDiv, Nat.reduceMod, Int.reduceToNat, Int.reduceLT, Int.reduceLE, Int.reduceAdd, Int.reduceSub, Int.reduceMul, Int.reduceEq, Int.reduceNeg, reduceCtorEq, resV, resAll, ARes.ev, LV.flat, ite_true, ite_false, exists_eq_left', exists_eq_left, keyOf, implies_true, fillC, capOf]
      refine condC_dec (fun hlt3 => ?_) (fun hlt3 => ?_)
      · have hk6 : k < 6 := by omega
        have hc1 := bu.tri0 hnl
        have hst := steps_nbrs (c := (l ++ r).getD n default) hk6
        have hsl := steps_le hk6
        simp (disch := omega) only [f1, f3, f4, f5, f9, f10, hc1, (b5.step hk6), Cell.row, List.getElem?_append_left, ↓SXd, SXu, slBounds, ↓sop, ↓aop, ↓reduceIte, LV.cells, AOp.dst, LV.I, LV.B, LV.U, LV.S, LV.nil, Nat.reduceEqDiff, Nat.reduceAdd, Nat.reduceMul, Nat.reduceSub, Nat.reduceLeDiff, Nat.reduceBEq, Nat.reduceDiv, Nat.reduceMod, Int.reduceToNat, Int.reduceLT, Int.reduceLE, Int.reduceAdd, Int.reduceSub, Int.reduceMul, Int.reduceEq, Int.reduceNeg, reduceCtorEq, resV, resAll, ARes.ev, LV.flat, ite_true, ite_false, exists_eq_left', exists_eq_left, keyOf, implies_true, fillC, capOf]
        have hce : ExtC x y z ((l ++ r).getD n default) := by
          rcases List.mem_append.1 (getD_mem' (d := default) hnl) with hm | hm
          · exact (hout.mgm _ hm).1
          · exact (hout.mem _ hm).1.ext
        obtain ⟨⟨_, _⟩, ⟨_, _⟩, ⟨_, _⟩⟩ := id hce
        obtain ⟨⟨_, _⟩, ⟨_, _⟩, ⟨_, _⟩⟩ := id hsl
        refine callK_of (h_l6Beside ⟨⟨by omega, by omega⟩, ⟨by omega, by omega⟩, ⟨by omega, by omega⟩, ⟨by omega, by omega⟩, ⟨by omega, by omega⟩, ⟨by omega, by omega⟩⟩) ?_
        simp (disch := omega) only [f1, f3, f4, f5, f9, f10, splice, ↓SXd, SXu, slBounds, ↓sop, ↓aop, ↓reduceIte, LV.cells, AOp.dst, LV.I, LV.B, LV.U, LV.S, LV.nil, Nat.reduceEqDiff, Nat.reduceAdd, Nat.reduceMul, Nat.reduceSub, Nat.reduceLeDiff, Nat.reduceBEq, Nat.reduceDiv, Nat.reduceMod, Int.reduceToNat, Int.reduceLT, Int.reduceLE, Int.reduceAdd, Int.reduceSub, Int.reduceMul, Int.reduceEq, Int.reduceNeg, reduceCtorEq, resV, resAll, ARes.ev, LV.flat, ite_true, ite_false, exists_eq_left', exists_eq_left, keyOf, implies_true, fillC, capOf]
        generalize ((l ++ r).getD n default).a + (steps.getD k default).a = ea at hst ⊢
        generalize ((l ++ r).getD n default).b + (steps.getD k default).b = eb at hst ⊢
        generalize ((l ++ r).getD n default).c + (steps.getD k default).c = ec at hst ⊢
        have e0 : Live (N ++ [some (.row [.I ea, .I eb, .I ec] true 0)]) N.length (.row [.I ea, .I eb, .I ec] true 0) := Live.new
        have hpN : Pre N (N ++ [some (.row [.I ea, .I eb, .I ec] true 0)]) := Pre.app _ _
        generalize N ++ [some (.row [.I ea, .I eb, .I ec] true 0)] = N1 at e0 hpN ⊢
        have hNl := hpN.1
        have hlb5 := b5.lt
        have hlu := bu.lt
        have hls := bs.lt
        have c1 := b1.pre hpN
        have cs' := bs.pre hpN
        have c3 := b3.pre hpN
        have c5 := b5.pre hpN
        have cu := bu.pre hpN
        have hpre1 := hpre.trans hpN
        have hTri : Tri N1 t 0 cs := (h.pre hpre1).has
        have hrl := nodup_len hS hout.nodup fun d hd => (hout.mem d hd).1
        have hpl := pick_len hS fun d => decide (d ∈ r)
        have hll : (l ++ r).length = l.length + r.length := List.length_append
        have hmr : decide ((⟨ea, eb, ec⟩ : Cell) ∈ pick x y z fun d => decide (d ∈ r)) = decide ((⟨ea, eb, ec⟩ : Cell) ∈ r) := decide_eq_decide.2 ⟨fun h => by have := ((mem_pick hS).1 h).2; exact of_decide_eq_true this, fun h => (mem_pick hS).2 ⟨(hout.mem _ h).1, decide_eq_true h⟩⟩
        have hskip : ¬ ((Cell.inBox x y z ⟨ea, eb, ec⟩ ∧ (⟨ea, eb, ec⟩ : Cell) ∉ cs) ∧ (⟨ea, eb, ec⟩ : Cell) ∉ r) → Out x y z (fun c => decide (c ∈ cs)) n (k + 1) l r := fun hno => hout.skip (by rw [hst, decide_eq_false_iff_not]; exact hno)
        simp (disch := omega) only [f1, f3, f4, f5, f9, f10, c1.cells, e0.cells, ↓SXd, SXu, slBounds, ↓sop, ↓aop, ↓reduceIte, LV.cells, AOp.dst, LV.I, LV.B, LV.U, LV.S, LV.nil, Nat.reduceEqDiff, Nat.reduceAdd, Nat.reduceMul, Nat.reduceSub, Nat.reduceLeDiff, Nat.reduceBEq, Nat.reduceDiv, Nat.reduceMod, Int.reduceToNat, Int.reduceLT, Int.reduceLE, Int.reduceAdd, Int.reduceSub, Int.reduceMul, Int.reduceEq, Int.reduceNeg, reduceCtorEq, resV, resAll, ARes.ev, LV.flat, ite_true, ite_false, exists_eq_left', exists_eq_left, keyOf, implies_true, fillC, capOf]
        refine callK_of (h_l2In hS) ?_
        simp (disch := omega) only [f1, f3, f4, f5, f9, f10, ↓SXd, SXu, slBounds, ↓sop, ↓aop, ↓reduceIte, LV.cells, AOp.dst, LV.I, LV.B, LV.U, LV.S, LV.nil, Nat.reduceEqDiff, Nat.reduceAdd, Nat.reduceMul, Nat.reduceSub, Nat.reduceLeDiff, Nat.reduceBEq, Nat.reduceDiv, Nat.reduceMod, Int.reduceToNat, Int.reduceLT, Int.reduceLE, Int.reduceAdd, Int.reduceSub, Int.reduceMul, Int.reduceEq, Int.reduceNeg, reduceCtorEq, resV, resAll, ARes.ev, LV.flat, ite_true, ite_false, exists_eq_left', exists_eq_left, keyOf, implies_true, fillC, capOf]
        by_cases hin : Cell.inBox x y z ⟨ea, eb, ec⟩
        · simp (disch := omega) only [f1, f3, f4, f5, f9, f10, hin, c1.cells, e0.cells, ↓SXd, SXu, slBounds, ↓sop, ↓aop, ↓reduceIte, LV.cells, AOp.dst, LV.I, LV.B, LV.U, LV.S, LV.nil, Nat.reduceEqDiff, Nat.reduceAdd, Nat.reduceMul, Nat.reduceSub, Nat.reduceLeDiff, Nat.reduceBEq, Nat.reduceDiv, Nat.reduceMod, Int.reduceToNat, Int.reduceLT, Int.reduceLE, Int.reduceAdd, Int.reduceSub, Int.reduceMul, Int.reduceEq, Int.reduceNeg, reduceCtorEq, resV, resAll, ARes.ev, LV.flat, ite_true, ite_false, exists_eq_left', exists_eq_left, keyOf, implies_true, fillC, capOf]
          refine callK_of (h_l2Has hTri hn) ?_
          simp (disch := omega) only [f1, f3, f4, f5, f9, f10, ↓SXd, SXu, slBounds, ↓sop, ↓aop, ↓reduceIte, LV.cells, AOp.dst, LV.I, LV.B, LV.U, LV.S, LV.nil, Nat.reduceEqDiff, Nat.reduceAdd, Nat.reduceMul, Nat.reduceSub, Nat.reduceLeDiff, Nat.reduceBEq, Nat.reduceDiv, Nat.reduceMod, Int.reduceToNat, Int.reduceLT, Int.reduceLE, Int.reduceAdd, Int.reduceSub, Int.reduceMul, Int.reduceEq, Int.reduceNeg, reduceCtorEq, resV, resAll, ARes.ev, LV.flat, ite_true, ite_false, exists_eq_left', exists_eq_left, keyOf, implies_true, fillC, capOf]
          by_cases hcs : (⟨ea, eb, ec⟩ : Cell) ∈ cs
          · simp (disch := omega) only [f1, f3, f4, f5, f9, f10, hcs, ↓SXd, SXu, slBounds, ↓sop, ↓aop, ↓reduceIte, LV.cells, AOp.dst, LV.I, LV.B, LV.U, LV.S, LV.nil, Nat.reduceEqDiff, Nat.reduceAdd, Nat.reduceMul, Nat.reduceSub, Nat.reduceLeDiff, Nat.reduceBEq, Nat.reduceDiv, Nat.reduceMod, Int.reduceToNat, Int.reduceLT, Int.reduceLE, Int.reduceAdd, Int.reduceSub, Int.reduceMul, Int.reduceEq, Int.reduceNeg, reduceCtorEq, resV, resAll, ARes.ev, LV.flat, ite_true, ite_false, exists_eq_left', exists_eq_left, keyOf, implies_true, fillC, capOf]
            exact ⟨m2 - 1, by omega, k + 1, u, s, r, by omega, hnl, hskip (by simp [hcs]), hpre1, c1, cs', c3, c5, cu, hus, hu, hs, f1, f3, f4, f5, f9, eqI (natI _)⟩
          · simp (disch := omega) only [f1, f3, f4, f5, f9, f10, hcs, c3.cells, e0.cells, ↓SXd, SXu, slBounds, ↓sop, ↓aop, ↓reduceIte, LV.cells, AOp.dst, LV.I, LV.B, LV.U, LV.S, LV.nil, Nat.reduceEqDiff, Nat.reduceAdd, Nat.reduceMul, Nat.reduceSub, Nat.reduceLeDiff, Nat.reduceBEq, Nat.reduceDiv, Nat.reduceMod, Int.reduceToNat, Int.reduceLT, Int.reduceLE, Int.reduceAdd, Int.reduceSub, Int.reduceMul, Int.reduceEq, Int.reduceNeg, reduceCtorEq, resV, resAll, ARes.ev, LV.flat, ite_true, ite_false, exists_eq_left', exists_eq_left, keyOf, implies_true, fillC, capOf]
            refine callK_of (h_l2Has cs'.has (by omega)) ?_
            simp (disch := omega) only [f1, f3, f4, f5, f9, f10, ↓SXd, SXu, slBounds, ↓sop, ↓aop, ↓reduceIte, LV.cells, AOp.dst, LV.I, LV.B, LV.U, LV.S, LV.nil, Nat.reduceEqDiff, Nat.reduceAdd, Nat.reduceMul, Nat.reduceSub, Nat.reduceLeDiff, Nat.reduceBEq, Nat.reduceDiv, Nat.reduceMod, Int.reduceToNat, Int.reduceLT, Int.reduceLE, Int.reduceAdd, Int.reduceSub, Int.reduceMul, Int.reduceEq, Int.reduceNeg, reduceCtorEq, resV, resAll, ARes.ev, LV.flat, ite_true, ite_false, exists_eq_left', exists_eq_left, keyOf, implies_true, fillC, capOf]
            rw [hmr]
            by_cases hr : (⟨ea, eb, ec⟩ : Cell) ∈ r
            · simp (disch := omega) only [f1, f3, f4, f5, f9, f10, hr, ↓SXd, SXu, slBounds, ↓sop, ↓aop, ↓reduceIte, LV.cells, AOp.dst, LV.I, LV.B, LV.U, LV.S, LV.nil, Nat.reduceEqDiff, Nat.reduceAdd, Nat.reduceMul, Nat.reduceSub, Nat.reduceLeDiff, Nat.reduceBEq, Nat.reduceDiv, Nat.reduceMod, Int.reduceToNat, Int.reduceLT, Int.reduceLE, Int.reduceAdd, Int.reduceSub, Int.reduceMul, Int.reduceEq, Int.reduceNeg, reduceCtorEq, resV, resAll, ARes.ev, LV.flat, ite_true, ite_false, exists_eq_left', exists_eq_left, keyOf, implies_true, fillC, capOf]
              exact ⟨m2 - 1, by omega, k + 1, u, s, r, by omega, hnl, hskip (by simp [hr]), hpre1, c1, cs', c3, c5, cu, hus, hu, hs, f1, f3, f4, f5, f9, eqI (natI _)⟩
            · simp (disch := omega) only [f1, f3, f4, f5, f9, f10, hr, c3.cells, e0.cells, ↓SXd, SXu, slBounds, ↓sop, ↓aop, ↓reduceIte, LV.cells, AOp.dst, LV.I, LV.B, LV.U, LV.S, LV.nil, Nat.reduceEqDiff, Nat.reduceAdd, Nat.reduceMul, Nat.reduceSub, Nat.reduceLeDiff, Nat.reduceBEq, Nat.reduceDiv, Nat.reduceMod, Int.reduceToNat, Int.reduceLT, Int.reduceLE, Int.reduceAdd, Int.reduceSub, Int.reduceMul, Int.reduceEq, Int.reduceNeg, reduceCtorEq, resV, resAll, ARes.ev, LV.flat, ite_true, ite_false, exists_eq_left', exists_eq_left, keyOf, implies_true, fillC, capOf]
              refine callH_of (h_l2With (c := ⟨ea, eb, ec⟩) cs' (pick_ok hS _) hin) ?_
              intro sn N2 hsn hp2 hsr
              simp (disch := omega) only [f1, f3, f4, f5, f9, f10, ↓SXd, SXu, slBounds, ↓sop, ↓aop, ↓reduceIte, LV.cells, AOp.dst, LV.I, LV.B, LV.U, LV.S, LV.nil, Nat.reduceEqDiff, Nat.reduceAdd, Nat.reduceMul, Nat.reduceSub, Nat.reduceLeDiff, Nat.reduceBEq, Nat.reduceDiv, Nat.reduceMod, Int.reduceToNat, Int.reduceLT, Int.reduceLE, Int.reduceAdd, Int.reduceSub, Int.reduceMul, Int.reduceEq, Int.reduceNeg, reduceCtorEq, resV, resAll, ARes.ev, LV.flat, ite_true, ite_false, exists_eq_left', exists_eq_left, keyOf, implies_true, fillC, capOf]
              refine memK_box (c3.pre hp2) (by simp) fun N3 k1 k2 k3 => ?_
              have hN2 := hp2.1
              have hle0 := e0.lt
              have hlc5 := c5.lt
              have e3 := live_step (e0.pre hp2) (by omega) k3
              have d1 := live_step (c1.pre hp2) (by omega) k3
              have d5 := live_step (c5.pre hp2) (by omega) k3
              have du := live_step (cu.pre hp2) (cu.ne_esz c3 (by decide)) k3
              have ds := live_step hsr (by omega) k3
              have hlsn := hsr.lt
              have hu5 := cu.ne_esz c5 (by decide)
              have hu3 := cu.ne_esz c3 (by decide)
              have hpre3 := pre_step (hpre1.trans hp2) (by omega) (j := 0) k1 k3
              simp (disch := omega) only [f1, f3, f4, f5, f9, f10, e3.cells, splice, ↓SXd, SXu, slBounds, ↓sop, ↓aop, ↓reduceIte, LV.cells, AOp.dst, LV.I, LV.B, LV.U, LV.S, LV.nil, Nat.reduceEqDiff, Nat.reduceAdd, Nat.reduceMul, Nat.reduceSub, Nat.reduceLeDiff, Nat.reduceBEq, Nat.reduceDiv, Nat.reduceMod, Int.reduceToNat, Int.reduceLT, Int.reduceLE, Int.reduceAdd, Int.reduceSub, Int.reduceMul, Int.reduceEq, Int.reduceNeg, reduceCtorEq, resV, resAll, ARes.ev, LV.flat, ite_true, ite_false, exists_eq_left', exists_eq_left, keyOf, implies_true, fillC, capOf]
              refine appendK_cell du (by omega) fun N5 l1 l2 l3 => ?_
              simp (disch := omega) only [f1, f3, f4, f5, f9, f10, ↓SXd, SXu, slBounds, ↓sop, ↓aop, ↓reduceIte, LV.cells, AOp.dst, LV.I, LV.B, LV.U, LV.S, LV.nil, Nat.reduceEqDiff, Nat.reduceAdd, Nat.reduceMul, Nat.reduceSub, Nat.reduceLeDiff, Nat.reduceBEq, Nat.reduceDiv, Nat.reduceMod, Int.reduceToNat, Int.reduceLT, Int.reduceLE, Int.reduceAdd, Int.reduceSub, Int.reduceMul, Int.reduceEq, Int.reduceNeg, reduceCtorEq, resV, resAll, ARes.ev, LV.flat, ite_true, ite_false, exists_eq_left', exists_eq_left, keyOf, implies_true, fillC, capOf]
              have hpe : pick x y z (fun d => decide (d ∈ pick x y z fun d => decide (d ∈ r)) || decide (d = ⟨ea, eb, ec⟩)) = pick x y z fun d => decide (d ∈ r ++ [⟨ea, eb, ec⟩]) := pick_congr hS fun d hd => by
                rw [Bool.eq_iff_iff, Bool.or_eq_true, decide_eq_true_iff, decide_eq_true_iff, decide_eq_true_iff, mem_pick hS, decide_eq_true_iff, List.mem_append, List.mem_singleton]
                exact ⟨fun h => h.elim (fun h => .inl h.2) .inr, fun h => h.elim (fun h => .inl ⟨hd, h⟩) .inr⟩
              rw [hpe] at ds k2
              refine ⟨m2 - 1, by omega, k + 1, N3.length + 1, sn, r ++ [⟨ea, eb, ec⟩], by omega, by simp at hnl ⊢; omega, hout.add hk6 hnl hst hin (decide_eq_false hcs) hr, pre_step hpre3 (by omega) l1 l3, live_step d1 (by omega) l3, live_step ds (by omega) l3, live_step k2 (by omega) l3, live_step d5 (by omega) l3, by rw [← List.append_assoc]; exact l2, by omega, by omega, by omega, f1, f3, by rw [← List.append_assoc]; rfl, f5, f9, eqI (natI _)⟩
        · simp (disch := omega) only [f1, f3, f4, f5, f9, f10, hin, ↓SXd, SXu, slBounds, ↓sop, ↓aop, ↓reduceIte, LV.cells, AOp.dst, LV.I, LV.B, LV.U, LV.S, LV.nil, Nat.reduceEqDiff, Nat.reduceAdd, Nat.reduceMul, Nat.reduceSub, Nat.reduceLeDiff, Nat.reduceBEq, Nat.reduceDiv, Nat.reduceMod, Int.reduceToNat, Int.reduceLT, Int.reduceLE, Int.reduceAdd, Int.reduceSub, Int.reduceMul, Int.reduceEq, Int.reduceNeg, reduceCtorEq, resV, resAll, ARes.ev, LV.flat, ite_true, ite_false, exists_eq_left', exists_eq_left, keyOf, implies_true, fillC, capOf]
          exact ⟨m2 - 1, by omega, k + 1, u, s, r, by omega, hnl, hskip (by simp [hin]), hpre1, c1, cs', c3, c5, cu, hus, hu, hs, f1, f3, f4, f5, f9, eqI (natI _)⟩
      · simp (disch := omega) only [f1, f3, f4, f5, f9, f10, ↓SXd, SXu, slBounds, ↓sop, ↓aop, ↓reduceIte, LV.cells, AOp.dst, LV.I, LV.B, LV.U, LV.S, LV.nil, Nat.reduceEqDiff, Nat.reduceAdd, Nat.reduceMul, Nat.reduceSub, Nat.reduceLeDiff, Nat.reduceBEq, Nat.reduceDiv, Nat.reduceMod, Int.reduceToNat, Int.reduceLT, Int.reduceLE, Int.reduceAdd, Int.reduceSub, Int.reduceMul, Int.reduceEq, Int.reduceNeg, reduceCtorEq, resV, resAll, ARes.ev, LV.flat, ite_true, ite_false, exists_eq_left', exists_eq_left, keyOf, implies_true, fillC, capOf]
        have : k = 6 := by omega
        subst this
        have hrl := nodup_len hS hout.nodup fun d hd => (hout.mem d hd).1
        have hll : (l ++ r).length = l.length + r.length := List.length_append
        exact ⟨m - 1, by omega, n + 1, u, s, r, by omega, by omega, hout.next, hpre, b1, bs, b3, b5, bu, hus, hu, hs, f1, f3, f4, f5, eqI (natI _)⟩
    · have hfin := fun d hd => hout.final (d := d) (by omega) hd
      clear f4 f5 f9
      simp (disch := omega) only [f1, f3, b1.app.cells, ↓SXd, SXu, slBounds, ↓sop, ↓aop, ↓reduceIte, LV.cells, AOp.dst, LV.I, LV.B, LV.U, LV.S, LV.nil, Nat.reduceEqDiff, Nat.reduceAdd, Nat.reduceMul, Nat.reduceSub, Nat.reduceLeDiff, Nat.reduceBEq, Nat.reduceDiv, Nat.reduceMod, Int.reduceToNat, Int.reduceLT, Int.reduceLE, Int.reduceAdd, Int.reduceSub, Int.reduceMul, Int.reduceEq, Int.reduceNeg, reduceCtorEq, resV, resAll, ARes.ev, LV.flat, ite_true, ite_false, exists_eq_left', exists_eq_left, keyOf, implies_true, fillC, capOf]
      have hlN := b5.lt
      refine callN_of (h_l2All hS) ?_
      intro ta N2 hta hp2 har
      have hv := vol_cast hS
      have hcl : (cellsOf x y z).length = vol x y z := by simp [cellsOf]
      simp only [List.length_append, List.length_singleton] at hta
      have hN2 := hp2.1
      simp only [List.length_append, List.length_singleton] at hN2
      simp (disch := omega) only [f1, f3, ↓SXd, SXu, slBounds, ↓sop, ↓aop, ↓reduceIte, LV.cells, AOp.dst, LV.I, LV.B, LV.U, LV.S, LV.nil, Nat.reduceEqDiff, Nat.reduceAdd, Nat.reduceMul, Nat.reduceSub, Nat.reduceLeDiff, Nat.reduceBEq, Nat.reduceDiv, Nat.reduceMod, Int.reduceToNat, Int.reduceLT, Int.reduceLE, Int.reduceAdd, Int.reduceSub, Int.reduceMul, Int.reduceEq, Int.reduceNeg, reduceCtorEq, resV, resAll, ARes.ev, LV.flat, ite_true, ite_false, exists_eq_left', exists_eq_left, keyOf, implies_true, fillC, capOf]
      refine ev_loop (fun m fr N' => ∃ (i uo : Nat) (acc : List Cell), i + m = (cellsOf x y z).length ∧ acc = ((cellsOf x y z).take i).filter (closed x y z fun c => decide (c ∈ cs)) ∧ Pre M N' ∧ Live N' M.length (.row [.I x, .I y, .I z, .ref t 0 cs.length] true 0) ∧
        Live N' s (.row (triL (pick x y z fun d => decide (d ∈ r))) true 3) ∧ Live N' (M.length + 2) (.row [.I x, .I y, .I z, .ref s 0 (pick x y z fun d => decide (d ∈ r)).length] true 0) ∧
        Live N' ta (.row (triL (cellsOf x y z)) true 3) ∧ Live N' uo (.row (triL acc) true 3) ∧ uo ≠ ta ∧ uo ≠ s ∧ M.length ≤ uo ∧ ta < N'.length ∧ s < N'.length ∧
        fr 1 = .ptr M.length 0 ∧ fr 3 = .ptr (M.length + 2) 0 ∧ fr 12 = .ref uo 0 acc.length ∧ fr 13 = .ref ta 0 (cellsOf x y z).length ∧ fr 14 = .I i) (cellsOf x y z).length
        ⟨0, N.length, [], by omega, by simp, (hpre.trans (Pre.app _ _)).trans hp2, b1.app.pre hp2, bs.app.pre hp2, b3.app.pre hp2, har, Live.new.pre hp2, by omega, by have := bs.lt; omega, by omega, har.lt, by have := bs.lt; omega, f1, f3, rfl, rfl, rfl⟩ ?_
      clear f1 f3 hpre b1 bs b3 b5 bu har
      rintro m fr N' ⟨i, uo, acc, hi, hacc, hpre, b1, bs, b3, ba, bo, hne1, hne2, huo, hta', hs', f1, f3, f12, f13, f14⟩
      have hal : acc.length ≤ 64 := by
        have h1 := List.length_filter_le (closed x y z fun c => decide (c ∈ cs)) ((cellsOf x y z).take i)
        have h2 := List.length_take_le i (cellsOf x y z)
        rw [hacc]; omega
      simp (disch := omega) only [f1, f3, f12, f13, f14, ↓SXd, SXu, slBounds, ↓sop, ↓aop, ↓reduceIte, LV.cells, AOp.dst, LV.I, LV.B, LV.U, LV.S, LV.nil, Nat.reduceEqDiff, Nat.reduceAdd, Nat.reduceMul, Nat.reduceSub, Nat.reduceLeDiff, Nat.reduceBEq, Nat.reduceDiv, Nat.reduceMod, Int.reduceToNat, Int.reduceLT, Int.reduceLE, Int.reduceAdd, Int.reduceSub, Int.reduceMul, Int.reduceEq, Int.reduceNeg, reduceCtorEq, resV, resAll, ARes.ev, LV.flat, ite_true, ite_false, exists_eq_left', exists_eq_left, keyOf, implies_true, fillC, capOf]
      refine condC_dec (fun hlt => ?_) (fun hlt => ?_)
      · have hil : i < (cellsOf x y z).length := by omega
        have hcb := (mem_cellsOf hS).1 (getD_mem' (d := default) hil)
        have hci := ba.tri0 hil
        have hts : (cellsOf x y z).take (i + 1) = (cellsOf x y z).take i ++ [(cellsOf x y z).getD i default] := by
          rw [List.take_succ, List.getElem?_eq_getElem hil]; simp [hil]
        have hpl := pick_len hS fun d => decide (d ∈ r)
        have hTri : Tri N' t 0 cs := (h.pre hpre).has
        generalize (cellsOf x y z).getD i default = c at hcb hci hts
        have hmr : decide (c ∈ pick x y z fun d => decide (d ∈ r)) = outer x y z (fun c => decide (c ∈ cs)) c := by
          rw [Bool.eq_iff_iff, decide_eq_true_iff, mem_pick hS, decide_eq_true_iff, ← hfin c hcb]
          exact ⟨fun h => h.2, fun h => ⟨hcb, h⟩⟩
        have hstep : acc ++ (if closed x y z (fun c => decide (c ∈ cs)) c then [c] else []) = ((cellsOf x y z).take (i + 1)).filter (closed x y z fun c => decide (c ∈ cs)) := by
          rw [hts, List.filter_append, ← hacc, List.filter_cons, List.filter_nil]
        simp (disch := omega) only [f1, f3, f12, f13, f14, b1.cells, hci, Cell.row, ↓SXd, SXu, slBounds, ↓sop, ↓aop, ↓reduceIte, LV.cells, AOp.dst, LV.I, LV.B, LV.U, LV.S, LV.nil, Nat.reduceEqDiff, Nat.reduceAdd, Nat.reduceMul, Nat.reduceSub, Nat.reduceLeDiff, Nat.reduceBEq, Nat.reduceDiv, Nat.reduceMod, Int.reduceToNat, Int.reduceLT, Int.reduceLE, Int.reduceAdd, Int.reduceSub, Int.reduceMul, Int.reduceEq, Int.reduceNeg, reduceCtorEq, resV, resAll, ARes.ev, LV.flat, ite_true, ite_false, exists_eq_left', exists_eq_left, keyOf, implies_true, fillC, capOf]
        refine callK_of (h_l2Has hTri hn) ?_
        simp (disch := omega) only [f1, f3, f12, f13, f14, cell_eta, ↓SXd, SXu, slBounds, ↓sop, ↓aop, ↓reduceIte, LV.cells, AOp.dst, LV.I, LV.B, LV.U, LV.S, LV.nil, Nat.reduceEqDiff, Nat.reduceAdd, Nat.reduceMul, Nat.reduceSub, Nat.reduceLeDiff, Nat.reduceBEq, Nat.reduceDiv, Nat.reduceMod, Int.reduceToNat, Int.reduceLT, Int.reduceLE, Int.reduceAdd, Int.reduceSub, Int.reduceMul, Int.reduceEq, Int.reduceNeg, reduceCtorEq, resV, resAll, ARes.ev, LV.flat, ite_true, ite_false, exists_eq_left', exists_eq_left, keyOf, implies_true, fillC, capOf]
        by_cases hc : c ∈ cs
        · simp (disch := omega) only [f1, f3, f12, f13, f14, hc, ↓SXd, SXu, slBounds, ↓sop, ↓aop, ↓reduceIte, LV.cells, AOp.dst, LV.I, LV.B, LV.U, LV.S, LV.nil, Nat.reduceEqDiff, Nat.reduceAdd, Nat.reduceMul, Nat.reduceSub, Nat.reduceLeDiff, Nat.reduceBEq, Nat.reduceDiv, Nat.reduceMod, Int.reduceToNat, Int.reduceLT, Int.reduceLE, Int.reduceAdd, Int.reduceSub, Int.reduceMul, Int.reduceEq, Int.reduceNeg, reduceCtorEq, resV, resAll, ARes.ev, LV.flat, ite_true, ite_false, exists_eq_left', exists_eq_left, keyOf, implies_true, fillC, capOf]
          exact ⟨m - 1, by omega, i + 1, uo, acc, by omega, by rw [← hstep, if_neg (by unfold closed; simp [hc]), List.append_nil], hpre, b1, bs, b3, ba, bo, hne1, hne2, huo, hta', hs', f1, f3, f12, f13, eqI (natI _)⟩
        · simp (disch := omega) only [f1, f3, f12, f13, f14, hc, b3.cells, hci, Cell.row, ↓SXd, SXu, slBounds, ↓sop, ↓aop, ↓reduceIte, LV.cells, AOp.dst, LV.I, LV.B, LV.U, LV.S, LV.nil, Nat.reduceEqDiff, Nat.reduceAdd, Nat.reduceMul, Nat.reduceSub, Nat.reduceLeDiff, Nat.reduceBEq, Nat.reduceDiv, Nat.reduceMod, Int.reduceToNat, Int.reduceLT, Int.reduceLE, Int.reduceAdd, Int.reduceSub, Int.reduceMul, Int.reduceEq, Int.reduceNeg, reduceCtorEq, resV, resAll, ARes.ev, LV.flat, ite_true, ite_false, exists_eq_left', exists_eq_left, keyOf, implies_true, fillC, capOf]
          refine callK_of (h_l2Has bs.has (by omega)) ?_
          simp (disch := omega) only [f1, f3, f12, f13, f14, cell_eta, ↓SXd, SXu, slBounds, ↓sop, ↓aop, ↓reduceIte, LV.cells, AOp.dst, LV.I, LV.B, LV.U, LV.S, LV.nil, Nat.reduceEqDiff, Nat.reduceAdd, Nat.reduceMul, Nat.reduceSub, Nat.reduceLeDiff, Nat.reduceBEq, Nat.reduceDiv, Nat.reduceMod, Int.reduceToNat, Int.reduceLT, Int.reduceLE, Int.reduceAdd, Int.reduceSub, Int.reduceMul, Int.reduceEq, Int.reduceNeg, reduceCtorEq, resV, resAll, ARes.ev, LV.flat, ite_true, ite_false, exists_eq_left', exists_eq_left, keyOf, implies_true, fillC, capOf]
          rw [hmr]
          cases ho : outer x y z (fun c => decide (c ∈ cs)) c with
          | true =>
            simp (disch := omega) only [f1, f3, f12, f13, f14, ho, ↓SXd, SXu, slBounds, ↓sop, ↓aop, ↓reduceIte, LV.cells, AOp.dst, LV.I, LV.B, LV.U, LV.S, LV.nil, Nat.reduceEqDiff, Nat.reduceAdd, Nat.reduceMul, Nat.reduceSub, Nat.reduceLeDiff, Nat.reduceBEq, Nat.reduceDiv, Nat.reduceMod, Int.reduceToNat, Int.reduceLT, Int.reduceLE, Int.reduceAdd, Int.reduceSub, Int.reduceMul, Int.reduceEq, Int.reduceNeg, reduceCtorEq, resV, resAll, ARes.ev, LV.flat, ite_true, ite_false, exists_eq_left', exists_eq_left, keyOf, implies_true, fillC, capOf]
            exact ⟨m - 1, by omega, i + 1, uo, acc, by omega, by rw [← hstep, if_neg (by unfold closed; simp [ho]), List.append_nil], hpre, b1, bs, b3, ba, bo, hne1, hne2, huo, hta', hs', f1, f3, f12, f13, eqI (natI _)⟩
          | false =>
            simp (disch := omega) only [f1, f3, f12, f13, f14, ho, hci, Cell.row, splice, ↓SXd, SXu, slBounds, ↓sop, ↓aop, ↓reduceIte, LV.cells, AOp.dst, LV.I, LV.B, LV.U, LV.S, LV.nil, Nat.reduceEqDiff, Nat.reduceAdd, Nat.reduceMul, Nat.reduceSub, Nat.reduceLeDiff, Nat.reduceBEq, Nat.reduceDiv, Nat.reduceMod, Int.reduceToNat, Int.reduceLT, Int.reduceLE, Int.reduceAdd, Int.reduceSub, Int.reduceMul, Int.reduceEq, Int.reduceNeg, reduceCtorEq, resV, resAll, ARes.ev, LV.flat, ite_true, ite_false, exists_eq_left', exists_eq_left, keyOf, implies_true, fillC, capOf]
            refine appendK_cell bo (by omega) fun N5 l1 l2 l3 => ?_
            simp (disch := omega) only [f1, f3, f12, f13, f14, ↓SXd, SXu, slBounds, ↓sop, ↓aop, ↓reduceIte, LV.cells, AOp.dst, LV.I, LV.B, LV.U, LV.S, LV.nil, Nat.reduceEqDiff, Nat.reduceAdd, Nat.reduceMul, Nat.reduceSub, Nat.reduceLeDiff, Nat.reduceBEq, Nat.reduceDiv, Nat.reduceMod, Int.reduceToNat, Int.reduceLT, Int.reduceLE, Int.reduceAdd, Int.reduceSub, Int.reduceMul, Int.reduceEq, Int.reduceNeg, reduceCtorEq, resV, resAll, ARes.ev, LV.flat, ite_true, ite_false, exists_eq_left', exists_eq_left, keyOf, implies_true, fillC, capOf]
            rw [if_pos (by unfold closed; simp [ho, hc])] at hstep
            rw [cell_eta, hstep] at l2 ⊢
            exact ⟨m - 1, by omega, i + 1, _, _, by omega, rfl, pre_step hpre (by omega) l1 l3, live_step b1 (fun e => by have := b1.ne_esz bo (by decide); exact this e) l3, live_step bs (by omega) l3, live_step b3 (b3.ne_esz bo (by decide)) l3, live_step ba (by omega) l3, l2, by omega, by omega, by have := hpre.1; omega, by omega, by omega, f1, f3, rfl, f13, eqI (natI _)⟩
      · simp (disch := omega) only [f1, f3, f12, f13, f14, ↓SXd, SXu, slBounds, ↓sop, ↓aop, ↓reduceIte, LV.cells, AOp.dst, LV.I, LV.B, LV.U, LV.S, LV.nil, Nat.reduceEqDiff, Nat.reduceAdd, Nat.reduceMul, Nat.reduceSub, Nat.reduceLeDiff, Nat.reduceBEq, Nat.reduceDiv, Nat.reduceMod, Int.reduceToNat, Int.reduceLT, Int.reduceLE, Int.reduceAdd, Int.reduceSub, Int.reduceMul, Int.reduceEq, Int.reduceNeg, reduceCtorEq, resV, resAll, ARes.ev, LV.flat, ite_true, ite_false, exists_eq_left', exists_eq_left, keyOf, implies_true, fillC, capOf]
        have : i = (cellsOf x y z).length := by omega
        subst this
        rw [List.take_length] at hacc
        have : acc = pick x y z (closed x y z fun c => decide (c ∈ cs)) := hacc
        rw [← this]
        exact cmp_keepL hpre (by omega) bo (triL_lo acc) (by simp [rn, rn0, rn1])
end Go.Ab

namespace Go.Ab.C
open Go.Ab
def spec_l2Box : AFn :=
 ⟨3, 16, [.cellN 6 4],
 .seq (.ops [(none, .alloc 6 [(.I 0), (.I 0), (.I 0), .nil])])
 (.seq (.ops [(none, .mv 8 (.t 0)),
 (none, .mv 9 (.t 1)),
 (none, .mv 10 (.t 2)),
 (none, .call (some 11) F.spec_l2Empty [(.t 8), (.t 9), (.t 10)]),
 (none, .alloc 7 [(.I 0), (.I 0), (.I 0), .nil]),
 (none, .store 4 (.t 7) (.t 11))])
 (.seq (.ops [(none, .loadN 12 4 (.t 7)),
 (none, .call (some 13) F.spec_l2All [(.t 12)]),
 (none, .fieldAddr 14 (.t 7) 3),
 (none, .store 1 (.t 14) (.t 13))])
 (.seq (.ops [(none, .loadN 15 4 (.t 7)),
 (none, .store 4 (.t 6) (.t 15))])
 (.ret))))⟩
end Go.Ab.C

namespace Go.Ab.K
open Go Go.Ab
theorem spec_l2Box : prepF Go.Proofs.Try.prog F.spec_l2Box = some C.spec_l2Box := by kernel_rfl
end Go.Ab.K

namespace Go.Ab
open Go
set_option maxRecDepth 20000

def HeapV (M : Mem) (x y z : Int) (cs : List Cell) (v : LV) (N : Mem) : Prop := ∃ u : Nat, v = .agg [.I x, .I y, .I z, .ref u 0 cs.length] ∧ Live N u (.row (triL cs) true 3) ∧ M.length ≤ u
theorem h_l2Box {x y z : Int} {M : Mem} (hS : Sides x y z) : CallsR PG F.spec_l2Box [.I x, .I y, .I z] M fun v N => HeapV M x y z (cellsOf x y z) v N ∧ Pre M N := by
  have hcl : (cellsOf x y z).length = vol x y z := by simp [cellsOf]
  refine callsR_run K.spec_l2Box rfl ?_
  simp (disch := omega) only [C.spec_l2Box, ↓SXd, SXu, slBounds, ↓sop, ↓aop, ↓reduceIte, LV.cells, AOp.dst, LV.I, LV.B, LV.U, LV.S, LV.nil, Nat.reduceEqDiff, Nat.reduceAdd, Nat.reduceMul, Nat.reduceSub, Nat.reduceLeDiff, Nat.reduceBEq, Nat.reduceDiv, Nat.reduceMod, Int.reduceToNat, Int.reduceLT, Int.reduceLE, Int.reduceAdd, Int.reduceSub, Int.reduceMul, Int.reduceEq, Int.reduceNeg, reduceCtorEq, resV, resAll, ARes.ev, LV.flat, ite_true, ite_false, exists_eq_left', exists_eq_left, keyOf, implies_true, fillC, capOf]
  refine callK_of (h_l2Empty) ?_
  simp (disch := omega) only [splice, ↓SXd, SXu, slBounds, ↓sop, ↓aop, ↓reduceIte, LV.cells, AOp.dst, LV.I, LV.B, LV.U, LV.S, LV.nil, Nat.reduceEqDiff, Nat.reduceAdd, Nat.reduceMul, Nat.reduceSub, Nat.reduceLeDiff, Nat.reduceBEq, Nat.reduceDiv, Nat.reduceMod, Int.reduceToNat, Int.reduceLT, Int.reduceLE, Int.reduceAdd, Int.reduceSub, Int.reduceMul, Int.reduceEq, Int.reduceNeg, reduceCtorEq, resV, resAll, ARes.ev, LV.flat, ite_true, ite_false, exists_eq_left', exists_eq_left, keyOf, implies_true, fillC, capOf]
  refine callK_of (h_l2All hS) ?_
  simp (disch := omega) only [splice, ↓SXd, SXu, slBounds, ↓sop, ↓aop, ↓reduceIte, LV.cells, AOp.dst, LV.I, LV.B, LV.U, LV.S, LV.nil, Nat.reduceEqDiff, Nat.reduceAdd, Nat.reduceMul, Nat.reduceSub, Nat.reduceLeDiff, Nat.reduceBEq, Nat.reduceDiv, Nat.reduceMod, Int.reduceToNat, Int.reduceLT, Int.reduceLE, Int.reduceAdd, Int.reduceSub, Int.reduceMul, Int.reduceEq, Int.reduceNeg, reduceCtorEq, resV, resAll, ARes.ev, LV.flat, ite_true, ite_false, exists_eq_left', exists_eq_left, keyOf, implies_true, fillC, capOf]
  exact ⟨⟨M.length + 3, rfl, Live.newj rfl, by omega⟩, Pre.app _ _⟩
end Go.Ab

namespace Go.Ab
open Go
set_option maxRecDepth 20000

def negD (c : Cell) : Cell := ⟨max 0 (0 - c.a), max 0 (0 - c.b), max 0 (0 - c.c)⟩
end Go.Ab

namespace Go.Ab
open Go
set_option maxRecDepth 20000

def xorI (a b : Int) : Int := if a = b then 0 else 1
def behind (t u : Turn) : Turn := ⟨⟨t.fr.at u.fr.a, t.fr.at u.fr.b, t.fr.at u.fr.c⟩, ⟨xorI (t.fl.at u.fr.a) u.fl.a, xorI (t.fl.at u.fr.b) u.fl.b, xorI (t.fl.at u.fr.c) u.fl.c⟩⟩
def oneT : Turn := ⟨⟨0, 1, 2⟩, ⟨0, 0, 0⟩⟩
def invT (t : Turn) : Turn := (turns.find? fun u => decide (behind t u = oneT)).getD oneT
def Bit (n : Int) : Prop := n = 0 ∨ n = 1
def BitT (t : Turn) : Prop := Bit t.fl.a ∧ Bit t.fl.b ∧ Bit t.fl.c
instance (n : Int) : Decidable (Bit n) := by unfold Bit; exact inferInstance
instance (t : Turn) : Decidable (BitT t) := by unfold BitT; exact inferInstance
def turnS (x y z x' y' z' : Int) (T : Turn) (p : Cell) : Cell :=
  ⟨if T.fl.a = 1 then sideOf x' y' z' T.fr.a - sideOf x y z T.fr.a - p.at T.fr.a else p.at T.fr.a, if T.fl.b = 1 then sideOf x' y' z' T.fr.b - sideOf x y z T.fr.b - p.at T.fr.b else p.at T.fr.b, if T.fl.c = 1 then sideOf x' y' z' T.fr.c - sideOf x y z T.fr.c - p.at T.fr.c else p.at T.fr.c⟩
section
variable {x y z : Int} {cs : List Cell} (hH : HeapOK x y z cs) (h0 : 0 < cs.length)
include hH
include h0
end

section
variable {x y z : Int} {cs : List Cell} (hH : HeapOK x y z cs)
include hH
end

def mir2C (z : Int) (c : Cell) : Cell := ⟨c.a, c.b, z - 1 - c.c⟩
def mir2Hp (x y z : Int) (cs : List Cell) : List Cell := pick x y z fun d => decide (d ∈ cs.map (mir2C z))
end Go.Ab

namespace Go.Ab
open Go
set_option maxRecDepth 20000

noncomputable def turnOf (x y z : Int) (cs : List Cell) (k : Int) : Option Hp := by
  classical
  exact if HeapOK x y z cs ∧ (0 ≤ k ∧ k ≤ 23) then some (turnHp x y z (turns.getD k.toNat oneT) cs) else none
def HeapT (M : Mem) (r : Hp) (v : LV) (N : Mem) : Prop := ∃ u : Nat, v = .tup [.agg [.I r.x, .I r.y, .I r.z, .ref u 0 r.cs.length], .B true] ∧ Live N u (.row (triL r.cs) true 3) ∧ M.length ≤ u
def mirDC (x y z : Int) (d : Int) (c : Cell) : Cell := ⟨if d = 0 then x - 1 - c.a else c.a, if d = 1 then y - 1 - c.b else c.b, if d = 2 then z - 1 - c.c else c.c⟩
def mirD (x y z : Int) (d : Int) (cs : List Cell) : List Cell := pick x y z fun e => decide (e ∈ cs.map (mirDC x y z d))
theorem Live.setN {N : Mem} {q k : Nat} {b : Blk} {v : Option Blk} (h : Live N q b) (hne : q ≠ k) : Live (N.set k v) q b := by
  unfold Live at *
  rw [List.getElem?_set_ne (by omega)]; exact h
theorem Live.only {M N : Mem} {q : Nat} {b0 : Blk} (h : Live M q b0) (k : Live N q b0) : ∀ b, M[q]? = some (some b) → N[q]? = some (some b) := fun b hb => by
  have e : some (some b0) = some (some b) := Eq.trans (Eq.symm h) hb
  cases e
  exact k
theorem Live.set_at {N : Mem} {k : Nat} {b : Blk} (h : k < N.length) : Live (N.set k (some b)) k b := by
  unfold Live
  rw [List.getElem?_set_self h]
theorem DrawN.setN {M N : Mem} {p t o a k : Nat} {bs : List Nat} {v : Option Blk} (h : DrawN M p t o bs a N) (hp : p < M.length) (ht : t < M.length) (hk : M.length ≤ k) : DrawN M p t o bs a (N.set k v) :=
  h.keep hp ht (Nat.le_refl _) (by simp) fun q q1 => List.getElem?_set_ne (by omega)
end Go.Ab

namespace Go.Ab.C
open Go.Ab
end Go.Ab.C

namespace Go.Ab.K
open Go Go.Ab
end Go.Ab.K

namespace Go.Ab.C
open Go.Ab
end Go.Ab.C

namespace Go.Ab.K
open Go Go.Ab
end Go.Ab.K

namespace Go.Ab
open Go
set_option maxRecDepth 20000

theorem PieceOK.le {l : List Cell} (h : PieceOK l) : l.length ≤ 5 := h.1.2
def FitQ (x y z : Int) (cs l : List Cell) : Prop := HeapOK x y z cs ∧ PieceOK l
noncomputable def fitOf (x y z : Int) (cs l : List Cell) (p : Cell) : Option Bool := by
  classical
  exact if FitQ x y z cs l then some (decide (FitsP x y z cs l p)) else none
noncomputable def placesOf (x y z : Int) (cs l : List Cell) : Option (List Cell) := by
  classical
  exact if FitQ x y z cs l then some (pick x y z fun c => decide (FitsP x y z cs l c)) else none
noncomputable def boxOf (x y z : Int) : Option (List Cell) := by
  classical
  exact if Sides x y z ∧ vol x y z ≤ 5 then some (cellsOf x y z) else none
noncomputable def ppOf (l : List Cell) : Option Int := by
  classical
  exact if PieceOK l then some (max (parL l) (0 - parL l)) else none
noncomputable def fpOf (x y z : Int) (cs : List Cell) : Option Int := by
  classical
  exact if HeapOK x y z cs then some (parL (pick x y z (freeP cs))) else none
section
variable {x y z : Int} {t o u q : Nat} {cs l : List Cell} {M : Mem} (h : Tri M t o cs) (hn : cs.length ≤ 1000000000) (hl : Tri M u q l) (hln : l.length ≤ 1000000000)
include hl hln
include h hn
end
end Go.Ab

namespace Go.Ab
open Go
set_option maxRecDepth 20000

noncomputable instance {x y z : Int} {cs l : List Cell} : Decidable (FitQ x y z cs l) := Classical.propDecidable _
section
variable {x y z : Int} {t o u q : Nat} {cs l : List Cell} {M : Mem} (h : Tri M t o cs) (hn : cs.length ≤ 1000000000) (hl : Tri M u q l) (hln : l.length ≤ 1000000000)
include hl hln
include h hn
end
end Go.Ab

namespace Go.Ab
open Go
set_option maxRecDepth 20000

end Go.Ab

namespace Go.Ab
open Go
set_option maxRecDepth 20000

def HeapX (M : Mem) (r : Option Hp) (v : LV) (N : Mem) : Prop := ∃ u : Nat, v = .tup [.agg [.I (r.getD Hp.none).x, .I (r.getD Hp.none).y, .I (r.getD Hp.none).z, .ref u 0 (r.getD Hp.none).cs.length], .B r.isSome] ∧ Live N u (.row (triL (r.getD Hp.none).cs) true 3) ∧ Pre M N
section
variable (x y z : Int) (cs : List Cell)
noncomputable def mirOf (d : Int) : Option Hp := by
  classical
  exact if HeapOK x y z cs ∧ Dir d then some ⟨x, y, z, mirD x y z d cs⟩ else none
noncomputable def othOf : Option Hp := by
  classical
  exact if HeapOK x y z cs then some ⟨x, y, z, pick x y z (freeP cs)⟩ else none
end
def swI (a b i : Int) : Int := if i = a then b else if i = b then a else i
def swC (a b : Int) (c : Cell) : Cell := ⟨c.at (swI a b 0), c.at (swI a b 1), c.at (swI a b 2)⟩
def swX (a b : Int) (x y z : Int) (cs : List Cell) : Hp := ⟨(swC a b ⟨x, y, z⟩).a, (swC a b ⟨x, y, z⟩).b, (swC a b ⟨x, y, z⟩).c, pick (swC a b ⟨x, y, z⟩).a (swC a b ⟨x, y, z⟩).b (swC a b ⟨x, y, z⟩).c fun d => decide (d ∈ cs.map (swC a b))⟩
section
variable {x y z : Int} {cs : List Cell}
end
section
variable (x y z : Int) (cs : List Cell)
noncomputable def swpOf (a b : Int) : Option Hp := by
  classical
  exact if HeapOK x y z cs ∧ Dir a ∧ Dir b then some (swX a b x y z cs) else none
def Alike (x' y' z' : Int) (ds : List Cell) : Prop := HeapOK x y z cs ∧ HeapOK x' y' z' ds ∧ x = x' ∧ y = y' ∧ z = z'
noncomputable instance {x y z : Int} {cs : List Cell} {x' y' z' : Int} {ds : List Cell} : Decidable (Alike x y z cs x' y' z' ds) := Classical.propDecidable _
noncomputable def jnOf (x' y' z' : Int) (ds : List Cell) : Option Hp := if Alike x y z cs x' y' z' ds then some ⟨x, y, z, pick x y z fun c => decide (c ∈ cs) || decide (c ∈ ds)⟩ else none
noncomputable def cmOf (x' y' z' : Int) (ds : List Cell) : Option Hp := if Alike x y z cs x' y' z' ds then some ⟨x, y, z, pick x y z fun c => decide (c ∈ cs) && decide (c ∈ ds)⟩ else none
def Near4 (p : Cell) : Prop := (-4 ≤ p.a ∧ p.a ≤ 4) ∧ (-4 ≤ p.b ∧ p.b ≤ 4) ∧ (-4 ≤ p.c ∧ p.c ≤ 4)
noncomputable def shOf (p : Cell) : Option Hp := by
  classical
  exact if HeapOK x y z cs ∧ Near4 p ∧ HeapOK x y z (cs.map (shift p)) then some ⟨x, y, z, cs.map (shift p)⟩ else none
noncomputable def crOf : Option Hp := by
  classical
  exact if HeapOK x y z cs ∧ 0 < cs.length then some (cropHp cs) else none
noncomputable def wdOf (X Y Z : Int) : Option Hp := by
  classical
  exact if HeapOK x y z cs ∧ HeapOK X Y Z cs then some ⟨X, Y, Z, cs⟩ else none
end
theorem or_and_len {p q : Cell → Bool} : ∀ l : List Cell, (l.filter fun c => p c || q c).length + (l.filter fun c => p c && q c).length = (l.filter p).length + (l.filter q).length
  | [] => rfl
  | a :: l => by
    have ih := or_and_len (p := p) (q := q) l
    simp only [List.filter_cons]
    cases p a <;> cases q a <;> simp <;> omega
end Go.Ab

namespace Go.Ab
open Go
set_option maxRecDepth 20000

def colN (x y z : Int) (j : Nat) (p : Cell → Bool) : Nat := (pick x y z fun c => p c && onLine y z 2 j c).length
theorem pick_part {x y z : Int} (p q : Cell → Bool) : (pick x y z fun c => p c && q c).length + (pick x y z fun c => p c && !q c).length = (pick x y z p).length := by
  have : ∀ l : List Cell, (l.filter fun c => p c && q c).length + (l.filter fun c => p c && !q c).length = (l.filter p).length := by
    intro l
    induction l with
    | nil => rfl
    | cons a l ih =>
      simp only [List.filter_cons]
      cases p a <;> cases q a <;> simp <;> omega
  exact this _
theorem pick_or {x y z : Int} {p q : Cell → Bool} (hd : ∀ c, c.inBox x y z → ¬ (p c = true ∧ q c = true)) (hS : Sides x y z) : (pick x y z fun c => p c || q c).length = (pick x y z p).length + (pick x y z q).length := by
  have h := or_and_len (p := p) (q := q) (cellsOf x y z)
  have h0 : ((cellsOf x y z).filter fun c => p c && q c) = [] := by
    rw [List.filter_eq_nil_iff]
    intro c hc e
    rw [Bool.and_eq_true] at e
    exact hd c ((mem_cellsOf hS).1 hc) e
  rw [h0] at h
  unfold pick
  simpa using h
def movD (x y z : Int) (H p : Cell → Bool) : Cell → Bool := fun d => (p d && !H d) || (decide ((up d).inBox x y z) && H (up d))
section
variable {x y z : Int} (hS : Sides x y z)
include hS
end
def colL (a b : Int) (n : Nat) : List Cell := (List.range n).map fun k : Nat => ⟨a, b, (k : Int)⟩
section
variable {x y z : Int} (hS : Sides x y z)
include hS
def Filled1 (x y z : Int) (p : Cell → Bool) : Prop := ∀ c, c.inBox x y z → p c = true → 0 < c.c → p (down c) = true
def looseP (p : Cell → Bool) (c : Cell) : Bool := decide (0 < c.c) && !p (down c)
end
end Go.Ab

namespace Go.Ab.C
open Go.Ab
def impl_TunnelsOf : AFn :=
 ⟨1, 17, [.tmp 2, .tmp 3],
 .seq (.ops [(none, .box 1 (.t 0)),
 (none, .mv 2 (.c (.I 0))),
 (none, .mv 3 (.c (.B false)))])
 (.seq (.seq (.ops [(none, .loadN 4 4 (.t 1)),
 (none, .call (some 5) F.impl_IsHeap [(.t 4)]),
 (none, .un 6 .not (.t 5))])
 (.cond (.t 6) (.seq (.ops [(none, .mv 2 (.c (.I 0))),
 (none, .mv 3 (.c (.B false)))])
 (.ret))
 (.skip)))
 (.seq (.draw [⟨(none, .loadN 7 4 (.t 1)), [], []⟩,
 ⟨(none, .loadN 10 4 (.t 1)), [], []⟩,
 ⟨(none, .loadN 14 4 (.t 1)), [], []⟩,
 ⟨(none, .call (some 8) F.impl_Heap_clusters [(.t 7)]), [], [1, 2]⟩,
 ⟨(none, .len 9 (.t 8)), [], []⟩,
 ⟨(none, .call (some 11) F.impl_Heap_cavities [(.t 10)]), [], [2, 4]⟩,
 ⟨(none, .len 12 (.t 11)), [], []⟩,
 ⟨(none, .bin 13 .add (.t 9) (.t 12)), [], []⟩,
 ⟨(none, .call (some 15) F.impl_Heap_euler [(.t 14)]), [], [4, 6, 7]⟩,
 ⟨(none, .bin 16 .sub (.t 13) (.t 15)), [], []⟩,
 ⟨(none, .mv 2 (.t 16)), [], []⟩,
 ⟨(none, .mv 3 (.c (.B true))), [], []⟩])
 (.ret)))⟩
def spec_TunnelsOf : AFn :=
 ⟨1, 17, [.tmp 2, .tmp 3],
 .seq (.ops [(none, .box 1 (.t 0)),
 (none, .mv 2 (.c (.I 0))),
 (none, .mv 3 (.c (.B false)))])
 (.seq (.seq (.ops [(none, .loadN 4 4 (.t 1)),
 (none, .call (some 5) F.spec_l2Heap [(.t 4)]),
 (none, .un 6 .not (.t 5))])
 (.cond (.t 6) (.seq (.ops [(none, .mv 2 (.c (.I 0))),
 (none, .mv 3 (.c (.B false)))])
 (.ret))
 (.skip)))
 (.seq (.draw [⟨(none, .loadN 7 4 (.t 1)), [], []⟩,
 ⟨(none, .loadN 10 4 (.t 1)), [], []⟩,
 ⟨(none, .loadN 14 4 (.t 1)), [], []⟩,
 ⟨(none, .call (some 8) F.spec_l6Clusters [(.t 7)]), [], [1, 2]⟩,
 ⟨(none, .len 9 (.t 8)), [], []⟩,
 ⟨(none, .call (some 11) F.spec_l6Cavities [(.t 10)]), [], [2, 4]⟩,
 ⟨(none, .len 12 (.t 11)), [], []⟩,
 ⟨(none, .bin 13 .add (.t 9) (.t 12)), [], []⟩,
 ⟨(none, .call (some 15) F.spec_l6Euler [(.t 14)]), [], [4, 6, 7]⟩,
 ⟨(none, .bin 16 .sub (.t 13) (.t 15)), [], []⟩,
 ⟨(none, .mv 2 (.t 16)), [], []⟩,
 ⟨(none, .mv 3 (.c (.B true))), [], []⟩])
 (.ret)))⟩
end Go.Ab.C

namespace Go.Ab.K
open Go Go.Ab
theorem impl_TunnelsOf : prepF Go.Proofs.Try.prog F.impl_TunnelsOf = some C.impl_TunnelsOf := by kernel_rfl
theorem spec_TunnelsOf : prepF Go.Proofs.Try.prog F.spec_TunnelsOf = some C.spec_TunnelsOf := by kernel_rfl
end Go.Ab.K

namespace Go.Ab.C
open Go.Ab
def spec_l6Clusters : AFn :=
 ⟨1, 82, [.tmp 2],
 .seq (.ops [(none, .box 1 (.t 0)),
 (none, .mv 2 (.c .nil))])
 (.seq (.ops [(none, .buildSl 10 0 1 [] []),
 (none, .loadN 11 4 (.t 1)),
 (none, .call (some 12) F.spec_l2Own [(.t 11)]),
 (none, .alloc 4 [(.I 0), (.I 0), (.I 0), .nil]),
 (none, .mv 3 (.t 10)),
 (none, .store 4 (.t 4) (.t 12))])
 (.seq (.block 0 (.loop (.seq (.seq (.ops [(none, .fieldAddr 13 (.t 4) 3),
 (none, .load1 14 (.t 13)),
 (none, .len 15 (.t 14)),
 (none, .bin 16 .gtr (.t 15) (.c (.I 0)))])
 (.cond (.t 16) (.skip)
 (.exit 0)))
 (.block 1 (.seq (.draw [⟨(none, .fieldAddr 17 (.t 1) 0), [], []⟩,
 ⟨(none, .load1 18 (.t 17)), [], []⟩,
 ⟨(none, .fieldAddr 19 (.t 1) 1), [], []⟩,
 ⟨(none, .load1 20 (.t 19)), [], []⟩,
 ⟨(none, .fieldAddr 21 (.t 1) 2), [], []⟩,
 ⟨(none, .load1 22 (.t 21)), [], []⟩,
 ⟨(none, .fieldAddr 24 (.t 4) 3), [], []⟩,
 ⟨(none, .load1 25 (.t 24)), [], []⟩,
 ⟨(none, .idxS 26 3 (.t 25) (.c (.I 0))), [], []⟩,
 ⟨(none, .loadN 27 3 (.t 26)), [], []⟩,
 ⟨(none, .buildSl 28 1 3 [(.I 0), (.I 0), (.I 0)] [(0, 3, (.t 27))]), [], []⟩,
 ⟨(none, .alloc 5 [(.I 0), (.I 0), (.I 0), .nil]), [], []⟩,
 ⟨(none, .call (some 23) F.spec_l2Empty [(.t 18), (.t 20), (.t 22)]), [10, 11], [6, 7, 8, 9]⟩,
 ⟨(none, .store 4 (.t 5) (.t 23)), [10], [6, 7, 8, 9]⟩,
 ⟨(none, .mv 6 (.t 28)), [], []⟩])
 (.seq (.draw [⟨(none, .loadN 29 4 (.t 4)), [], []⟩,
 ⟨(none, .mv 30 (.t 6)), [], []⟩,
 ⟨(none, .idxS 31 3 (.t 30) (.c (.I 0))), [], []⟩,
 ⟨(none, .loadN 32 3 (.t 31)), [], []⟩,
 ⟨(none, .call (some 33) F.spec_l2Without [(.t 29), (.t 32)]), [], []⟩,
 ⟨(none, .store 4 (.t 4) (.t 33)), [], []⟩])
 (.seq (.seq (.ops [(none, .mv 7 (.c (.I 0)))])
 (.block 2 (.loop (.seq (.seq (.ops [(none, .mv 34 (.t 7)),
 (none, .mv 35 (.t 6)),
 (none, .len 36 (.t 35)),
 (none, .bin 37 .lss (.t 34) (.t 36))])
 (.cond (.t 37) (.skip)
 (.exit 2)))
 (.seq (.block 3 (.seq (.draw [⟨(none, .loadN 40 4 (.t 5)), [], []⟩,
 ⟨(none, .mv 41 (.t 6)), [], []⟩,
 ⟨(none, .mv 42 (.t 7)), [], []⟩,
 ⟨(none, .idxS 43 3 (.t 41) (.t 42)), [], []⟩,
 ⟨(none, .loadN 44 3 (.t 43)), [], []⟩,
 ⟨(none, .call (some 45) F.spec_l2With [(.t 40), (.t 44)]), [], []⟩,
 ⟨(none, .store 4 (.t 5) (.t 45)), [], []⟩])
 (.seq (.ops [(none, .fieldAddr 46 (.t 4) 3),
 (none, .load1 47 (.t 46)),
 (none, .mv 8 (.t 47))])
 (.seq (.ops [(none, .mv 9 (.c (.I 0)))])
 (.block 4 (.loop (.seq (.seq (.ops [(none, .mv 48 (.t 9)),
 (none, .mv 49 (.t 8)),
 (none, .len 50 (.t 49)),
 (none, .bin 51 .lss (.t 48) (.t 50))])
 (.cond (.t 51) (.skip)
 (.exit 4)))
 (.seq (.block 5 (.seq (.draw [⟨(none, .mv 54 (.t 8)), [], []⟩,
 ⟨(none, .mv 55 (.t 9)), [], []⟩,
 ⟨(none, .idxS 56 3 (.t 54) (.t 55)), [], []⟩,
 ⟨(none, .loadN 57 3 (.t 56)), [], []⟩,
 ⟨(none, .mv 58 (.t 6)), [], []⟩,
 ⟨(none, .mv 59 (.t 7)), [], []⟩,
 ⟨(none, .idxS 60 3 (.t 58) (.t 59)), [], []⟩,
 ⟨(none, .loadN 61 3 (.t 60)), [], []⟩,
 ⟨(none, .call (some 62) F.spec_l6Touch [(.t 57), (.t 61)]), [], []⟩])
 (.cond (.t 62) (.seq (.ops [(none, .mv 63 (.t 6)),
 (none, .mv 64 (.t 8)),
 (none, .mv 65 (.t 9)),
 (none, .idxS 66 3 (.t 64) (.t 65)),
 (none, .loadN 67 3 (.t 66)),
 (none, .buildSl 68 1 3 [(.I 0), (.I 0), (.I 0)] [(0, 3, (.t 67))]),
 (none, .append 69 3 24 (.t 63) (.t 68)),
 (none, .mv 6 (.t 69))])
 (.draw [⟨(none, .loadN 70 4 (.t 4)), [], []⟩,
 ⟨(none, .mv 71 (.t 8)), [], []⟩,
 ⟨(none, .mv 72 (.t 9)), [], []⟩,
 ⟨(none, .idxS 73 3 (.t 71) (.t 72)), [], []⟩,
 ⟨(none, .loadN 74 3 (.t 73)), [], []⟩,
 ⟨(none, .call (some 75) F.spec_l2Without [(.t 70), (.t 74)]), [], []⟩,
 ⟨(none, .store 4 (.t 4) (.t 75)), [], []⟩]))
 (.skip))))
 (.ops [(none, .mv 52 (.t 9)),
 (none, .bin 53 .add (.t 52) (.c (.I 1))),
 (none, .mv 9 (.t 53))])))))))))
 (.ops [(none, .mv 38 (.t 7)),
 (none, .bin 39 .add (.t 38) (.c (.I 1))),
 (none, .mv 7 (.t 39))]))))))
 (.ops [(none, .mv 76 (.t 3)),
 (none, .fieldAddr 77 (.t 5) 3),
 (none, .load1 78 (.t 77)),
 (none, .buildSl 79 1 1 [.nil] [(0, 1, (.t 78))]),
 (none, .append 80 1 24 (.t 76) (.t 79)),
 (none, .mv 3 (.t 80))]))))))))
 (.seq (.ops [(none, .mv 81 (.t 3)),
 (none, .mv 2 (.t 81))])
 (.ret))))⟩
def spec_l6Touch : AFn :=
 ⟨2, 19, [.tmp 4],
 .seq (.ops [(none, .box 2 (.t 0)),
 (none, .box 3 (.t 1)),
 (none, .mv 4 (.c (.B false)))])
 (.seq (.seq (.ops [(none, .mv 5 (.c (.I 0)))])
 (.block 0 (.loop (.seq (.seq (.ops [(none, .mv 6 (.t 5)),
 (none, .bin 7 .lss (.t 6) (.c (.I 3)))])
 (.cond (.t 7) (.skip)
 (.exit 0)))
 (.seq (.block 1 (.seq (.draw [⟨(none, .mv 10 (.t 5)), [], []⟩,
 ⟨(none, .idxA 11 3 1 (.t 2) (.t 10)), [], []⟩,
 ⟨(none, .load1 12 (.t 11)), [], []⟩,
 ⟨(none, .mv 13 (.t 5)), [], []⟩,
 ⟨(none, .idxA 14 3 1 (.t 3) (.t 13)), [], []⟩,
 ⟨(none, .load1 15 (.t 14)), [], []⟩,
 ⟨(none, .bin 16 .sub (.t 12) (.t 15)), [], []⟩,
 ⟨(none, .call (some 17) F.spec_l1In [(.t 16), (.c (.I (-1))), (.c (.I 1))]), [], []⟩,
 ⟨(none, .un 18 .not (.t 17)), [], []⟩])
 (.cond (.t 18) (.seq (.ops [(none, .mv 4 (.c (.B false)))])
 (.ret))
 (.skip))))
 (.ops [(none, .mv 8 (.t 5)),
 (none, .bin 9 .add (.t 8) (.c (.I 1))),
 (none, .mv 5 (.t 9))]))))))
 (.seq (.ops [(none, .mv 4 (.c (.B true)))])
 (.ret)))⟩
end Go.Ab.C

namespace Go.Ab.K
open Go Go.Ab
theorem spec_l6Clusters : prepF Go.Proofs.Try.prog F.spec_l6Clusters = some C.spec_l6Clusters := by kernel_rfl
theorem spec_l6Touch : prepF Go.Proofs.Try.prog F.spec_l6Touch = some C.spec_l6Touch := by kernel_rfl
end Go.Ab.K

namespace Go.Ab
open Go

theorem h_l6Touch {x y z : Int} (hS : Sides x y z) {c d : Cell} {M : Mem} (hc : c.inBox x y z) (hd : d.inBox x y z) :
    CallsTo PG F.spec_l6Touch [.agg [.I c.a, .I c.b, .I c.c], .agg [.I d.a, .I d.b, .I d.c]] M (.B (touchC c d)) M := by
  refine calls_run K.spec_l6Touch rfl ?_
  obtain ⟨⟨_, _⟩, ⟨_, _⟩, _, _⟩ := id hS
  obtain ⟨⟨_, _⟩, ⟨_, _⟩, _, _⟩ := hc
  obtain ⟨⟨_, _⟩, ⟨_, _⟩, _, _⟩ := hd
  have hq : ∀ (i : Nat), i < 3 → ∃ u v : Int, [LV.I c.a, .I c.b, .I c.c][i]? = some (.I u) ∧ [LV.I d.a, .I d.b, .I d.c][i]? = some (.I v) ∧ (-100 ≤ u ∧ u ≤ 100) ∧ (-100 ≤ v ∧ v ≤ 100) ∧ ((-1 ≤ u - v ∧ u - v ≤ 1) ↔ (-1 ≤ [c.a, c.b, c.c].getD i 0 - [d.a, d.b, d.c].getD i 0 ∧ [c.a, c.b, c.c].getD i 0 - [d.a, d.b, d.c].getD i 0 ≤ 1)) := by
    intro i hi
    match i, hi with
    | 0, _ => exact ⟨c.a, d.a, rfl, rfl, by omega, by omega, Iff.rfl⟩
    | 1, _ => exact ⟨c.b, d.b, rfl, rfl, by omega, by omega, Iff.rfl⟩
    | 2, _ => exact ⟨c.c, d.c, rfl, rfl, by omega, by omega, Iff.rfl⟩
  have hyes : (∀ i, i < 3 → (-1 ≤ [c.a, c.b, c.c].getD i 0 - [d.a, d.b, d.c].getD i 0 ∧ [c.a, c.b, c.c].getD i 0 - [d.a, d.b, d.c].getD i 0 ≤ 1)) → touchC c d = true := fun h => by
    unfold touchC
    rw [decide_eq_true_iff]
    exact ⟨h 0 (by omega), h 1 (by omega), h 2 (by omega)⟩
  have hno : ∀ i, i < 3 → ¬ (-1 ≤ [c.a, c.b, c.c].getD i 0 - [d.a, d.b, d.c].getD i 0 ∧ [c.a, c.b, c.c].getD i 0 - [d.a, d.b, d.c].getD i 0 ≤ 1) → touchC c d = false := fun i hi h => by
    unfold touchC
    rw [decide_eq_false_iff_not]
    rintro ⟨h1, h2, h3⟩
    match i, hi with
    | 0, _ => exact h h1
    | 1, _ => exact h h2
    | 2, _ => exact h h3
  simp (disch := omega) only [C.spec_l6Touch, ↓SXd, SXu, slBounds, ↓sop, ↓aop, ↓reduceIte, LV.cells, AOp.dst, LV.I, LV.B, LV.U, LV.S, LV.nil, Nat.reduceEqDiff, Nat.reduceAdd, Nat.reduceMul, Nat.reduceSub, Nat.reduceLeDiff, Nat.reduceBEq, Nat.reduceDiv, Nat.reduceMod, Int.reduceToNat, Int.reduceLT, Int.reduceLE, Int.reduceAdd, Int.reduceSub, Int.reduceMul, Int.reduceEq, Int.reduceNeg, reduceCtorEq, resV, resAll, ARes.ev, LV.flat, ite_true, ite_false, exists_eq_left', exists_eq_left, keyOf, implies_true, fillC, capOf]
  refine ev_loop (fun m fr M' => ∃ i : Nat, i + m = 3 ∧ (∀ j, j < i → (-1 ≤ [c.a, c.b, c.c].getD j 0 - [d.a, d.b, d.c].getD j 0 ∧ [c.a, c.b, c.c].getD j 0 - [d.a, d.b, d.c].getD j 0 ≤ 1)) ∧ M' = M ++ [some (.row [.I c.a, .I c.b, .I c.c] true 0), some (.row [.I d.a, .I d.b, .I d.c] true 0)] ∧ fr 2 = .ptr M.length 0 ∧ fr 3 = .ptr (M.length + 1) 0 ∧ fr 5 = .I i) 3
    ⟨0, by omega, fun j hj => by omega, rfl, rfl, rfl, rfl⟩ ?_
  rintro m fr M' ⟨i, hi, hall, rfl, f2, f3, f5⟩
  simp (disch := omega) only [f2, f3, f5, ↓SXd, SXu, slBounds, ↓sop, ↓aop, ↓reduceIte, LV.cells, AOp.dst, LV.I, LV.B, LV.U, LV.S, LV.nil, Nat.reduceEqDiff, Nat.reduceAdd, Nat.reduceMul, Nat.reduceSub, Nat.reduceLeDiff, Nat.reduceBEq, Nat.reduceDiv, Nat.reduceMod, Int.reduceToNat, Int.reduceLT, Int.reduceLE, Int.reduceAdd, Int.reduceSub, Int.reduceMul, Int.reduceEq, Int.reduceNeg, reduceCtorEq, resV, resAll, ARes.ev, LV.flat, ite_true, ite_false, exists_eq_left', exists_eq_left, keyOf, implies_true, fillC, capOf]
  refine condC_dec (fun hlt => ?_) (fun hlt => ?_)
  · obtain ⟨u, v, h1, h2, h3, h4, h5⟩ := hq i (by omega)
    simp (disch := omega) only [f2, f3, f5, h1, h2, Nat.mul_one, ↓SXd, SXu, slBounds, ↓sop, ↓aop, ↓reduceIte, LV.cells, AOp.dst, LV.I, LV.B, LV.U, LV.S, LV.nil, Nat.reduceEqDiff, Nat.reduceAdd, Nat.reduceMul, Nat.reduceSub, Nat.reduceLeDiff, Nat.reduceBEq, Nat.reduceDiv, Nat.reduceMod, Int.reduceToNat, Int.reduceLT, Int.reduceLE, Int.reduceAdd, Int.reduceSub, Int.reduceMul, Int.reduceEq, Int.reduceNeg, reduceCtorEq, resV, resAll, ARes.ev, LV.flat, ite_true, ite_false, exists_eq_left', exists_eq_left, keyOf, implies_true, fillC, capOf]
    refine callK_of (h_l1In) ?_
    simp (disch := omega) only [f2, f3, f5, ↓SXd, SXu, slBounds, ↓sop, ↓aop, ↓reduceIte, LV.cells, AOp.dst, LV.I, LV.B, LV.U, LV.S, LV.nil, Nat.reduceEqDiff, Nat.reduceAdd, Nat.reduceMul, Nat.reduceSub, Nat.reduceLeDiff, Nat.reduceBEq, Nat.reduceDiv, Nat.reduceMod, Int.reduceToNat, Int.reduceLT, Int.reduceLE, Int.reduceAdd, Int.reduceSub, Int.reduceMul, Int.reduceEq, Int.reduceNeg, reduceCtorEq, resV, resAll, ARes.ev, LV.flat, ite_true, ite_false, exists_eq_left', exists_eq_left, keyOf, implies_true, fillC, capOf]
    by_cases ho : -1 ≤ u - v ∧ u - v ≤ 1
    · simp (disch := omega) only [f2, f3, f5, ho, ↓SXd, SXu, slBounds, ↓sop, ↓aop, ↓reduceIte, LV.cells, AOp.dst, LV.I, LV.B, LV.U, LV.S, LV.nil, Nat.reduceEqDiff, Nat.reduceAdd, Nat.reduceMul, Nat.reduceSub, Nat.reduceLeDiff, Nat.reduceBEq, Nat.reduceDiv, Nat.reduceMod, Int.reduceToNat, Int.reduceLT, Int.reduceLE, Int.reduceAdd, Int.reduceSub, Int.reduceMul, Int.reduceEq, Int.reduceNeg, reduceCtorEq, resV, resAll, ARes.ev, LV.flat, ite_true, ite_false, exists_eq_left', exists_eq_left, keyOf, implies_true, fillC, capOf]
      refine ⟨m - 1, by omega, i + 1, by omega, fun j hj => ?_, rfl, f2, f3, eqI (natI _)⟩
      rcases Nat.lt_or_ge j i with h6 | h6
      · exact hall j h6
      · rw [show j = i by omega]; exact h5.1 ho
    · rw [hno i (by omega) fun h => ho (h5.2 h)]
      simp (disch := omega) only [f2, f3, f5, ho, ↓SXd, SXu, slBounds, ↓sop, ↓aop, ↓reduceIte, LV.cells, AOp.dst, LV.I, LV.B, LV.U, LV.S, LV.nil, Nat.reduceEqDiff, Nat.reduceAdd, Nat.reduceMul, Nat.reduceSub, Nat.reduceLeDiff, Nat.reduceBEq, Nat.reduceDiv, Nat.reduceMod, Int.reduceToNat, Int.reduceLT, Int.reduceLE, Int.reduceAdd, Int.reduceSub, Int.reduceMul, Int.reduceEq, Int.reduceNeg, reduceCtorEq, resV, resAll, ARes.ev, LV.flat, ite_true, ite_false, exists_eq_left', exists_eq_left, keyOf, implies_true, fillC, capOf]
      exact cmp_drop rfl
  · rw [hyes fun j hj => hall j (by omega)]
    simp (disch := omega) only [f2, f3, f5, ↓SXd, SXu, slBounds, ↓sop, ↓aop, ↓reduceIte, LV.cells, AOp.dst, LV.I, LV.B, LV.U, LV.S, LV.nil, Nat.reduceEqDiff, Nat.reduceAdd, Nat.reduceMul, Nat.reduceSub, Nat.reduceLeDiff, Nat.reduceBEq, Nat.reduceDiv, Nat.reduceMod, Int.reduceToNat, Int.reduceLT, Int.reduceLE, Int.reduceAdd, Int.reduceSub, Int.reduceMul, Int.reduceEq, Int.reduceNeg, reduceCtorEq, resV, resAll, ARes.ev, LV.flat, ite_true, ite_false, exists_eq_left', exists_eq_left, keyOf, implies_true, fillC, capOf]
    exact cmp_drop rfl

theorem h_l6Clusters {x y z : Int} {t : Nat} {w : Bool} {cs : List Cell} {M : Mem} (h : Live M t (.row (triL cs) w 3)) (hH : HeapOK x y z cs) :
    CallsR PG F.spec_l6Clusters [.agg [.I x, .I y, .I z, .ref t 0 cs.length]] M fun v N => ∃ (u : Nat) (refs : List LV), v = .ref u 0 refs.length ∧ M.length ≤ u ∧ Live N u (.row refs true 1) ∧ Css N M.length N.length refs (clus x y z 65 fun d => decide (d ∈ cs)) ∧ Pre M N := by
  have hS := hH.1
  have hn := hH.len
  have ht := h.lt
  refine callsR_run K.spec_l6Clusters rfl ?_
  simp (disch := omega) only [C.spec_l6Clusters, ↓SXd, SXu, slBounds, ↓sop, ↓aop, ↓reduceIte, LV.cells, AOp.dst, LV.I, LV.B, LV.U, LV.S, LV.nil, Nat.reduceEqDiff, Nat.reduceAdd, Nat.reduceMul, Nat.reduceSub, Nat.reduceLeDiff, Nat.reduceBEq, Nat.reduceDiv, Nat.reduceMod, Int.reduceToNat, Int.reduceLT, Int.reduceLE, Int.reduceAdd, Int.reduceSub, Int.reduceMul, Int.reduceEq, Int.reduceNeg, reduceCtorEq, resV, resAll, ARes.ev, LV.flat, ite_true, ite_false, exists_eq_left', exists_eq_left, keyOf, implies_true, fillC, capOf]
  refine callK_of (h_l2Own (Has.app h.has) (by omega)) ?_
  simp (disch := omega) only [splice, ↓SXd, SXu, slBounds, ↓sop, ↓aop, ↓reduceIte, LV.cells, AOp.dst, LV.I, LV.B, LV.U, LV.S, LV.nil, Nat.reduceEqDiff, Nat.reduceAdd, Nat.reduceMul, Nat.reduceSub, Nat.reduceLeDiff, Nat.reduceBEq, Nat.reduceDiv, Nat.reduceMod, Int.reduceToNat, Int.reduceLT, Int.reduceLE, Int.reduceAdd, Int.reduceSub, Int.reduceMul, Int.reduceEq, Int.reduceNeg, reduceCtorEq, resV, resAll, ARes.ev, LV.flat, ite_true, ite_false, exists_eq_left', exists_eq_left, keyOf, implies_true, fillC, capOf]
  have hcs := hH.pick
  refine ev_loop (fun m fr M' => ∃ (q : Cell → Bool) (refs : List LV) (L : List (List Cell)) (to tl : Nat), clus x y z 65 (fun d => decide (d ∈ cs)) = L ++ clus x y z m q ∧ (pick x y z q).length < m ∧ Pre M M' ∧ Live M' M.length (.row [.I x, .I y, .I z, .ref t 0 cs.length] true 0) ∧
    Live M' (M.length + 3) (.row [.I x, .I y, .I z, .ref tl 0 (pick x y z q).length] true 0) ∧ Live M' tl (.row (triL (pick x y z q)) true 3) ∧ M.length + 1 ≤ to ∧ Live M' to (.row refs true 1) ∧ Css M' M.length M'.length refs L ∧ refs.length = L.length ∧ L.length + m ≤ 65 ∧
    fr 1 = .ptr M.length 0 ∧ fr 3 = .ref to 0 refs.length ∧ fr 4 = .ptr (M.length + 3) 0) 65
    ⟨fun d => decide (d ∈ cs), [], [], M.length + 1, M.length + 2, rfl, by rw [← hcs]; omega, Pre.app _ _, Live.new, by rw [← hcs]; exact Live.newj rfl, by rw [← hcs]; exact Live.newj rfl, by omega, Live.newj rfl, trivial, rfl, by simp, rfl, rfl, rfl⟩ ?_
  clear hcs
  rintro m fr M' ⟨q, refs, L, to, tl, hparts, hfuel, hpre, hbox, hlb, hlr, hto, hout, hcss, hrl, hLm, f1, f3, f4⟩
  have hl0 := hlb.lt
  have hl1 := hlr.lt
  have hl2 := hout.lt
  simp (disch := omega) only [f1, f3, f4, hlb.cell, ↓SXd, SXu, slBounds, ↓sop, ↓aop, ↓reduceIte, LV.cells, AOp.dst, LV.I, LV.B, LV.U, LV.S, LV.nil, Nat.reduceEqDiff, Nat.reduceAdd, Nat.reduceMul, Nat.reduceSub, Nat.reduceLeDiff, Nat.reduceBEq, Nat.reduceDiv, Nat.reduceMod, Int.reduceToNat, Int.reduceLT, Int.reduceLE, Int.reduceAdd, Int.reduceSub, Int.reduceMul, Int.reduceEq, Int.reduceNeg, reduceCtorEq, resV, resAll, ARes.ev, LV.flat, ite_true, ite_false, exists_eq_left', exists_eq_left, keyOf, implies_true, fillC, capOf]
  refine condC_dec (fun hlt => ?_) (fun hlt => ?_)
  rotate_left
  · simp (disch := omega) only [f1, f3, f4, ↓SXd, SXu, slBounds, ↓sop, ↓aop, ↓reduceIte, LV.cells, AOp.dst, LV.I, LV.B, LV.U, LV.S, LV.nil, Nat.reduceEqDiff, Nat.reduceAdd, Nat.reduceMul, Nat.reduceSub, Nat.reduceLeDiff, Nat.reduceBEq, Nat.reduceDiv, Nat.reduceMod, Int.reduceToNat, Int.reduceLT, Int.reduceLE, Int.reduceAdd, Int.reduceSub, Int.reduceMul, Int.reduceEq, Int.reduceNeg, reduceCtorEq, resV, resAll, ARes.ev, LV.flat, ite_true, ite_false, exists_eq_left', exists_eq_left, keyOf, implies_true, fillC, capOf]
    have hnil : pick x y z q = [] := List.eq_nil_of_length_eq_zero (by omega)
    have : clus x y z m q = [] := by cases m with
      | zero => rfl
      | succ m => simp only [clus, hnil]
    rw [this, List.append_nil] at hparts
    rw [hparts]
    exact ⟨to, refs, rfl, by omega, hout, hcss, hpre⟩
  · obtain ⟨c, rs, hpk⟩ : ∃ c rs, pick x y z q = c :: rs := by
      cases hh : pick x y z q with
      | nil => rw [hh] at hlt; simp at hlt
      | cons c rs => exact ⟨c, rs, rfl⟩
    have hcq := (mem_pick hS (p := q) (c := c)).1 (by rw [hpk]; simp)
    have hg0 : (pick x y z q).getD 0 default = c := by rw [hpk]; rfl
    have hc0 := hlr.tri0 (k := 0) (by omega)
    rw [hg0, Nat.zero_mul] at hc0
    simp (disch := omega) only [f1, f3, f4, hbox.cell, hlb.cell, hc0, Cell.row, List.getElem?_append_left, splice, ↓SXd, SXu, slBounds, ↓sop, ↓aop, ↓reduceIte, LV.cells, AOp.dst, LV.I, LV.B, LV.U, LV.S, LV.nil, Nat.reduceEqDiff, Nat.reduceAdd, Nat.reduceMul, Nat.reduceSub, Nat.reduceLeDiff, Nat.reduceBEq, Nat.reduceDiv, Nat.reduceMod, Int.reduceToNat, Int.reduceLT, Int.reduceLE, Int.reduceAdd, Int.reduceSub, Int.reduceMul, Int.reduceEq, Int.reduceNeg, reduceCtorEq, resV, resAll, ARes.ev, LV.flat, ite_true, ite_false, exists_eq_left', exists_eq_left, keyOf, implies_true, fillC, capOf]
    refine callK_of (h_l2Empty) ?_
    simp (disch := omega) only [f1, f3, f4, List.getElem?_append_left, splice, ↓SXd, SXu, slBounds, ↓sop, ↓aop, ↓reduceIte, LV.cells, AOp.dst, LV.I, LV.B, LV.U, LV.S, LV.nil, Nat.reduceEqDiff, Nat.reduceAdd, Nat.reduceMul, Nat.reduceSub, Nat.reduceLeDiff, Nat.reduceBEq, Nat.reduceDiv, Nat.reduceMod, Int.reduceToNat, Int.reduceLT, Int.reduceLE, Int.reduceAdd, Int.reduceSub, Int.reduceMul, Int.reduceEq, Int.reduceNeg, reduceCtorEq, resV, resAll, ARes.ev, LV.flat, ite_true, ite_false, exists_eq_left', exists_eq_left, keyOf, implies_true, fillC, capOf]
    have e1 : Live (M' ++ [some (.row [.I c.a, .I c.b, .I c.c] true 3), some (.row [.I x, .I y, .I z, .ref (M'.length + 2) 0 0] true 0), some (.row [] true 3)]) M'.length (.row [.I c.a, .I c.b, .I c.c] true 3) := Live.new
    have e2 : Live (M' ++ [some (.row [.I c.a, .I c.b, .I c.c] true 3), some (.row [.I x, .I y, .I z, .ref (M'.length + 2) 0 0] true 0), some (.row [] true 3)]) (M'.length + 1) (.row [.I x, .I y, .I z, .ref (M'.length + 2) 0 0] true 0) := Live.newj rfl
    have e3 : Live (M' ++ [some (.row [.I c.a, .I c.b, .I c.c] true 3), some (.row [.I x, .I y, .I z, .ref (M'.length + 2) 0 0] true 0), some (.row [] true 3)]) (M'.length + 2) (.row [] true 3) := Live.newj rfl
    have hp1 : Pre M' (M' ++ [some (.row [.I c.a, .I c.b, .I c.c] true 3), some (.row [.I x, .I y, .I z, .ref (M'.length + 2) 0 0] true 0), some (.row [] true 3)]) := Pre.app _ _
    generalize M' ++ [some (.row [.I c.a, .I c.b, .I c.c] true 3), some (.row [.I x, .I y, .I z, .ref (M'.length + 2) 0 0] true 0), some (.row [] true 3)] = N1 at e1 e2 e3 hp1 ⊢
    have hlb1 := hlb.pre hp1
    have hlr1 := hlr.pre hp1
    simp (disch := omega) only [f1, f3, f4, hlb1.cells, e1.cells, ↓SXd, SXu, slBounds, ↓sop, ↓aop, ↓reduceIte, LV.cells, AOp.dst, LV.I, LV.B, LV.U, LV.S, LV.nil, Nat.reduceEqDiff, Nat.reduceAdd, Nat.reduceMul, Nat.reduceSub, Nat.reduceLeDiff, Nat.reduceBEq, Nat.reduceDiv, Nat.reduceMod, Int.reduceToNat, Int.reduceLT, Int.reduceLE, Int.reduceAdd, Int.reduceSub, Int.reduceMul, Int.reduceEq, Int.reduceNeg, reduceCtorEq, resV, resAll, ARes.ev, LV.flat, ite_true, ite_false, exists_eq_left', exists_eq_left, keyOf, implies_true, fillC, capOf]
    refine callH_of (h_l2Without hlr1.has (by have := pick_len hS q; omega)) ?_
    intro tl2 N2 htl2 hp2 hlr2
    rw [cell_eta, filter_pick] at hlr2 ⊢
    simp (disch := omega) only [f1, f3, f4, ↓SXd, SXu, slBounds, ↓sop, ↓aop, ↓reduceIte, LV.cells, AOp.dst, LV.I, LV.B, LV.U, LV.S, LV.nil, Nat.reduceEqDiff, Nat.reduceAdd, Nat.reduceMul, Nat.reduceSub, Nat.reduceLeDiff, Nat.reduceBEq, Nat.reduceDiv, Nat.reduceMod, Int.reduceToNat, Int.reduceLT, Int.reduceLE, Int.reduceAdd, Int.reduceSub, Int.reduceMul, Int.reduceEq, Int.reduceNeg, reduceCtorEq, resV, resAll, ARes.ev, LV.flat, ite_true, ite_false, exists_eq_left', exists_eq_left, keyOf, implies_true, fillC, capOf]
    refine memK_box (hlb1.pre hp2) (by simp) fun N3 k1 k2 k3 => ?_
    simp (disch := omega) only [f1, f3, f4, ↓SXd, SXu, slBounds, ↓sop, ↓aop, ↓reduceIte, LV.cells, AOp.dst, LV.I, LV.B, LV.U, LV.S, LV.nil, Nat.reduceEqDiff, Nat.reduceAdd, Nat.reduceMul, Nat.reduceSub, Nat.reduceLeDiff, Nat.reduceBEq, Nat.reduceDiv, Nat.reduceMod, Int.reduceToNat, Int.reduceLT, Int.reduceLE, Int.reduceAdd, Int.reduceSub, Int.reduceMul, Int.reduceEq, Int.reduceNeg, reduceCtorEq, resV, resAll, ARes.ev, LV.flat, ite_true, ite_false, exists_eq_left', exists_eq_left, keyOf, implies_true, fillC, capOf]
    have hN1 := hp1.1
    have hN1' := e3.lt
    have hN2 := hp2.1
    have hM3 : M.length + 3 < M'.length := hl0
    have hno := hout.ne_esz hlb (by decide)
    have hlr3 := live_step hlr2 (by omega) k3
    have hbox3 := live_step ((hbox.pre hp1).pre hp2) (by omega) k3
    have hout3 := live_step ((hout.pre hp1).pre hp2) (by omega) k3
    have g1 := live_step (e1.pre hp2) (by omega) k3
    have g2 := live_step (e2.pre hp2) (by omega) k3
    have g3 := live_step (e3.pre hp2) (by omega) k3
    have hpre3 := pre_step ((hpre.trans hp1).trans hp2) (by omega) (j := 0) k1 k3
    have hcss3 := ((hcss.pre hp1).pre hp2).keep (.inr ⟨_, _, _, hlb1.pre hp2, by decide⟩) k3
    have hrows : ∀ l : List Cell, (Blk.row [.I c.a, .I c.b, .I c.c] true 3) = .row (triL [c]) true 3 := fun _ => rfl
    refine ev_loop (fun m2 fr N => ∃ (n : Nat) (list : List Cell) (ti tl tp : Nat), n + m2 = 64 ∧ n ≤ list.length ∧ QueT x y z q c n list ∧ Pre M N ∧ Live N M.length (.row [.I x, .I y, .I z, .ref t 0 cs.length] true 0) ∧
      Live N (M.length + 3) (.row [.I x, .I y, .I z, .ref tl 0 (pick x y z fun d => q d && !decide (d ∈ list)).length] true 0) ∧ Live N tl (.row (triL (pick x y z fun d => q d && !decide (d ∈ list))) true 3) ∧
      Live N (M'.length + 1) (.row [.I x, .I y, .I z, .ref tp 0 (pick x y z fun d => decide (d ∈ list.take n)).length] true 0) ∧ Live N tp (.row (triL (pick x y z fun d => decide (d ∈ list.take n))) true 3) ∧
      Live N ti (.row (triL list) true 3) ∧ Live N to (.row refs true 1) ∧ Css N M.length M'.length refs L ∧ M'.length ≤ ti ∧ M'.length ≤ tl ∧ M'.length ≤ tp ∧ ti ≠ tl ∧ ti ≠ tp ∧ ti ≠ M'.length + 1 ∧
      fr 1 = .ptr M.length 0 ∧ fr 3 = .ref to 0 refs.length ∧ fr 4 = .ptr (M.length + 3) 0 ∧ fr 5 = .ptr (M'.length + 1) 0 ∧ fr 6 = .ref ti 0 list.length ∧ fr 7 = .I n) 64
      ⟨0, [c], M'.length, tl2, M'.length + 2, rfl, by simp, ⟨by simp, fun d hd => by rw [List.mem_singleton.1 hd]; exact ⟨hcq.1, hcq.2, .base hcq.1 (by simp)⟩, by simp, by omega⟩, hpre3, hbox3, ?_, ?_, ?_, ?_, g1, hout3, hcss3, by omega, by omega, by omega, by omega, by omega, by omega, f1, f3, f4, rfl, rfl, rfl⟩ ?_
    · rw [pick_congr hS (p := fun d => q d && !decide (d ∈ [c])) (q := fun d => q d && !decide (d = c)) fun d _ => by simp]; exact k2
    · rw [pick_congr hS (p := fun d => q d && !decide (d ∈ [c])) (q := fun d => q d && !decide (d = c)) fun d _ => by simp]; exact hlr3
    · rw [show pick x y z (fun d => decide (d ∈ [c].take 0)) = [] by unfold pick; rw [List.filter_eq_nil_iff]; simp]; exact g2
    · rw [show pick x y z (fun d => decide (d ∈ [c].take 0)) = [] by unfold pick; rw [List.filter_eq_nil_iff]; simp]; exact g3
    clear f1 f3 f4 hbox hlb hlr hout hcss hpre hlb1 hlr1 hlr2 k1 k2 k3 hlr3 hbox3 hout3 g1 g2 g3 hpre3 hcss3 e1 e2 e3 hp1 hp2 hN1 hN1' hN2 htl2 hno hc0 hl0 hl1 hl2
    rintro m2 fr N ⟨n, list, ti, tl, tp, hnm, hnl, hque, hpre, hbox, hlb, hlr, hpb, hpr, hli, hout, hcss, hti, htl, htp, hd1, hd2, hd3, f1, f3, f4, f5, f6, f7⟩
    have hll := nodup_len hS hque.nodup fun d hd => (hque.mem d hd).1
    have hNl := hpb.lt
    have hl0 := hlb.lt
    simp (disch := omega) only [f1, f3, f4, f5, f6, f7, ↓SXd, SXu, slBounds, ↓sop, ↓aop, ↓reduceIte, LV.cells, AOp.dst, LV.I, LV.B, LV.U, LV.S, LV.nil, Nat.reduceEqDiff, Nat.reduceAdd, Nat.reduceMul, Nat.reduceSub, Nat.reduceLeDiff, Nat.reduceBEq, Nat.reduceDiv, Nat.reduceMod, Int.reduceToNat, Int.reduceLT, Int.reduceLE, Int.reduceAdd, Int.reduceSub, Int.reduceMul, Int.reduceEq, Int.reduceNeg, reduceCtorEq, resV, resAll, ARes.ev, LV.flat, ite_true, ite_false, exists_eq_left', exists_eq_left, keyOf, implies_true, fillC, capOf]
    refine condC_dec (fun hlt2 => ?_) (fun hlt2 => ?_)
    · have hnl' : n < list.length := by omega
      have hlc := hli.tri0 hnl'
      have hcn := hque.mem _ (getD_mem' (d := default) hnl')
      have hpk2 := pick_ok hS fun d => decide (d ∈ list.take n)
      simp (disch := omega) only [f1, f3, f4, f5, f6, f7, hpb.cells, hlc, Cell.row, ↓SXd, SXu, slBounds, ↓sop, ↓aop, ↓reduceIte, LV.cells, AOp.dst, LV.I, LV.B, LV.U, LV.S, LV.nil, Nat.reduceEqDiff, Nat.reduceAdd, Nat.reduceMul, Nat.reduceSub, Nat.reduceLeDiff, Nat.reduceBEq, Nat.reduceDiv, Nat.reduceMod, Int.reduceToNat, Int.reduceLT, Int.reduceLE, Int.reduceAdd, Int.reduceSub, Int.reduceMul, Int.reduceEq, Int.reduceNeg, reduceCtorEq, resV, resAll, ARes.ev, LV.flat, ite_true, ite_false, exists_eq_left', exists_eq_left, keyOf, implies_true, fillC, capOf]
      refine callH_of (h_l2With hpr hpk2 hcn.1) ?_
      intro tp2 N2 htp2 hp2 hpr2
      rw [pick_take_step hS hnl'] at hpr2 ⊢
      simp (disch := omega) only [f1, f3, f4, f5, f6, f7, ↓SXd, SXu, slBounds, ↓sop, ↓aop, ↓reduceIte, LV.cells, AOp.dst, LV.I, LV.B, LV.U, LV.S, LV.nil, Nat.reduceEqDiff, Nat.reduceAdd, Nat.reduceMul, Nat.reduceSub, Nat.reduceLeDiff, Nat.reduceBEq, Nat.reduceDiv, Nat.reduceMod, Int.reduceToNat, Int.reduceLT, Int.reduceLE, Int.reduceAdd, Int.reduceSub, Int.reduceMul, Int.reduceEq, Int.reduceNeg, reduceCtorEq, resV, resAll, ARes.ev, LV.flat, ite_true, ite_false, exists_eq_left', exists_eq_left, keyOf, implies_true, fillC, capOf]
      refine memK_box (hpb.pre hp2) (by simp) fun N3 k1 k2 k3 => ?_
      have hN2 := hp2.1
      have hlb3 := live_step (hlb.pre hp2) (by omega) k3
      have hlr3 := live_step (hlr.pre hp2) (hlr.ne_esz hpb (by decide)) k3
      have hli3 := live_step (hli.pre hp2) (by omega) k3
      have hbox3 := live_step (hbox.pre hp2) (by omega) k3
      have hout3 := live_step (hout.pre hp2) (hout.ne_esz hpb (by decide)) k3
      have hpr3 := live_step hpr2 (by omega) k3
      have hcss3 := (hcss.pre hp2).keep (.inr ⟨_, _, _, hpb.pre hp2, by decide⟩) k3
      have hpre3 := pre_step (hpre.trans hp2) (by omega) (j := 0) k1 k3
      have hlc3 := hli3.tri0 hnl'
      have hnx := hque.next hS hnl'
      have hN2 := hp2.1
      have hN3 : N3.length = N2.length := k1
      have hlN3 := hlr3.lt
      have hlN0 := hli.lt
      have hlN4 := hli3.lt
      have hlN5 := hpr3.lt
      simp (disch := omega) only [f1, f3, f4, f5, f6, f7, hlb3.cell, ↓SXd, SXu, slBounds, ↓sop, ↓aop, ↓reduceIte, LV.cells, AOp.dst, LV.I, LV.B, LV.U, LV.S, LV.nil, Nat.reduceEqDiff, Nat.reduceAdd, Nat.reduceMul, Nat.reduceSub, Nat.reduceLeDiff, Nat.reduceBEq, Nat.reduceDiv, Nat.reduceMod, Int.reduceToNat, Int.reduceLT, Int.reduceLE, Int.reduceAdd, Int.reduceSub, Int.reduceMul, Int.reduceEq, Int.reduceNeg, reduceCtorEq, resV, resAll, ARes.ev, LV.flat, ite_true, ite_false, exists_eq_left', exists_eq_left, keyOf, implies_true, fillC, capOf]
      have hnrl := pick_len hS fun d => q d && !decide (d ∈ list)
      have hrin : ∀ d ∈ pick x y z (fun d => q d && !decide (d ∈ list)), d.inBox x y z := fun d hd => ((mem_pick hS).1 hd).1
      have hnx2 := nodup_len hS hnx.nodup fun d hd => (hnx.mem d hd).1
      generalize hnrd : pick x y z (fun d => q d && !decide (d ∈ list)) = nr at hlr3 hnx hnrl hlb3 hrin hnx2 ⊢
      refine ev_loop (fun m3 fr N => ∃ (i ti tl2 : Nat), i + m3 = nr.length ∧ Pre M N ∧ Live N M.length (.row [.I x, .I y, .I z, .ref t 0 cs.length] true 0) ∧
        Live N (M.length + 3) (.row [.I x, .I y, .I z, .ref tl2 0 (pick x y z fun d => q d && !decide (d ∈ list ++ (nr.take i).filter fun d => touchC d (list.getD n default))).length] true 0) ∧ Live N tl2 (.row (triL (pick x y z fun d => q d && !decide (d ∈ list ++ (nr.take i).filter fun d => touchC d (list.getD n default)))) true 3) ∧
        Live N (M'.length + 1) (.row [.I x, .I y, .I z, .ref tp2 0 (pick x y z fun d => decide (d ∈ list.take (n + 1))).length] true 0) ∧ Live N tp2 (.row (triL (pick x y z fun d => decide (d ∈ list.take (n + 1)))) true 3) ∧
        Live N ti (.row (triL (list ++ (nr.take i).filter fun d => touchC d (list.getD n default))) true 3) ∧ Live N tl (.row (triL nr) true 3) ∧ Live N to (.row refs true 1) ∧ Css N M.length M'.length refs L ∧ M'.length ≤ ti ∧ M'.length ≤ tl2 ∧ M'.length ≤ tp2 ∧ ti ≠ tl2 ∧ ti ≠ tp2 ∧ ti ≠ M'.length + 1 ∧ ti ≠ tl ∧
        fr 1 = .ptr M.length 0 ∧ fr 3 = .ref to 0 refs.length ∧ fr 4 = .ptr (M.length + 3) 0 ∧ fr 5 = .ptr (M'.length + 1) 0 ∧ fr 6 = .ref ti 0 (list ++ (nr.take i).filter fun d => touchC d (list.getD n default)).length ∧ fr 7 = .I n ∧ fr 8 = .ref tl 0 nr.length ∧ fr 9 = .I i) nr.length
        ⟨0, ti, tl, by omega, hpre3, hbox3, by simpa [hnrd] using hlb3, by simpa [hnrd] using hlr3, k2, hpr3, by simpa using hli3, hlr3, hout3, hcss3, hti, htl, by omega, hd1, by omega, hd3, hd1, f1, f3, f4, f5, by simp only [List.take_zero, List.filter_nil, List.append_nil]; exact f6, f7, rfl, rfl⟩ ?_
      clear f1 f3 f4 f5 f6 f7 hpre3 hbox3 hlb3 hlr3 k2 hpr3 hli3 hout3 hcss3 hlb hlr hpb hpr hli hout hcss hpre hbox k1 k3 hlc
      have hd1' := hd1
      clear hti htl htp hd1 hd2 hd3
      rintro m3 fr N ⟨i, ti, tl2, hi, hpre, hbox, hlb, hlr, hpb, hpr, hli, hnr, hout, hcss, hti, htl, htp, hd1, hd2, hd3, hd4, f1, f3, f4, f5, f6, f7, f8, f9⟩
      simp (disch := omega) only [f1, f3, f4, f5, f6, f7, f8, f9, ↓SXd, SXu, slBounds, ↓sop, ↓aop, ↓reduceIte, LV.cells, AOp.dst, LV.I, LV.B, LV.U, LV.S, LV.nil, Nat.reduceEqDiff, Nat.reduceAdd, Nat.reduceMul, Nat.reduceSub, Nat.reduceLeDiff, Nat.reduceBEq, Nat.reduceDiv, Nat.reduceMod, Int.reduceToNat, Int.reduceLT, Int.reduceLE, Int.reduceAdd, Int.reduceSub, Int.reduceMul, Int.reduceEq, Int.reduceNeg, reduceCtorEq, resV, resAll, ARes.ev, LV.flat, ite_true, ite_false, exists_eq_left', exists_eq_left, keyOf, implies_true, fillC, capOf]
      refine condC_dec (fun hlt3 => ?_) (fun hlt3 => ?_)
      · have hin : i < nr.length := by omega
        have hnc := hnr.tri0 hin
        have hlk : (list ++ (nr.take i).filter fun d => touchC d (list.getD n default)).getD n default = list.getD n default := by
          simp only [List.getD_eq_getElem?_getD]; rw [List.getElem?_append_left hnl']
        have hlc := hli.tri0 (k := n) (by rw [List.length_append]; omega)
        rw [hlk] at hlc
        have hlen : (n : Int) < ((list ++ (nr.take i).filter fun d => touchC d (list.getD n default)).length : Nat) := by rw [List.length_append]; omega
        have hts : nr.take (i + 1) = nr.take i ++ [nr.getD i default] := by
          rw [List.take_succ, List.getElem?_eq_getElem hin]; simp [hin]
        have hfl : ((nr.take i).filter fun d => touchC d (list.getD n default)).length ≤ 64 := by
          have h1 := List.length_filter_le (fun d => touchC d (list.getD n default)) (nr.take i)
          have h2 : (nr.take i).length ≤ nr.length := by simp; omega
          omega
        have hll2 : (list ++ (nr.take i).filter fun d => touchC d (list.getD n default)).length ≤ 1000 := by rw [List.length_append]; omega
        simp (disch := omega) only [f1, f3, f4, f5, f6, f7, f8, f9, hnc, Cell.row, hlc, hlen, ↓SXd, SXu, slBounds, ↓sop, ↓aop, ↓reduceIte, LV.cells, AOp.dst, LV.I, LV.B, LV.U, LV.S, LV.nil, Nat.reduceEqDiff, Nat.reduceAdd, Nat.reduceMul, Nat.reduceSub, Nat.reduceLeDiff, Nat.reduceBEq, Nat.reduceDiv, Nat.reduceMod, Int.reduceToNat, Int.reduceLT, Int.reduceLE, Int.reduceAdd, Int.reduceSub, Int.reduceMul, Int.reduceEq, Int.reduceNeg, reduceCtorEq, resV, resAll, ARes.ev, LV.flat, ite_true, ite_false, exists_eq_left', exists_eq_left, keyOf, implies_true, fillC, capOf]
        refine callK_of (h_l6Touch hS (hrin _ (getD_mem' (d := default) hin)) hcn.1) ?_
        simp (disch := omega) only [f1, f3, f4, f5, f6, f7, f8, f9, ↓SXd, SXu, slBounds, ↓sop, ↓aop, ↓reduceIte, LV.cells, AOp.dst, LV.I, LV.B, LV.U, LV.S, LV.nil, Nat.reduceEqDiff, Nat.reduceAdd, Nat.reduceMul, Nat.reduceSub, Nat.reduceLeDiff, Nat.reduceBEq, Nat.reduceDiv, Nat.reduceMod, Int.reduceToNat, Int.reduceLT, Int.reduceLE, Int.reduceAdd, Int.reduceSub, Int.reduceMul, Int.reduceEq, Int.reduceNeg, reduceCtorEq, resV, resAll, ARes.ev, LV.flat, ite_true, ite_false, exists_eq_left', exists_eq_left, keyOf, implies_true, fillC, capOf]
        by_cases htc : touchC (nr.getD i default) (list.getD n default) = true
        · have hfs : (nr.take (i + 1)).filter (fun d => touchC d (list.getD n default)) = (nr.take i).filter (fun d => touchC d (list.getD n default)) ++ [nr.getD i default] := by
            rw [hts, List.filter_append, List.filter_cons_of_pos (p := fun d => touchC d (list.getD n default)) htc, List.filter_nil]
          simp (disch := omega) only [f1, f3, f4, f5, f6, f7, f8, f9, htc, hnc, Cell.row, splice, ↓SXd, SXu, slBounds, ↓sop, ↓aop, ↓reduceIte, LV.cells, AOp.dst, LV.I, LV.B, LV.U, LV.S, LV.nil, Nat.reduceEqDiff, Nat.reduceAdd, Nat.reduceMul, Nat.reduceSub, Nat.reduceLeDiff, Nat.reduceBEq, Nat.reduceDiv, Nat.reduceMod, Int.reduceToNat, Int.reduceLT, Int.reduceLE, Int.reduceAdd, Int.reduceSub, Int.reduceMul, Int.reduceEq, Int.reduceNeg, reduceCtorEq, resV, resAll, ARes.ev, LV.flat, ite_true, ite_false, exists_eq_left', exists_eq_left, keyOf, implies_true, fillC, capOf]
          refine appendK_cell hli (by omega) fun N5 l1 l2 l3 => ?_
          have hlb5 := live_step hlb (hlb.ne_esz hli (by decide)) l3
          have hnr5 := live_step hnr (by omega) l3
          have hlr5 := live_step hlr (by omega) l3
          rw [cell_eta, List.append_assoc, ← hfs] at l2
          have hnc5 := hnr5.tri0 hin
          simp (disch := omega) only [f1, f3, f4, f5, f6, f7, f8, f9, hlb5.cells, hnc5, Cell.row, ↓SXd, SXu, slBounds, ↓sop, ↓aop, ↓reduceIte, LV.cells, AOp.dst, LV.I, LV.B, LV.U, LV.S, LV.nil, Nat.reduceEqDiff, Nat.reduceAdd, Nat.reduceMul, Nat.reduceSub, Nat.reduceLeDiff, Nat.reduceBEq, Nat.reduceDiv, Nat.reduceMod, Int.reduceToNat, Int.reduceLT, Int.reduceLE, Int.reduceAdd, Int.reduceSub, Int.reduceMul, Int.reduceEq, Int.reduceNeg, reduceCtorEq, resV, resAll, ARes.ev, LV.flat, ite_true, ite_false, exists_eq_left', exists_eq_left, keyOf, implies_true, fillC, capOf]
          refine callH_of (h_l2Without hlr5.has (by have := pick_len hS fun d => q d && !decide (d ∈ list ++ (nr.take i).filter fun d => touchC d (list.getD n default)); omega)) ?_
          intro tl3 N6 htl3 hp6 hlr6
          have hpe : pick x y z (fun d => (q d && !decide (d ∈ list ++ (nr.take i).filter fun d => touchC d (list.getD n default))) && !decide (d = nr.getD i default)) = pick x y z fun d => q d && !decide (d ∈ list ++ (nr.take (i + 1)).filter fun d => touchC d (list.getD n default)) := pick_congr hS fun d _ => by
            rw [hfs, ← List.append_assoc]
            simp only [List.mem_append (s := list ++ (nr.take i).filter fun d => touchC d (list.getD n default)), List.mem_singleton, Bool.decide_or, Bool.not_or, Bool.and_assoc]
          rw [cell_eta, filter_pick, hpe] at hlr6 ⊢
          simp (disch := omega) only [f1, f3, f4, f5, f6, f7, f8, f9, ↓SXd, SXu, slBounds, ↓sop, ↓aop, ↓reduceIte, LV.cells, AOp.dst, LV.I, LV.B, LV.U, LV.S, LV.nil, Nat.reduceEqDiff, Nat.reduceAdd, Nat.reduceMul, Nat.reduceSub, Nat.reduceLeDiff, Nat.reduceBEq, Nat.reduceDiv, Nat.reduceMod, Int.reduceToNat, Int.reduceLT, Int.reduceLE, Int.reduceAdd, Int.reduceSub, Int.reduceMul, Int.reduceEq, Int.reduceNeg, reduceCtorEq, resV, resAll, ARes.ev, LV.flat, ite_true, ite_false, exists_eq_left', exists_eq_left, keyOf, implies_true, fillC, capOf]
          refine memK_box (hlb5.pre hp6) (by simp) fun N7 j1 j2 j3 => ?_
          have hlM := hpb.lt
          have hl6 := hp6.1
          have hla := hpr.lt
          have hlb' := hnr.lt
          simp (disch := omega) only [f1, f3, f4, f5, f6, f7, f8, f9, ↓SXd, SXu, slBounds, ↓sop, ↓aop, ↓reduceIte, LV.cells, AOp.dst, LV.I, LV.B, LV.U, LV.S, LV.nil, Nat.reduceEqDiff, Nat.reduceAdd, Nat.reduceMul, Nat.reduceSub, Nat.reduceLeDiff, Nat.reduceBEq, Nat.reduceDiv, Nat.reduceMod, Int.reduceToNat, Int.reduceLT, Int.reduceLE, Int.reduceAdd, Int.reduceSub, Int.reduceMul, Int.reduceEq, Int.reduceNeg, reduceCtorEq, resV, resAll, ARes.ev, LV.flat, ite_true, ite_false, exists_eq_left', exists_eq_left, keyOf, implies_true, fillC, capOf]
          refine ⟨m3 - 1, by omega, i + 1, N.length + 1, tl3, by omega, pre_step ((pre_step hpre (by omega) l1 l3).trans hp6) (by omega) (j := 0) j1 j3, live_step ((live_step hbox (hbox.ne_esz hli (by decide)) l3).pre hp6) (by omega) j3, j2, live_step hlr6 (by omega) j3,
            live_step ((live_step hpb (by omega) l3).pre hp6) (by omega) j3, live_step ((live_step hpr (by omega) l3).pre hp6) ?_ j3, live_step (l2.pre hp6) (by omega) j3, live_step (hnr5.pre hp6) ?_ j3, live_step ((live_step hout (hout.ne_esz hli (by decide)) l3).pre hp6) ?_ j3,
            (((hcss.keep (.inl (.inl hti)) l3).pre hp6).keep (.inr ⟨_, _, _, hlb5.pre hp6, by decide⟩) j3), by omega, by omega, htp, by omega, by omega, by omega, by omega, f1, f3, f4, f5, ?_, f7, f8, eqI (natI _)⟩
          · exact hpr.ne_esz hlb (by decide)
          · exact hnr.ne_esz hlb (by decide)
          · exact hout.ne_esz hlb (by decide)
          · simp only [List.append_assoc, hfs, cell_eta]; rfl
        · have hfs : (nr.take (i + 1)).filter (fun d => touchC d (list.getD n default)) = (nr.take i).filter (fun d => touchC d (list.getD n default)) := by
            rw [hts, List.filter_append, List.filter_cons_of_neg (p := fun d => touchC d (list.getD n default)) htc, List.filter_nil, List.append_nil]
          simp (disch := omega) only [f1, f3, f4, f5, f6, f7, f8, f9, htc, ↓SXd, SXu, slBounds, ↓sop, ↓aop, ↓reduceIte, LV.cells, AOp.dst, LV.I, LV.B, LV.U, LV.S, LV.nil, Nat.reduceEqDiff, Nat.reduceAdd, Nat.reduceMul, Nat.reduceSub, Nat.reduceLeDiff, Nat.reduceBEq, Nat.reduceDiv, Nat.reduceMod, Int.reduceToNat, Int.reduceLT, Int.reduceLE, Int.reduceAdd, Int.reduceSub, Int.reduceMul, Int.reduceEq, Int.reduceNeg, reduceCtorEq, resV, resAll, ARes.ev, LV.flat, ite_true, ite_false, exists_eq_left', exists_eq_left, keyOf, implies_true, fillC, capOf]
          refine ⟨m3 - 1, by omega, i + 1, ti, tl2, by omega, hpre, hbox, by rw [hfs]; exact hlb, by rw [hfs]; exact hlr, hpb, hpr, by rw [hfs]; exact hli, hnr, hout, hcss, hti, htl, htp, hd1, hd2, hd3, hd4, f1, f3, f4, f5, by rw [hfs]; exact f6, f7, f8, eqI (natI _)⟩
      · simp (disch := omega) only [f1, f3, f4, f5, f6, f7, f8, f9, ↓SXd, SXu, slBounds, ↓sop, ↓aop, ↓reduceIte, LV.cells, AOp.dst, LV.I, LV.B, LV.U, LV.S, LV.nil, Nat.reduceEqDiff, Nat.reduceAdd, Nat.reduceMul, Nat.reduceSub, Nat.reduceLeDiff, Nat.reduceBEq, Nat.reduceDiv, Nat.reduceMod, Int.reduceToNat, Int.reduceLT, Int.reduceLE, Int.reduceAdd, Int.reduceSub, Int.reduceMul, Int.reduceEq, Int.reduceNeg, reduceCtorEq, resV, resAll, ARes.ev, LV.flat, ite_true, ite_false, exists_eq_left', exists_eq_left, keyOf, implies_true, fillC, capOf]
        have : i = nr.length := by omega
        subst this
        rw [List.take_length] at *
        have htk : (list ++ nr.filter fun d => touchC d (list.getD n default)).take (n + 1) = list.take (n + 1) := List.take_append_of_le_length (by omega)
        exact ⟨m2 - 1, by omega, n + 1, list ++ nr.filter fun d => touchC d (list.getD n default), ti, tl2, tp2, by omega, by rw [List.length_append]; omega, hnx, hpre, hbox, hlb, hlr, by rw [htk]; exact hpb, by rw [htk]; exact hpr, hli, hout, hcss, hti, htl, htp, hd1, hd2, hd3, f1, f3, f4, f5, f6, eqI (natI _)⟩
    · have hnn : n = list.length := by omega
      subst hnn
      have hr := fun d => hque.reach (d := d) (Nat.le_refl _)
      rw [List.take_length] at hpb hpr
      have hpe : pick x y z (fun d => decide (d ∈ list)) = pick x y z (reachT x y z (fun d => decide (d = c)) q) := pick_congr hS fun d _ => by
        rw [Bool.eq_iff_iff, decide_eq_true_iff]; exact hr d
      have hqe : pick x y z (fun d => q d && !decide (d ∈ list)) = pick x y z fun d => q d && !reachT x y z (fun d => decide (d = c)) q d := pick_congr hS fun d _ => by
        congr 2
        rw [Bool.eq_iff_iff, decide_eq_true_iff]; exact hr d
      rw [hpe] at hpb hpr
      rw [hqe] at hlb hlr
      simp (disch := omega) only [f1, f3, f4, f5, f6, f7, hpb.cell, splice, ↓SXd, SXu, slBounds, ↓sop, ↓aop, ↓reduceIte, LV.cells, AOp.dst, LV.I, LV.B, LV.U, LV.S, LV.nil, Nat.reduceEqDiff, Nat.reduceAdd, Nat.reduceMul, Nat.reduceSub, Nat.reduceLeDiff, Nat.reduceBEq, Nat.reduceDiv, Nat.reduceMod, Int.reduceToNat, Int.reduceLT, Int.reduceLE, Int.reduceAdd, Int.reduceSub, Int.reduceMul, Int.reduceEq, Int.reduceNeg, reduceCtorEq, resV, resAll, ARes.ev, LV.flat, ite_true, ite_false, exists_eq_left', exists_eq_left, keyOf, implies_true, fillC, capOf]
      refine appendK_1 (acc := refs) (new := [.ref tp 0 (pick x y z (reachT x y z (fun d => decide (d = c)) q)).length]) hout (by omega) rfl (by omega) (by omega) (by omega) fun N5 l1 l2 l3 => ?_
      simp (disch := omega) only [f1, f3, f4, f5, f6, f7, ↓SXd, SXu, slBounds, ↓sop, ↓aop, ↓reduceIte, LV.cells, AOp.dst, LV.I, LV.B, LV.U, LV.S, LV.nil, Nat.reduceEqDiff, Nat.reduceAdd, Nat.reduceMul, Nat.reduceSub, Nat.reduceLeDiff, Nat.reduceBEq, Nat.reduceDiv, Nat.reduceMod, Int.reduceToNat, Int.reduceLT, Int.reduceLE, Int.reduceAdd, Int.reduceSub, Int.reduceMul, Int.reduceEq, Int.reduceNeg, reduceCtorEq, resV, resAll, ARes.ev, LV.flat, ite_true, ite_false, exists_eq_left', exists_eq_left, keyOf, implies_true, fillC, capOf]
      obtain ⟨m', rfl⟩ : ∃ m', m = m' + 1 := ⟨m - 1, by omega⟩
      have hlM := hpr.lt
      have hpl := hpre.1
      have hpp : clus x y z (m' + 1) q = pick x y z (reachT x y z (fun d => decide (d = c)) q) :: clus x y z m' fun d => q d && !reachT x y z (fun d => decide (d = c)) q d := by simp only [clus, hpk]
      rw [hpp] at hparts
      refine ⟨m', by omega, fun d => q d && !reachT x y z (fun d => decide (d = c)) q d, refs ++ [.ref tp 0 (pick x y z (reachT x y z (fun d => decide (d = c)) q)).length], L ++ [pick x y z (reachT x y z (fun d => decide (d = c)) q)], N.length + 1, tl, ?_, ?_,
        pre_step hpre (by omega) l1 l3, live_step hbox (hbox.ne_esz hout (by decide)) l3, live_step hlb (hlb.ne_esz hout (by decide)) l3, live_step hlr (hlr.ne_esz hout (by decide)) l3, by omega, l2, ?_, by simp [hrl], by simp; omega, f1, ?_, f4⟩
      · rw [hparts, List.append_assoc]; rfl
      · have := filter_lt hS (l := cellsOf x y z) (p := fun d => q d && !reachT x y z (fun d => decide (d = c)) q d) (q := q) (fun a _ ha => by simp only [Bool.and_eq_true] at ha; exact ha.1)
          ⟨c, (mem_cellsOf hS).2 hcq.1, hcq.2, by rw [(reachT_iff (c := c)).2 (.base hcq.1 (by simp))]; simp⟩
        unfold pick at hfuel ⊢
        omega
      · exact (hcss.keep (.inr ⟨_, _, _, hout, by decide⟩) l3).snoc htp (by omega) (live_step hpr (hpr.ne_esz hout (by decide)) l3) (by omega)
      · rw [List.length_append, List.length_singleton]; rfl
end Go.Ab

namespace Go.Ab.C
open Go.Ab
def spec_CavitiesOf : AFn :=
 ⟨1, 10, [.tmp 2, .tmp 3],
 .seq (.ops [(none, .box 1 (.t 0)),
 (none, .mv 2 (.c .nil)),
 (none, .mv 3 (.c (.B false)))])
 (.seq (.seq (.ops [(none, .loadN 4 4 (.t 1)),
 (none, .call (some 5) F.spec_l2Heap [(.t 4)]),
 (none, .un 6 .not (.t 5))])
 (.cond (.t 6) (.seq (.ops [(none, .buildSl 7 0 1 [] []),
 (none, .mv 2 (.t 7)),
 (none, .mv 3 (.c (.B false)))])
 (.ret))
 (.skip)))
 (.seq (.ops [(none, .loadN 8 4 (.t 1)),
 (none, .call (some 9) F.spec_l6Cavities [(.t 8)]),
 (none, .mv 2 (.t 9)),
 (none, .mv 3 (.c (.B true)))])
 (.ret)))⟩
def spec_l6Cavities : AFn :=
 ⟨1, 8, [.tmp 2],
 .seq (.ops [(none, .box 1 (.t 0)),
 (none, .mv 2 (.c .nil))])
 (.seq (.draw [⟨(none, .loadN 3 4 (.t 1)), [], []⟩,
 ⟨(none, .loadN 4 4 (.t 1)), [], []⟩,
 ⟨(none, .call (some 5) F.spec_l6Enclosed [(.t 4)]), [], [0]⟩,
 ⟨(none, .call (some 6) F.spec_l2Made [(.t 3), (.t 5)]), [], []⟩,
 ⟨(none, .call (some 7) F.spec_l2Parts [(.t 6)]), [], []⟩,
 ⟨(none, .mv 2 (.t 7)), [], []⟩])
 (.ret))⟩
end Go.Ab.C

namespace Go.Ab.K
open Go Go.Ab
theorem spec_CavitiesOf : prepF Go.Proofs.Try.prog F.spec_CavitiesOf = some C.spec_CavitiesOf := by kernel_rfl
theorem spec_l6Cavities : prepF Go.Proofs.Try.prog F.spec_l6Cavities = some C.spec_l6Cavities := by kernel_rfl
end Go.Ab.K

namespace Go.Ab
open Go

theorem h_l6Cavities {x y z : Int} {t : Nat} {w : Bool} {cs : List Cell} {M : Mem} (h : Live M t (.row (triL cs) w 3)) (hH : HeapOK x y z cs) :
    CallsR PG F.spec_l6Cavities [.agg [.I x, .I y, .I z, .ref t 0 cs.length]] M fun v N => (∃ a b c, v = .ref a b c) ∧ SlCC M N v (parts x y z 65 (closed x y z fun c => decide (c ∈ cs))) ∧ Pre M N := by
  have hS := hH.1
  refine callsR_run K.spec_l6Cavities rfl ?_
  simp (disch := omega) only [C.spec_l6Cavities, ↓SXd, SXu, slBounds, ↓sop, ↓aop, ↓reduceIte, LV.cells, AOp.dst, LV.I, LV.B, LV.U, LV.S, LV.nil, Nat.reduceEqDiff, Nat.reduceAdd, Nat.reduceMul, Nat.reduceSub, Nat.reduceLeDiff, Nat.reduceBEq, Nat.reduceDiv, Nat.reduceMod, Int.reduceToNat, Int.reduceLT, Int.reduceLE, Int.reduceAdd, Int.reduceSub, Int.reduceMul, Int.reduceEq, Int.reduceNeg, reduceCtorEq, resV, resAll, ARes.ev, LV.flat, ite_true, ite_false, exists_eq_left', exists_eq_left, keyOf, implies_true, fillC, capOf]
  refine callN_of (h_l6Enclosed h.app hH) ?_
  intro tn N2 htn hp2 hnr
  have e0 : N2[M.length]? = some (some (.row [.I x, .I y, .I z, .ref t 0 cs.length] true 0)) := Live.new.pre hp2
  simp (disch := omega) only [e0, ↓SXd, SXu, slBounds, ↓sop, ↓aop, ↓reduceIte, LV.cells, AOp.dst, LV.I, LV.B, LV.U, LV.S, LV.nil, Nat.reduceEqDiff, Nat.reduceAdd, Nat.reduceMul, Nat.reduceSub, Nat.reduceLeDiff, Nat.reduceBEq, Nat.reduceDiv, Nat.reduceMod, Int.reduceToNat, Int.reduceLT, Int.reduceLE, Int.reduceAdd, Int.reduceSub, Int.reduceMul, Int.reduceEq, Int.reduceNeg, reduceCtorEq, resV, resAll, ARes.ev, LV.flat, ite_true, ite_false, exists_eq_left', exists_eq_left, keyOf, implies_true, fillC, capOf]
  refine callK_of (h_l2Made hnr.lt) ?_
  simp (disch := omega) only [↓SXd, SXu, slBounds, ↓sop, ↓aop, ↓reduceIte, LV.cells, AOp.dst, LV.I, LV.B, LV.U, LV.S, LV.nil, Nat.reduceEqDiff, Nat.reduceAdd, Nat.reduceMul, Nat.reduceSub, Nat.reduceLeDiff, Nat.reduceBEq, Nat.reduceDiv, Nat.reduceMod, Int.reduceToNat, Int.reduceLT, Int.reduceLE, Int.reduceAdd, Int.reduceSub, Int.reduceMul, Int.reduceEq, Int.reduceNeg, reduceCtorEq, resV, resAll, ARes.ev, LV.flat, ite_true, ite_false, exists_eq_left', exists_eq_left, keyOf, implies_true, fillC, capOf]
  refine callR_of (h_l2Parts hnr (pick_ok hS _)) ?_
  rintro _ N3 ⟨u, refs, rfl, hu, hL, hcss, hp3⟩
  simp (disch := omega) only [↓SXd, SXu, slBounds, ↓sop, ↓aop, ↓reduceIte, LV.cells, AOp.dst, LV.I, LV.B, LV.U, LV.S, LV.nil, Nat.reduceEqDiff, Nat.reduceAdd, Nat.reduceMul, Nat.reduceSub, Nat.reduceLeDiff, Nat.reduceBEq, Nat.reduceDiv, Nat.reduceMod, Int.reduceToNat, Int.reduceLT, Int.reduceLE, Int.reduceAdd, Int.reduceSub, Int.reduceMul, Int.reduceEq, Int.reduceNeg, reduceCtorEq, resV, resAll, ARes.ev, LV.flat, ite_true, ite_false, exists_eq_left', exists_eq_left, keyOf, implies_true, fillC, capOf]
  have hlt := hnr.lt
  rw [parts_congr' hS (q := closed x y z fun c => decide (c ∈ cs)) fun d hd => by
    rw [Bool.eq_iff_iff, decide_eq_true_iff, mem_pick hS]; exact ⟨fun h => h.2, fun h => ⟨hd, h⟩⟩] at hcss
  have hN := hp2.1
  simp only [List.length_append, List.length_singleton] at hN
  exact ⟨⟨_, _, _, rfl⟩, SlCC.of (by omega) (by omega) hL hcss, ((Pre.app _ _).trans hp2).trans hp3⟩

theorem h_sCavitiesOf {x y z : Int} {t : Nat} {w : Bool} {cs : List Cell} {M : Mem} (h : Live M t (.row (triL cs) w 3)) (hn : cs.length ≤ 1000000000) :
    CallsR PG F.spec_CavitiesOf [.agg [.I x, .I y, .I z, .ref t 0 cs.length]] M (CssRes M (cavOf x y z cs)) := by
  refine callsR_run K.spec_CavitiesOf rfl ?_
  simp (disch := omega) only [C.spec_CavitiesOf, ↓SXd, SXu, slBounds, ↓sop, ↓aop, ↓reduceIte, LV.cells, AOp.dst, LV.I, LV.B, LV.U, LV.S, LV.nil, Nat.reduceEqDiff, Nat.reduceAdd, Nat.reduceMul, Nat.reduceSub, Nat.reduceLeDiff, Nat.reduceBEq, Nat.reduceDiv, Nat.reduceMod, Int.reduceToNat, Int.reduceLT, Int.reduceLE, Int.reduceAdd, Int.reduceSub, Int.reduceMul, Int.reduceEq, Int.reduceNeg, reduceCtorEq, resV, resAll, ARes.ev, LV.flat, ite_true, ite_false, exists_eq_left', exists_eq_left, keyOf, implies_true, fillC, capOf]
  refine callK_of (h_l2Heap (Has.app h.has) hn) ?_
  simp (disch := omega) only [↓SXd, SXu, slBounds, ↓sop, ↓aop, ↓reduceIte, LV.cells, AOp.dst, LV.I, LV.B, LV.U, LV.S, LV.nil, Nat.reduceEqDiff, Nat.reduceAdd, Nat.reduceMul, Nat.reduceSub, Nat.reduceLeDiff, Nat.reduceBEq, Nat.reduceDiv, Nat.reduceMod, Int.reduceToNat, Int.reduceLT, Int.reduceLE, Int.reduceAdd, Int.reduceSub, Int.reduceMul, Int.reduceEq, Int.reduceNeg, reduceCtorEq, resV, resAll, ARes.ev, LV.flat, ite_true, ite_false, exists_eq_left', exists_eq_left, keyOf, implies_true, fillC, capOf]
  unfold cavOf
  by_cases hH : HeapOK x y z cs
  · rw [if_pos hH]
    simp (disch := omega) only [hH, ↓SXd, SXu, slBounds, ↓sop, ↓aop, ↓reduceIte, LV.cells, AOp.dst, LV.I, LV.B, LV.U, LV.S, LV.nil, Nat.reduceEqDiff, Nat.reduceAdd, Nat.reduceMul, Nat.reduceSub, Nat.reduceLeDiff, Nat.reduceBEq, Nat.reduceDiv, Nat.reduceMod, Int.reduceToNat, Int.reduceLT, Int.reduceLE, Int.reduceAdd, Int.reduceSub, Int.reduceMul, Int.reduceEq, Int.reduceNeg, reduceCtorEq, resV, resAll, ARes.ev, LV.flat, ite_true, ite_false, exists_eq_left', exists_eq_left, keyOf, implies_true, fillC, capOf]
    refine callR_of (h_l6Cavities h.app hH) ?_
    rintro _ N ⟨⟨a, b, c, rfl⟩, h1, h2⟩
    simp (disch := omega) only [↓SXd, SXu, slBounds, ↓sop, ↓aop, ↓reduceIte, LV.cells, AOp.dst, LV.I, LV.B, LV.U, LV.S, LV.nil, Nat.reduceEqDiff, Nat.reduceAdd, Nat.reduceMul, Nat.reduceSub, Nat.reduceLeDiff, Nat.reduceBEq, Nat.reduceDiv, Nat.reduceMod, Int.reduceToNat, Int.reduceLT, Int.reduceLE, Int.reduceAdd, Int.reduceSub, Int.reduceMul, Int.reduceEq, Int.reduceNeg, reduceCtorEq, resV, resAll, ARes.ev, LV.flat, ite_true, ite_false, exists_eq_left', exists_eq_left, keyOf, implies_true, fillC, capOf]
    exact ⟨_, rfl, h1.mono (Pre.app _ _), (Pre.app _ _).trans h2⟩
  · rw [if_neg hH]
    simp (disch := omega) only [hH, ↓SXd, SXu, slBounds, ↓sop, ↓aop, ↓reduceIte, LV.cells, AOp.dst, LV.I, LV.B, LV.U, LV.S, LV.nil, Nat.reduceEqDiff, Nat.reduceAdd, Nat.reduceMul, Nat.reduceSub, Nat.reduceLeDiff, Nat.reduceBEq, Nat.reduceDiv, Nat.reduceMod, Int.reduceToNat, Int.reduceLT, Int.reduceLE, Int.reduceAdd, Int.reduceSub, Int.reduceMul, Int.reduceEq, Int.reduceNeg, reduceCtorEq, resV, resAll, ARes.ev, LV.flat, ite_true, ite_false, exists_eq_left', exists_eq_left, keyOf, implies_true, fillC, capOf]
    exact ⟨_, rfl, SlCC.of (u := M.length + 1) (lo := M.length) (hi := M.length) (refs := []) (by omega) (Nat.le_refl _) (Live.newj (j := 1) rfl) trivial, Pre.app _ _⟩
end Go.Ab

namespace Go.Ab.C
open Go.Ab
end Go.Ab.C

namespace Go.Ab.K
open Go Go.Ab
end Go.Ab.K

namespace Go.Ab
open Go
set_option maxRecDepth 20000

theorem keepL_pr {M N : Mem} (h : Pre M N) (ks : List Nat) : KeepL ks M N = True := by
  simp only [eq_iff_iff, iff_true]
  intro k _ b hb
  rw [h.2 k (by
    rcases Nat.lt_or_ge k M.length with h1 | h1
    · exact h1
    · rw [List.getElem?_eq_none h1] at hb; cases hb)]
  exact hb
def onesTo (k : Nat) (v : List Int) : List Int := onesL (v.take k) ++ v.drop k
end Go.Ab

namespace Go.Ab
open Go
set_option maxRecDepth 20000

noncomputable def tunB (x y z : Int) (cs : List Cell) : Bool := @decide (HeapOK x y z cs) (Classical.propDecidable _)
noncomputable def tunN (x y z : Int) (cs : List Cell) : Int := if tunB x y z cs = true then ((clus x y z 65 fun c => decide (c ∈ cs)).length : Int) + (parts x y z 65 (closed x y z fun c => decide (c ∈ cs))).length - eulerOf x y z cs else 0
theorem euler_bound {x y z : Int} {cs : List Cell} (hS : Sides x y z) : -2000 ≤ eulerOf x y z cs ∧ eulerOf x y z cs ≤ 2000 := by
  have hc := counts_four (cs := cs) hS
  have q0 := hc.2 0 (by omega)
  have q1 := hc.2 1 (by omega)
  have q2 := hc.2 2 (by omega)
  have q3 := hc.2 3 (by omega)
  unfold eulerOf
  omega

theorem g_TunnelsOf {x y z : Int} {t o : Nat} {cs : List Cell} {M : Mem} (h : Tri M t o cs) (hn : cs.length ≤ 1000000000) :
    CallsTo PG F.impl_TunnelsOf [.agg [.I x, .I y, .I z, .ref t o cs.length]] M (.tup [.I (tunN x y z cs), .B (tunB x y z cs)]) M := by
  refine calls_run K.impl_TunnelsOf rfl ?_
  simp (disch := omega) only [C.impl_TunnelsOf, ↓SXd, SXu, slBounds, ↓sop, ↓aop, ↓reduceIte, LV.cells, AOp.dst, LV.I, LV.B, LV.U, LV.S, LV.nil, Nat.reduceEqDiff, Nat.reduceAdd, Nat.reduceMul, Nat.reduceSub, Nat.reduceLeDiff, Nat.reduceBEq, Nat.reduceDiv, Nat.reduceMod, Int.reduceToNat, Int.reduceLT, Int.reduceLE, Int.reduceAdd, Int.reduceSub, Int.reduceMul, Int.reduceEq, Int.reduceNeg, reduceCtorEq, resV, resAll, ARes.ev, LV.flat, ite_true, ite_false, exists_eq_left', exists_eq_left, keyOf, implies_true, fillC, capOf]
  refine callK_of (g_IsHeap h.app hn) ?_
  simp (disch := omega) only [↓SXd, SXu, slBounds, ↓sop, ↓aop, ↓reduceIte, LV.cells, AOp.dst, LV.I, LV.B, LV.U, LV.S, LV.nil, Nat.reduceEqDiff, Nat.reduceAdd, Nat.reduceMul, Nat.reduceSub, Nat.reduceLeDiff, Nat.reduceBEq, Nat.reduceDiv, Nat.reduceMod, Int.reduceToNat, Int.reduceLT, Int.reduceLE, Int.reduceAdd, Int.reduceSub, Int.reduceMul, Int.reduceEq, Int.reduceNeg, reduceCtorEq, resV, resAll, ARes.ev, LV.flat, ite_true, ite_false, exists_eq_left', exists_eq_left, keyOf, implies_true, fillC, capOf]
  by_cases hH : HeapOK x y z cs
  · have hb : tunB x y z cs = true := decide_eq_true hH
    have hN : tunN x y z cs = ((clus x y z 65 fun c => decide (c ∈ cs)).length : Int) + (parts x y z 65 (closed x y z fun c => decide (c ∈ cs))).length - eulerOf x y z cs := if_pos hb
    rw [hb, hN]
    have hS := hH.1
    have e1 := euler_bound (cs := cs) hS
    have l1 := clus_len (x := x) (y := y) (z := z) 65 fun c => decide (c ∈ cs)
    have l2 := parts_len (x := x) (y := y) (z := z) 65 (closed x y z fun c => decide (c ∈ cs))
    simp (disch := omega) only [hH, ↓SXd, SXu, slBounds, ↓sop, ↓aop, ↓reduceIte, LV.cells, AOp.dst, LV.I, LV.B, LV.U, LV.S, LV.nil, Nat.reduceEqDiff, Nat.reduceAdd, Nat.reduceMul, Nat.reduceSub, Nat.reduceLeDiff, Nat.reduceBEq, Nat.reduceDiv, Nat.reduceMod, Int.reduceToNat, Int.reduceLT, Int.reduceLE, Int.reduceAdd, Int.reduceSub, Int.reduceMul, Int.reduceEq, Int.reduceNeg, reduceCtorEq, resV, resAll, ARes.ev, LV.flat, ite_true, ite_false, exists_eq_left', exists_eq_left, keyOf, implies_true, fillC, capOf]
    refine callK_of (g_clusters hS h.app hn (fun c hc => hH.mem hc)) ?_
    simp (disch := omega) only [↓SXd, SXu, slBounds, ↓sop, ↓aop, ↓reduceIte, LV.cells, AOp.dst, LV.I, LV.B, LV.U, LV.S, LV.nil, Nat.reduceEqDiff, Nat.reduceAdd, Nat.reduceMul, Nat.reduceSub, Nat.reduceLeDiff, Nat.reduceBEq, Nat.reduceDiv, Nat.reduceMod, Int.reduceToNat, Int.reduceLT, Int.reduceLE, Int.reduceAdd, Int.reduceSub, Int.reduceMul, Int.reduceEq, Int.reduceNeg, reduceCtorEq, resV, resAll, ARes.ev, LV.flat, ite_true, ite_false, exists_eq_left', exists_eq_left, keyOf, implies_true, fillC, capOf]
    refine callK_of (g_cavities h.app hn hH) ?_
    simp (disch := omega) only [↓SXd, SXu, slBounds, ↓sop, ↓aop, ↓reduceIte, LV.cells, AOp.dst, LV.I, LV.B, LV.U, LV.S, LV.nil, Nat.reduceEqDiff, Nat.reduceAdd, Nat.reduceMul, Nat.reduceSub, Nat.reduceLeDiff, Nat.reduceBEq, Nat.reduceDiv, Nat.reduceMod, Int.reduceToNat, Int.reduceLT, Int.reduceLE, Int.reduceAdd, Int.reduceSub, Int.reduceMul, Int.reduceEq, Int.reduceNeg, reduceCtorEq, resV, resAll, ARes.ev, LV.flat, ite_true, ite_false, exists_eq_left', exists_eq_left, keyOf, implies_true, fillC, capOf]
    refine callK_of (g_euler h.app hH) ?_
    simp (disch := omega) only [↓SXd, SXu, slBounds, ↓sop, ↓aop, ↓reduceIte, LV.cells, AOp.dst, LV.I, LV.B, LV.U, LV.S, LV.nil, Nat.reduceEqDiff, Nat.reduceAdd, Nat.reduceMul, Nat.reduceSub, Nat.reduceLeDiff, Nat.reduceBEq, Nat.reduceDiv, Nat.reduceMod, Int.reduceToNat, Int.reduceLT, Int.reduceLE, Int.reduceAdd, Int.reduceSub, Int.reduceMul, Int.reduceEq, Int.reduceNeg, reduceCtorEq, resV, resAll, ARes.ev, LV.flat, ite_true, ite_false, exists_eq_left', exists_eq_left, keyOf, implies_true, fillC, capOf]
    exact cmp_pre (Pre.app _ _) rfl
  · have hb : tunB x y z cs = false := decide_eq_false hH
    have hN : tunN x y z cs = 0 := if_neg (by rw [hb]; simp)
    rw [hb, hN]
    simp (disch := omega) only [hH, ↓SXd, SXu, slBounds, ↓sop, ↓aop, ↓reduceIte, LV.cells, AOp.dst, LV.I, LV.B, LV.U, LV.S, LV.nil, Nat.reduceEqDiff, Nat.reduceAdd, Nat.reduceMul, Nat.reduceSub, Nat.reduceLeDiff, Nat.reduceBEq, Nat.reduceDiv, Nat.reduceMod, Int.reduceToNat, Int.reduceLT, Int.reduceLE, Int.reduceAdd, Int.reduceSub, Int.reduceMul, Int.reduceEq, Int.reduceNeg, reduceCtorEq, resV, resAll, ARes.ev, LV.flat, ite_true, ite_false, exists_eq_left', exists_eq_left, keyOf, implies_true, fillC, capOf]
    exact cmp_drop rfl

theorem g_TunnelsOfL {x y z : Int} {t : Nat} {w : Bool} {cs : List Cell} {M : Mem} (h : Live M t (.row (triL cs) w 3)) (hn : cs.length ≤ 1000000000) :
    CallsTo PG F.impl_TunnelsOf [.agg [.I x, .I y, .I z, .ref t 0 cs.length]] M (.tup [.I (tunN x y z cs), .B (tunB x y z cs)]) M := g_TunnelsOf h.has hn

theorem h_sTunnelsOf {x y z : Int} {t : Nat} {w : Bool} {cs : List Cell} {M : Mem} (h : Live M t (.row (triL cs) w 3)) (hn : cs.length ≤ 1000000000) :
    CallsTo PG F.spec_TunnelsOf [.agg [.I x, .I y, .I z, .ref t 0 cs.length]] M (.tup [.I (tunN x y z cs), .B (tunB x y z cs)]) M := by
  refine calls_run K.spec_TunnelsOf rfl ?_
  simp (disch := omega) only [C.spec_TunnelsOf, ↓SXd, SXu, slBounds, ↓sop, ↓aop, ↓reduceIte, LV.cells, AOp.dst, LV.I, LV.B, LV.U, LV.S, LV.nil, Nat.reduceEqDiff, Nat.reduceAdd, Nat.reduceMul, Nat.reduceSub, Nat.reduceLeDiff, Nat.reduceBEq, Nat.reduceDiv, Nat.reduceMod, Int.reduceToNat, Int.reduceLT, Int.reduceLE, Int.reduceAdd, Int.reduceSub, Int.reduceMul, Int.reduceEq, Int.reduceNeg, reduceCtorEq, resV, resAll, ARes.ev, LV.flat, ite_true, ite_false, exists_eq_left', exists_eq_left, keyOf, implies_true, fillC, capOf]
  refine callK_of (h_l2Heap (Has.app h.has) hn) ?_
  simp (disch := omega) only [↓SXd, SXu, slBounds, ↓sop, ↓aop, ↓reduceIte, LV.cells, AOp.dst, LV.I, LV.B, LV.U, LV.S, LV.nil, Nat.reduceEqDiff, Nat.reduceAdd, Nat.reduceMul, Nat.reduceSub, Nat.reduceLeDiff, Nat.reduceBEq, Nat.reduceDiv, Nat.reduceMod, Int.reduceToNat, Int.reduceLT, Int.reduceLE, Int.reduceAdd, Int.reduceSub, Int.reduceMul, Int.reduceEq, Int.reduceNeg, reduceCtorEq, resV, resAll, ARes.ev, LV.flat, ite_true, ite_false, exists_eq_left', exists_eq_left, keyOf, implies_true, fillC, capOf]
  by_cases hH : HeapOK x y z cs
  · have hb : tunB x y z cs = true := decide_eq_true hH
    have hN : tunN x y z cs = ((clus x y z 65 fun c => decide (c ∈ cs)).length : Int) + (parts x y z 65 (closed x y z fun c => decide (c ∈ cs))).length - eulerOf x y z cs := if_pos hb
    rw [hb, hN]
    have hS := hH.1
    have e1 := euler_bound (cs := cs) hS
    have l1 := clus_len (x := x) (y := y) (z := z) 65 fun c => decide (c ∈ cs)
    have l2 := parts_len (x := x) (y := y) (z := z) 65 (closed x y z fun c => decide (c ∈ cs))
    simp (disch := omega) only [hH, ↓SXd, SXu, slBounds, ↓sop, ↓aop, ↓reduceIte, LV.cells, AOp.dst, LV.I, LV.B, LV.U, LV.S, LV.nil, Nat.reduceEqDiff, Nat.reduceAdd, Nat.reduceMul, Nat.reduceSub, Nat.reduceLeDiff, Nat.reduceBEq, Nat.reduceDiv, Nat.reduceMod, Int.reduceToNat, Int.reduceLT, Int.reduceLE, Int.reduceAdd, Int.reduceSub, Int.reduceMul, Int.reduceEq, Int.reduceNeg, reduceCtorEq, resV, resAll, ARes.ev, LV.flat, ite_true, ite_false, exists_eq_left', exists_eq_left, keyOf, implies_true, fillC, capOf]
    refine callR_of (h_l6Clusters h.app hH) ?_
    rintro _ N ⟨u, refs, rfl, hu, hL, hcss, hp⟩
    have hlr := hcss.len
    have hpx := (Pre.app M [some (.row [.I x, .I y, .I z, .ref t 0 cs.length] true 0)]).trans hp
    simp (disch := omega) only [(keepL_pr hp), ↓SXd, SXu, slBounds, ↓sop, ↓aop, ↓reduceIte, LV.cells, AOp.dst, LV.I, LV.B, LV.U, LV.S, LV.nil, Nat.reduceEqDiff, Nat.reduceAdd, Nat.reduceMul, Nat.reduceSub, Nat.reduceLeDiff, Nat.reduceBEq, Nat.reduceDiv, Nat.reduceMod, Int.reduceToNat, Int.reduceLT, Int.reduceLE, Int.reduceAdd, Int.reduceSub, Int.reduceMul, Int.reduceEq, Int.reduceNeg, reduceCtorEq, resV, resAll, ARes.ev, LV.flat, ite_true, ite_false, exists_eq_left', exists_eq_left, keyOf, implies_true, fillC, capOf]
    refine callR_of (h_l6Cavities (h.pre hpx) hH) ?_
    rintro v N2 ⟨⟨va, vb, vc, rfl⟩, hsl, hp2⟩
    have hvc : (vc : Int) = ((parts x y z 65 (closed x y z fun c => decide (c ∈ cs))).length : Nat) := by
      have := hsl.v.lenV
      simp only [lenV, Option.some.injEq] at this
      exact this
    simp (disch := omega) only [(keepL_pr hp2), ↓SXd, SXu, slBounds, ↓sop, ↓aop, ↓reduceIte, LV.cells, AOp.dst, LV.I, LV.B, LV.U, LV.S, LV.nil, Nat.reduceEqDiff, Nat.reduceAdd, Nat.reduceMul, Nat.reduceSub, Nat.reduceLeDiff, Nat.reduceBEq, Nat.reduceDiv, Nat.reduceMod, Int.reduceToNat, Int.reduceLT, Int.reduceLE, Int.reduceAdd, Int.reduceSub, Int.reduceMul, Int.reduceEq, Int.reduceNeg, reduceCtorEq, resV, resAll, ARes.ev, LV.flat, ite_true, ite_false, exists_eq_left', exists_eq_left, keyOf, implies_true, fillC, capOf]
    refine callK_of (h_l6Euler ((h.pre hpx).pre hp2).has hH) ?_
    simp (disch := omega) only [↓SXd, SXu, slBounds, ↓sop, ↓aop, ↓reduceIte, LV.cells, AOp.dst, LV.I, LV.B, LV.U, LV.S, LV.nil, Nat.reduceEqDiff, Nat.reduceAdd, Nat.reduceMul, Nat.reduceSub, Nat.reduceLeDiff, Nat.reduceBEq, Nat.reduceDiv, Nat.reduceMod, Int.reduceToNat, Int.reduceLT, Int.reduceLE, Int.reduceAdd, Int.reduceSub, Int.reduceMul, Int.reduceEq, Int.reduceNeg, reduceCtorEq, resV, resAll, ARes.ev, LV.flat, ite_true, ite_false, exists_eq_left', exists_eq_left, keyOf, implies_true, fillC, capOf]
    rw [hlr, hvc]
    exact cmp_pre (hpx.trans hp2) rfl
  · have hb : tunB x y z cs = false := decide_eq_false hH
    have hN : tunN x y z cs = 0 := if_neg (by rw [hb]; simp)
    rw [hb, hN]
    simp (disch := omega) only [hH, ↓SXd, SXu, slBounds, ↓sop, ↓aop, ↓reduceIte, LV.cells, AOp.dst, LV.I, LV.B, LV.U, LV.S, LV.nil, Nat.reduceEqDiff, Nat.reduceAdd, Nat.reduceMul, Nat.reduceSub, Nat.reduceLeDiff, Nat.reduceBEq, Nat.reduceDiv, Nat.reduceMod, Int.reduceToNat, Int.reduceLT, Int.reduceLE, Int.reduceAdd, Int.reduceSub, Int.reduceMul, Int.reduceEq, Int.reduceNeg, reduceCtorEq, resV, resAll, ARes.ev, LV.flat, ite_true, ite_false, exists_eq_left', exists_eq_left, keyOf, implies_true, fillC, capOf]
    exact cmp_drop rfl
end Go.Ab

namespace Go.Ab
open Go
set_option maxRecDepth 20000

section
variable {x y z : Int} (hS : Sides x y z)
include hS
theorem parts_tot : ∀ (f : Nat) {q : Cell → Bool}, (pick x y z q).length ≤ f → tot (parts x y z f q) = (pick x y z q).length
  | 0, q, hf => by simp only [parts, tot]; omega
  | f + 1, q, hf => by
    cases hpk : pick x y z q with
    | nil => simp [parts, hpk, tot]
    | cons c rs =>
      obtain ⟨hci, hqc⟩ := (mem_pick hS).1 (show c ∈ pick x y z q by rw [hpk]; simp)
      have hcc : reach x y z (fun d => decide (d = c)) q c = true := reach_iff.2 (.base hci (by simp))
      have hlt := pick_fewer hS (p := fun d => q d && !reach x y z (fun d => decide (d = c)) q d) (q := q) hci (fun d hd => by simp only [Bool.and_eq_true] at hd; exact hd.1) hqc (by simp [hcc])
      have ih := parts_tot f (q := fun d => q d && !reach x y z (fun d => decide (d = c)) q d) (by omega)
      have hp := pick_part (x := x) (y := y) (z := z) q (reach x y z (fun d => decide (d = c)) q)
      have he : pick x y z (fun d => q d && reach x y z (fun d => decide (d = c)) q d) = pick x y z (reach x y z (fun d => decide (d = c)) q) := pick_congr hS fun d hd => by
        cases hr : reach x y z (fun d => decide (d = c)) q d with
        | false => simp
        | true =>
          have : q d = true := (reach_iff.1 hr).ind (P := fun d => q d = true) (fun e _ he => by rw [of_decide_eq_true he]; exact hqc) fun e g _ _ _ h4 => h4
          rw [this]; rfl
      rw [he] at hp
      simp only [parts, hpk, tot, ih]
      rw [← hpk]; omega
theorem clus_tot : ∀ (f : Nat) {q : Cell → Bool}, (pick x y z q).length ≤ f → tot (clus x y z f q) = (pick x y z q).length
  | 0, q, hf => by simp only [clus, tot]; omega
  | f + 1, q, hf => by
    cases hpk : pick x y z q with
    | nil => simp [clus, hpk, tot]
    | cons c rs =>
      obtain ⟨hci, hqc⟩ := (mem_pick hS).1 (show c ∈ pick x y z q by rw [hpk]; simp)
      have hcc : reachT x y z (fun d => decide (d = c)) q c = true := reachT_iff.2 (.base hci (by simp))
      have hlt := pick_fewer hS (p := fun d => q d && !reachT x y z (fun d => decide (d = c)) q d) (q := q) hci (fun d hd => by simp only [Bool.and_eq_true] at hd; exact hd.1) hqc (by simp [hcc])
      have ih := clus_tot f (q := fun d => q d && !reachT x y z (fun d => decide (d = c)) q d) (by omega)
      have hp := pick_part (x := x) (y := y) (z := z) q (reachT x y z (fun d => decide (d = c)) q)
      have he : pick x y z (fun d => q d && reachT x y z (fun d => decide (d = c)) q d) = pick x y z (reachT x y z (fun d => decide (d = c)) q) := pick_congr hS fun d hd => by
        cases hr : reachT x y z (fun d => decide (d = c)) q d with
        | false => simp
        | true =>
          have : q d = true := (reachT_iff.1 hr).ind (P := fun d => q d = true) (fun e _ he => by rw [of_decide_eq_true he]; exact hqc) fun e g _ _ _ h4 => h4
          rw [this]; rfl
      rw [he] at hp
      simp only [clus, hpk, tot, ih]
      rw [← hpk]; omega
theorem clus_pick : ∀ {f : Nat} {q : Cell → Bool}, ∀ l ∈ clus x y z f q, l = pick x y z fun d => decide (d ∈ l)
  | 0, _, l, h => by simp [clus] at h
  | f + 1, q, l, h => by
    simp only [clus] at h
    split at h
    · simp at h
    · rcases List.mem_cons.1 h with rfl | h
      · exact (pick_ok hS _).pick
      · exact clus_pick l h
theorem touch_apart {d e : Cell} (h : apart d e = 1) : touchC d e = true := by
  unfold apart at h
  unfold touchC
  rw [decide_eq_true_eq]
  omega
theorem clus_le : ∀ (f : Nat) {q : Cell → Bool} {lp : List Cell}, (pick x y z q).length ≤ f → (∀ d : Cell, d.inBox x y z → q d = true → ∃ l ∈ lp, l.inBox x y z ∧ q l = true ∧ Reach x y z (fun e => decide (e = l)) q d) → (clus x y z f q).length ≤ lp.length
  | 0, q, lp, _, _ => by simp [clus]
  | f + 1, q, lp, hf, hl => by
    cases hpk : pick x y z q with
    | nil => simp [clus, hpk]
    | cons c rs =>
      obtain ⟨hci, hqc⟩ := (mem_pick hS).1 (show c ∈ pick x y z q by rw [hpk]; simp)
      have hcc : reachT x y z (fun d => decide (d = c)) q c = true := reachT_iff.2 (.base hci (by simp))
      have hlt := pick_fewer hS (p := fun d => q d && !reachT x y z (fun d => decide (d = c)) q d) (q := q) hci (fun d hd => by simp only [Bool.and_eq_true] at hd; exact hd.1) hqc (by simp [hcc])
      generalize hR : reachT x y z (fun d => decide (d = c)) q = R at hcc hlt
      have hstep : ∀ d e, R d = true → touchC d e = true → e.inBox x y z → q e = true → R e = true := fun d e h1 h2 h3 h4 => by
        rw [← hR] at h1 ⊢
        exact reachT_iff.2 (.step (reachT_iff.1 h1) h2 h3 h4)
      have ih := clus_le f (q := fun d => q d && !R d) (lp := lp.filter fun l => !R l) (by omega) fun d hd hq => by
        simp only [Bool.and_eq_true, Bool.not_eq_true'] at hq
        obtain ⟨l, l1, l2, l3, l4⟩ := hl d hd hq.1
        have hRl : R l = false := by
          cases h : R l with
          | false => rfl
          | true =>
            have : R d = true := l4.ind (P := fun e => R e = true) (fun e _ he => by rw [of_decide_eq_true he]; exact h) fun e g h1 h2 h3 h4 => hstep e g h1 (touch_apart hS h2) h3 h4
            rw [this] at hq; exact absurd hq.2 (by simp)
        refine ⟨l, List.mem_filter.2 ⟨l1, by simp [hRl]⟩, l2, by simp [l3, hRl], ?_⟩
        have := l4.ind (P := fun e => Reach x y z (fun e => decide (e = l)) (fun d => q d && !R d) e ∨ R e = true) (fun e h1 h2 => .inl (.base h1 h2)) fun e g h1 h2 h3 h4 => by
          rcases h1 with h1 | h1
          · cases hg : R g with
            | true => exact .inr rfl
            | false => exact .inl (.step h1 h2 h3 (by simp [h4, hg]))
          · exact .inr (hstep e g h1 (touch_apart hS h2) h3 h4)
        exact this.resolve_right (by rw [hq.2]; simp)
      obtain ⟨l, l1, l2, l3, l4⟩ := hl c hci hqc
      have hRl : R l = true := by
        have := l4.ind (P := fun e => (e.inBox x y z ∧ q e = true) ∧ (R e = true → R l = true)) (fun e h1 h2 => by rw [of_decide_eq_true h2]; exact ⟨⟨l2, l3⟩, id⟩) fun e g ⟨⟨h1, h2⟩, h5⟩ h3 h4 h6 => ⟨⟨h4, h6⟩, fun hg => h5 (hstep g e hg (by rw [touchC_comm]; exact touch_apart hS h3) h1 h2)⟩
        exact this.2 hcc
      have hfl : (lp.filter fun l => !R l).length < lp.length := by
        have h1 : (lp.filter fun l => !R l).length + (lp.filter fun l => R l).length = lp.length := by
          have := List.length_eq_countP_add_countP (fun l => R l) (l := lp)
          rw [List.countP_eq_length_filter, List.countP_eq_length_filter] at this
          have e : (lp.filter fun l => decide ¬R l = true) = lp.filter fun l => !R l := List.filter_congr fun a _ => by cases R a <;> rfl
          rw [e] at this
          omega
        have h2 : 0 < (lp.filter fun l => R l).length := List.length_pos_of_mem (List.mem_filter.2 ⟨l1, hRl⟩)
        omega
      simp only [clus, hpk, List.length_cons, hR]
      omega
end
theorem clus_parts {x y z : Int} {cs : List Cell} (hH : HeapOK x y z cs) : (clus x y z 65 fun c => decide (c ∈ cs)).length ≤ (parts x y z 65 fun c => decide (c ∈ cs)).length := by
  have hS := hH.1
  have h64 := pick_len hS fun c => decide (c ∈ cs)
  obtain ⟨lp, h1, h2⟩ := parts_led hS 65 (q := fun c => decide (c ∈ cs)) (by omega)
  rw [← h1]
  exact clus_le hS 65 (by omega) fun d hd hq => by
    obtain ⟨l, k1, k2, k3, _, k5⟩ := h2 d hd hq
    exact ⟨l, k1, k2, k3, k5⟩
theorem full_small : ∀ x : Nat, x < 4 → ∀ y : Nat, y < 4 → ∀ z : Nat, z < 4 →
    (let D := gridPts (2 * (y + 1) + 1) (2 * (z + 1) + 1) (2 * (x + 1) + 1); (D.countP fun p => decide (kindC p = 0)) + (D.countP fun p => decide (kindC p = 2)) = (D.countP fun p => decide (kindC p = 1)) + (D.countP fun p => decide (kindC p = 3)) + 1) := by
  decide +kernel
theorem euler_full {x y z : Int} (hS : Sides x y z) : eulerOf x y z (cellsOf x y z) = 1 := by
  have hH : HeapOK x y z (cellsOf x y z) := by
    have := pick_ok hS fun _ => true
    unfold pick at this
    rwa [List.filter_eq_self.2 fun _ _ => rfl] at this
  obtain ⟨⟨x1, x2⟩, ⟨y1, y2⟩, ⟨z1, z2⟩⟩ := id hS
  have hm : ∀ p, p ∈ gridPts (2 * y + 1).toNat (2 * z + 1).toNat (2 * x + 1).toNat ↔ inBody (cellsOf x y z) p := fun p => by
    rw [mem_grid]
    constructor
    · rintro ⟨⟨_, _⟩, ⟨_, _⟩, ⟨_, _⟩⟩
      refine body_iff.2 ⟨⟨min (p.a / 2) (x - 1), min (p.b / 2) (y - 1), min (p.c / 2) (z - 1)⟩, (mem_cellsOf hS).2 ⟨⟨by simp only; omega, by simp only; omega⟩, ⟨by simp only; omega, by simp only; omega⟩, ⟨by simp only; omega, by simp only; omega⟩⟩, ⟨by simp only; omega, by simp only; omega⟩, ⟨by simp only; omega, by simp only; omega⟩, ⟨by simp only; omega, by simp only; omega⟩⟩
    · intro h
      obtain ⟨c, hc, hn⟩ := body_iff.1 h
      obtain ⟨⟨_, _⟩, ⟨_, _⟩, ⟨_, _⟩⟩ := (mem_cellsOf hS).1 hc
      obtain ⟨⟨_, _⟩, ⟨_, _⟩, ⟨_, _⟩⟩ := hn
      omega
  have hce := counts_eq hH grid_nodup hm
  have hs := full_small (x - 1).toNat (by omega) (y - 1).toNat (by omega) (z - 1).toNat (by omega)
  rw [show 2 * ((y - 1).toNat + 1) + 1 = (2 * y + 1).toNat by omega, show 2 * ((z - 1).toNat + 1) + 1 = (2 * z + 1).toNat by omega, show 2 * ((x - 1).toNat + 1) + 1 = (2 * x + 1).toNat by omega] at hs
  simp only at hs
  unfold eulerOf
  rw [hce]
  unfold fourOf kcount
  simp only [List.getD_cons_zero, List.getD_cons_succ]
  omega
end Go.Ab

namespace Go.Ab.C
open Go.Ab
def laws_rCells : AFn :=
 ⟨2, 26, [.tmp 4],
 .seq (.ops [(none, .mv 4 (.c (.B false)))])
 (.seq (.seq (.ops [(none, .mv 6 (.t 0)),
 (none, .len 7 (.t 6)),
 (none, .mv 8 (.t 1)),
 (none, .len 9 (.t 8)),
 (none, .bin 10 .neq (.t 7) (.t 9))])
 (.cond (.t 10) (.seq (.ops [(none, .mv 4 (.c (.B false)))])
 (.ret))
 (.skip)))
 (.seq (.seq (.ops [(none, .mv 5 (.c (.I 0)))])
 (.block 0 (.loop (.seq (.seq (.ops [(none, .mv 11 (.t 5)),
 (none, .mv 12 (.t 0)),
 (none, .len 13 (.t 12)),
 (none, .bin 14 .lss (.t 11) (.t 13))])
 (.cond (.t 14) (.skip)
 (.exit 0)))
 (.seq (.block 1 (.seq (.draw [⟨(none, .mv 17 (.t 0)), [], []⟩,
 ⟨(none, .mv 18 (.t 5)), [], []⟩,
 ⟨(none, .idxS 19 3 (.t 17) (.t 18)), [], []⟩,
 ⟨(none, .loadN 20 3 (.t 19)), [], []⟩,
 ⟨(none, .mv 21 (.t 1)), [], []⟩,
 ⟨(none, .mv 22 (.t 5)), [], []⟩,
 ⟨(none, .idxS 23 3 (.t 21) (.t 22)), [], []⟩,
 ⟨(none, .loadN 24 3 (.t 23)), [], []⟩,
 ⟨(none, .eqs 25 true 3 (.t 20) (.t 24)), [], []⟩])
 (.cond (.t 25) (.seq (.ops [(none, .mv 4 (.c (.B false)))])
 (.ret))
 (.skip))))
 (.ops [(none, .mv 15 (.t 5)),
 (none, .bin 16 .add (.t 15) (.c (.I 1))),
 (none, .mv 5 (.t 16))]))))))
 (.seq (.ops [(none, .mv 4 (.c (.B true)))])
 (.ret))))⟩
end Go.Ab.C

namespace Go.Ab.K
open Go Go.Ab
theorem laws_rCells : prepF Go.Proofs.Try.prog F.laws_rCells = some C.laws_rCells := by kernel_rfl
end Go.Ab.K

namespace Go.Ab.C
open Go.Ab
end Go.Ab.C

namespace Go.Ab.K
open Go Go.Ab
end Go.Ab.K

namespace Go.Ab.C
open Go.Ab
end Go.Ab.C

namespace Go.Ab.K
open Go Go.Ab
end Go.Ab.K

namespace Go.Ab.C
open Go.Ab
end Go.Ab.C

namespace Go.Ab.K
open Go Go.Ab
end Go.Ab.K

namespace Go.Ab.C
open Go.Ab
end Go.Ab.C

namespace Go.Ab.K
open Go Go.Ab
end Go.Ab.K

namespace Go.Ab
open Go

def cmp3 (a b : Cell) : Int := cmpL [a.a, a.b, a.c] [b.a, b.b, b.c]
def cmpC : List Cell → List Cell → Int
  | [], [] => 0
  | [], _ :: _ => -1
  | _ :: _, [] => 1
  | a :: l, b :: m => if cmp3 a b ≠ 0 then cmp3 a b else cmpC l m
def cmpH (g h : Hp) : Int := if cmp3 g.dims h.dims ≠ 0 then cmp3 g.dims h.dims else cmpC g.cs h.cs
end Go.Ab

namespace Go.Ab
open Go

def hrow (p : Nat × Hp) : List LV := [.I p.2.x, .I p.2.y, .I p.2.z, .ref p.1 0 p.2.cs.length]
def hpL (l : List (Nat × Hp)) : List LV := l.flatMap hrow
theorem hpL_len (l : List (Nat × Hp)) : (hpL l).length = l.length * 4 := by
  induction l with
  | nil => rfl
  | cons t l ih => rw [show hpL (t :: l) = hrow t ++ hpL l from rfl, List.length_append, ih, List.length_cons]; simp [hrow]; omega
theorem hpL_at {l : List (Nat × Hp)} : ∀ {k : Nat}, (hk : k < l.length) → ((hpL l).drop (k * 4)).take 4 = hrow l[k] := by
  induction l with
  | nil => intro k hk; simp at hk
  | cons t l ih =>
    intro k hk
    have e : hpL (t :: l) = hrow t ++ hpL l := rfl
    have hr : (hrow t).length = 4 := rfl
    cases k with
    | zero => rw [e, Nat.zero_mul, List.drop_zero, List.take_append_of_le_length (by omega), List.take_of_length_le (by omega)]; rfl
    | succ k =>
      rw [e, List.drop_append, List.drop_eq_nil_of_le (by omega), List.nil_append, hr, show (k + 1) * 4 - 4 = k * 4 by omega, ih (by simpa using hk)]
      rfl
theorem Live.hp {N : Mem} {t k e : Nat} {w : Bool} {l : List (Nat × Hp)} (h : Live N t (.row (hpL l) w e)) (hk : k < l.length) : getCells N t (k * 4) 4 = some (hrow l[k]) := by
  rw [h.cells, if_pos (by rw [hpL_len]; omega), hpL_at hk]
def HpsOK (M N : Mem) (l : List (Nat × Hp)) : Prop := ∀ p ∈ l, Live N p.1 (.row (triL p.2.cs) true 3) ∧ M.length ≤ p.1 ∧ p.2.cs.length ≤ 64
theorem HpsOK.pre {M N N' : Mem} {l : List (Nat × Hp)} (h : HpsOK M N l) (hp : Pre N N') : HpsOK M N' l := fun p hpl => ⟨(h p hpl).1.pre hp, (h p hpl).2⟩

def bestP (b : Nat × Hp) (l : List (Nat × Hp)) : Nat × Hp := l.foldl (fun b n => if lessHp n.2 b.2 then n else b) b
def FormRes (M : Mem) (f : Hp) (v : LV) (N : Mem) : Prop := ∃ u : Nat, v = .agg [.I f.x, .I f.y, .I f.z, .ref u 0 f.cs.length] ∧ M.length ≤ u ∧ Live N u (.row (triL f.cs) true 3) ∧ Pre M N
end Go.Ab

namespace Go.Ab
open Go

end Go.Ab

namespace Go.Ab
open Go

end Go.Ab

namespace Go.Ab.C
open Go.Ab
end Go.Ab.C

namespace Go.Ab.K
open Go Go.Ab
end Go.Ab.K

namespace Go.Ab
open Go

theorem SlI.lenV {N : Mem} {v : LV} {l : List Int} (h : SlI N v l) : lenV v = some (l.length : Int) := by
  rcases h with ⟨rfl, rfl⟩ | ⟨t, ex, rfl, _⟩ <;> rfl
end Go.Ab

namespace Go.Ab.C
open Go.Ab
end Go.Ab.C

namespace Go.Ab.K
open Go Go.Ab
end Go.Ab.K

namespace Go.Ab
open Go

def In24 (k : Int) : Prop := 0 ≤ k ∧ k ≤ 23
instance (k : Int) : Decidable (In24 k) := by unfold In24; exact inferInstance
end Go.Ab
