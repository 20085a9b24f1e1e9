/- Parts of the proof of FnExactTunnelsOfSaid: Pe Qb C_Ul K_Ul Ul Bs LTunnelsOf. -/
import Derived.Test.YtebgcnpkhojejaaA8
import Derived.Test.YtebgcnpkhojejaaA4
import Derived.Test.YtebgcnpkhojejaaA6
import Derived.Test.YtebgcnpkhojejaaA3
import Derived.Test.YtebgcnpkhojejaaProg
import Derived.KernelRfl
import Derived.Test.YtebgcnpkhojejaaA7
set_option linter.all false
/- Contracts: the reference's search from beyond the box. -/
namespace Go.Ab
open Go
set_option linter.unusedSimpArgs false
set_option linter.unusedVariables false

theorem h_l6Steps {M : Mem} : CallsTo PG F.spec_l6Steps [] M (.agg [.I (-1), .I 0, .I 0, .I 1, .I 0, .I 0, .I 0, .I (-1), .I 0, .I 0, .I 1, .I 0, .I 0, .I 0, .I (-1), .I 0, .I 0, .I 1]) M := by
  refine calls_run K.spec_l6Steps rfl ?_
  simp (disch := omega) only [C.spec_l6Steps, splice, ↓SXd, SXu, slBounds, ↓sop, ↓aop, ↓reduceIte, LV.cells, AOp.dst, LV.I, LV.B, LV.U, LV.S, LV.nil, Nat.reduceEqDiff, Nat.reduceAdd, Nat.reduceMul, Nat.reduceSub, Nat.reduceLeDiff, Nat.reduceBEq, Nat.reduceDiv, Nat.reduceMod, Int.reduceToNat, Int.reduceLT, Int.reduceLE, Int.reduceAdd, Int.reduceSub, Int.reduceMul, Int.reduceEq, Int.reduceNeg, reduceCtorEq, resV, resAll, ARes.ev, LV.flat, ite_true, ite_false, exists_eq_left', exists_eq_left, keyOf, implies_true, fillC, capOf]
  exact cmp_drop rfl
theorem h_l6Beside {a b c d e f : Int} {M : Mem} (h : (-100 ≤ a ∧ a ≤ 100) ∧ (-100 ≤ b ∧ b ≤ 100) ∧ (-100 ≤ c ∧ c ≤ 100) ∧ (-100 ≤ d ∧ d ≤ 100) ∧ (-100 ≤ e ∧ e ≤ 100) ∧ (-100 ≤ f ∧ f ≤ 100)) :
    CallsTo PG F.spec_l6Beside [.agg [.I a, .I b, .I c], .agg [.I d, .I e, .I f]] M (.agg [.I (a + d), .I (b + e), .I (c + f)]) M := by
  obtain ⟨⟨_, _⟩, ⟨_, _⟩, ⟨_, _⟩, ⟨_, _⟩, ⟨_, _⟩, ⟨_, _⟩⟩ := h
  refine calls_run K.spec_l6Beside rfl ?_
  simp (disch := omega) only [C.spec_l6Beside, splice, ↓SXd, SXu, slBounds, ↓sop, ↓aop, ↓reduceIte, LV.cells, AOp.dst, LV.I, LV.B, LV.U, LV.S, LV.nil, Nat.reduceEqDiff, Nat.reduceAdd, Nat.reduceMul, Nat.reduceSub, Nat.reduceLeDiff, Nat.reduceBEq, Nat.reduceDiv, Nat.reduceMod, Int.reduceToNat, Int.reduceLT, Int.reduceLE, Int.reduceAdd, Int.reduceSub, Int.reduceMul, Int.reduceEq, Int.reduceNeg, reduceCtorEq, resV, resAll, ARes.ev, LV.flat, ite_true, ite_false, exists_eq_left', exists_eq_left, keyOf, implies_true, fillC, capOf]
  exact cmp_drop rfl

def steps : List Cell := [⟨-1, 0, 0⟩, ⟨1, 0, 0⟩, ⟨0, -1, 0⟩, ⟨0, 1, 0⟩, ⟨0, 0, -1⟩, ⟨0, 0, 1⟩]
theorem steps_nbrs {c : Cell} {k : Nat} (hk : k < 6) : (nbrs c).getD k default = ⟨c.a + (steps.getD k default).a, c.b + (steps.getD k default).b, c.c + (steps.getD k default).c⟩ := by
  rcases (show k = 0 ∨ k = 1 ∨ k = 2 ∨ k = 3 ∨ k = 4 ∨ k = 5 by omega) with rfl | rfl | rfl | rfl | rfl | rfl <;> simp [nbrs, steps]
theorem steps_le {k : Nat} (hk : k < 6) : (-1 ≤ (steps.getD k default).a ∧ (steps.getD k default).a ≤ 1) ∧ (-1 ≤ (steps.getD k default).b ∧ (steps.getD k default).b ≤ 1) ∧ (-1 ≤ (steps.getD k default).c ∧ (steps.getD k default).c ≤ 1) := by
  rcases (show k = 0 ∨ k = 1 ∨ k = 2 ∨ k = 3 ∨ k = 4 ∨ k = 5 by omega) with rfl | rfl | rfl | rfl | rfl | rfl <;> simp [steps]
theorem Live.step {N : Mem} {t k : Nat} (h : Live N t (.row (triL steps) true 0)) (hk : k < 6) : getCells N t (k * 3) 3 = some (steps.getD k default).row := by
  have := Tri.get (cs := steps) (o := 0) h.has (k := k) hk
  rwa [Nat.zero_add] at this

theorem h_l6Enclosed {x y z : Int} {t : Nat} {w : Bool} {cs : List Cell} {M : Mem} (h : Live M t (.row (triL cs) w 3)) (hH : HeapOK x y z cs) :
    CallsTo PG F.spec_l6Enclosed [.agg [.I x, .I y, .I z, .ref t 0 cs.length]] M (.ref M.length 0 (pick x y z (closed x y z fun c => decide (c ∈ cs))).length) (M ++ [some (.row (triL (pick x y z (closed x y z fun c => decide (c ∈ cs)))) true 3)]) := by
  have hS := hH.1
  have hn : cs.length ≤ 1000000000 := by have := hH.len; omega
  obtain ⟨⟨hx0, hx⟩, ⟨hy0, hy⟩, ⟨hz0, hz⟩⟩ := id hS
  have ht := h.lt
  refine calls_run K.spec_l6Enclosed rfl ?_
  simp (disch := omega) only [C.spec_l6Enclosed, ↓SXd, SXu, slBounds, ↓sop, ↓aop, ↓reduceIte, LV.cells, AOp.dst, LV.I, LV.B, LV.U, LV.S, LV.nil, Nat.reduceEqDiff, Nat.reduceAdd, Nat.reduceMul, Nat.reduceSub, Nat.reduceLeDiff, Nat.reduceBEq, Nat.reduceDiv, Nat.reduceMod, Int.reduceToNat, Int.reduceLT, Int.reduceLE, Int.reduceAdd, Int.reduceSub, Int.reduceMul, Int.reduceEq, Int.reduceNeg, reduceCtorEq, resV, resAll, ARes.ev, LV.flat, ite_true, ite_false, exists_eq_left', exists_eq_left, keyOf, implies_true, fillC, capOf]
  refine callK_of (h_l2Empty) ?_
  simp (disch := omega) only [↓SXd, SXu, slBounds, ↓sop, ↓aop, ↓reduceIte, LV.cells, AOp.dst, LV.I, LV.B, LV.U, LV.S, LV.nil, Nat.reduceEqDiff, Nat.reduceAdd, Nat.reduceMul, Nat.reduceSub, Nat.reduceLeDiff, Nat.reduceBEq, Nat.reduceDiv, Nat.reduceMod, Int.reduceToNat, Int.reduceLT, Int.reduceLE, Int.reduceAdd, Int.reduceSub, Int.reduceMul, Int.reduceEq, Int.reduceNeg, reduceCtorEq, resV, resAll, ARes.ev, LV.flat, ite_true, ite_false, exists_eq_left', exists_eq_left, keyOf, implies_true, fillC, capOf]
  refine callK_of (h_l6Steps) ?_
  simp (disch := omega) only [splice, ↓SXd, SXu, slBounds, ↓sop, ↓aop, ↓reduceIte, LV.cells, AOp.dst, LV.I, LV.B, LV.U, LV.S, LV.nil, Nat.reduceEqDiff, Nat.reduceAdd, Nat.reduceMul, Nat.reduceSub, Nat.reduceLeDiff, Nat.reduceBEq, Nat.reduceDiv, Nat.reduceMod, Int.reduceToNat, Int.reduceLT, Int.reduceLE, Int.reduceAdd, Int.reduceSub, Int.reduceMul, Int.reduceEq, Int.reduceNeg, reduceCtorEq, resV, resAll, ARes.ev, LV.flat, ite_true, ite_false, exists_eq_left', exists_eq_left, keyOf, implies_true, fillC, capOf]
  refine ev_loop (fun m fr N => ∃ (i : Int) (u : Nat) (l : List Cell), i + m = x + 1 ∧ -1 ≤ i ∧ Mgn x y z i (-1) (-1) l ∧ Pre M N ∧ Live N M.length (.row [.I x, .I y, .I z, .ref t 0 cs.length] true 0) ∧
    Live N (M.length + 1) (.row [] true 3) ∧ Live N (M.length + 2) (.row [.I x, .I y, .I z, .ref (M.length + 1) 0 0] true 0) ∧ 
    Live N (M.length + 4) (.row (triL steps) true 0) ∧ Live N u (.row (triL l) true 3) ∧ (u = M.length + 3 ∨ M.length + 4 < u) ∧
    fr 1 = .ptr M.length 0 ∧ fr 3 = .ptr (M.length + 2) 0 ∧ fr 4 = .ref u 0 l.length ∧ fr 5 = .ptr (M.length + 4) 0 ∧ fr 6 = .I i) (x + 2).toNat
    ⟨-1, M.length + 3, [], by omega, by omega, Mgn.nil, Pre.app _ _, Live.new, Live.newj rfl, Live.newj rfl, Live.newj rfl, Live.newj rfl, .inl rfl, rfl, rfl, rfl, rfl, rfl⟩ ?_
  rintro m fr N ⟨i, u, l, hi, hi1, hm, hpre, b1, b1', b3, b5, bu, hu, f1, f3, f4, f5, f6⟩
  simp (disch := omega) only [f1, f3, f4, f5, f6, b1.cell, ↓SXd, SXu, slBounds, ↓sop, ↓aop, ↓reduceIte, LV.cells, AOp.dst, LV.I, LV.B, LV.U, LV.S, LV.nil, Nat.reduceEqDiff, Nat.reduceAdd, Nat.reduceMul, Nat.reduceSub, Nat.reduceLeDiff, Nat.reduceBEq, Nat.reduceDiv, Nat.reduceMod, Int.reduceToNat, Int.reduceLT, Int.reduceLE, Int.reduceAdd, Int.reduceSub, Int.reduceMul, Int.reduceEq, Int.reduceNeg, reduceCtorEq, resV, resAll, ARes.ev, LV.flat, ite_true, ite_false, exists_eq_left', exists_eq_left, keyOf, implies_true, fillC, capOf]
  refine condC_dec (fun hlt => ?_) (fun hlt => ?_)
  · simp (disch := omega) only [f1, f3, f4, f5, f6, ↓SXd, SXu, slBounds, ↓sop, ↓aop, ↓reduceIte, LV.cells, AOp.dst, LV.I, LV.B, LV.U, LV.S, LV.nil, Nat.reduceEqDiff, Nat.reduceAdd, Nat.reduceMul, Nat.reduceSub, Nat.reduceLeDiff, Nat.reduceBEq, Nat.reduceDiv, Nat.reduceMod, Int.reduceToNat, Int.reduceLT, Int.reduceLE, Int.reduceAdd, Int.reduceSub, Int.reduceMul, Int.reduceEq, Int.reduceNeg, reduceCtorEq, resV, resAll, ARes.ev, LV.flat, ite_true, ite_false, exists_eq_left', exists_eq_left, keyOf, implies_true, fillC, capOf]
    refine ev_loop (fun m2 fr N => ∃ (j : Int) (u : Nat) (l : List Cell), j + m2 = y + 1 ∧ -1 ≤ j ∧ Mgn x y z i j (-1) l ∧ Pre M N ∧ Live N M.length (.row [.I x, .I y, .I z, .ref t 0 cs.length] true 0) ∧
      Live N (M.length + 1) (.row [] true 3) ∧ Live N (M.length + 2) (.row [.I x, .I y, .I z, .ref (M.length + 1) 0 0] true 0) ∧ 
      Live N (M.length + 4) (.row (triL steps) true 0) ∧ Live N u (.row (triL l) true 3) ∧ (u = M.length + 3 ∨ M.length + 4 < u) ∧
      fr 1 = .ptr M.length 0 ∧ fr 3 = .ptr (M.length + 2) 0 ∧ fr 4 = .ref u 0 l.length ∧ fr 5 = .ptr (M.length + 4) 0 ∧ fr 6 = .I i ∧ fr 7 = .I j) (y + 2).toNat
      ⟨-1, u, l, by omega, by omega, hm, hpre, b1, b1', b3, b5, bu, hu, f1, f3, f4, f5, f6, rfl⟩ ?_
    clear f1 f3 f4 f5 f6 hpre b1 b1' b3 b5 bu hu hm
    rintro m2 fr N ⟨j, u, l, hj, hj1, hm, hpre, b1, b1', b3, b5, bu, hu, f1, f3, f4, f5, f6, f7⟩
    simp (disch := omega) only [f1, f3, f4, f5, f6, f7, b1.cell, ↓SXd, SXu, slBounds, ↓sop, ↓aop, ↓reduceIte, LV.cells, AOp.dst, LV.I, LV.B, LV.U, LV.S, LV.nil, Nat.reduceEqDiff, Nat.reduceAdd, Nat.reduceMul, Nat.reduceSub, Nat.reduceLeDiff, Nat.reduceBEq, Nat.reduceDiv, Nat.reduceMod, Int.reduceToNat, Int.reduceLT, Int.reduceLE, Int.reduceAdd, Int.reduceSub, Int.reduceMul, Int.reduceEq, Int.reduceNeg, reduceCtorEq, resV, resAll, ARes.ev, LV.flat, ite_true, ite_false, exists_eq_left', exists_eq_left, keyOf, implies_true, fillC, capOf]
    refine condC_dec (fun hlt2 => ?_) (fun hlt2 => ?_)
    · simp (disch := omega) only [f1, f3, f4, f5, f6, f7, ↓SXd, SXu, slBounds, ↓sop, ↓aop, ↓reduceIte, LV.cells, AOp.dst, LV.I, LV.B, LV.U, LV.S, LV.nil, Nat.reduceEqDiff, Nat.reduceAdd, Nat.reduceMul, Nat.reduceSub, Nat.reduceLeDiff, Nat.reduceBEq, Nat.reduceDiv, Nat.reduceMod, Int.reduceToNat, Int.reduceLT, Int.reduceLE, Int.reduceAdd, Int.reduceSub, Int.reduceMul, Int.reduceEq, Int.reduceNeg, reduceCtorEq, resV, resAll, ARes.ev, LV.flat, ite_true, ite_false, exists_eq_left', exists_eq_left, keyOf, implies_true, fillC, capOf]
      refine ev_loop (fun m3 fr N => ∃ (k : Int) (u : Nat) (l : List Cell), k + m3 = z + 1 ∧ -1 ≤ k ∧ Mgn x y z i j k l ∧ Pre M N ∧ Live N M.length (.row [.I x, .I y, .I z, .ref t 0 cs.length] true 0) ∧
        Live N (M.length + 1) (.row [] true 3) ∧ Live N (M.length + 2) (.row [.I x, .I y, .I z, .ref (M.length + 1) 0 0] true 0) ∧ 
        Live N (M.length + 4) (.row (triL steps) true 0) ∧ Live N u (.row (triL l) true 3) ∧ (u = M.length + 3 ∨ M.length + 4 < u) ∧
        fr 1 = .ptr M.length 0 ∧ fr 3 = .ptr (M.length + 2) 0 ∧ fr 4 = .ref u 0 l.length ∧ fr 5 = .ptr (M.length + 4) 0 ∧ fr 6 = .I i ∧ fr 7 = .I j ∧ fr 8 = .I k) (z + 2).toNat
        ⟨-1, u, l, by omega, by omega, hm, hpre, b1, b1', b3, b5, bu, hu, f1, f3, f4, f5, f6, f7, rfl⟩ ?_
      clear f1 f3 f4 f5 f6 f7 hpre b1 b1' b3 b5 bu hu hm
      rintro m3 fr N ⟨k, u, l, hk, hk1, hm, hpre, b1, b1', b3, b5, bu, hu, f1, f3, f4, f5, f6, f7, f8⟩
      simp (disch := omega) only [f1, f3, f4, f5, f6, f7, f8, b1.cell, ↓SXd, SXu, slBounds, ↓sop, ↓aop, ↓reduceIte, LV.cells, AOp.dst, LV.I, LV.B, LV.U, LV.S, LV.nil, Nat.reduceEqDiff, Nat.reduceAdd, Nat.reduceMul, Nat.reduceSub, Nat.reduceLeDiff, Nat.reduceBEq, Nat.reduceDiv, Nat.reduceMod, Int.reduceToNat, Int.reduceLT, Int.reduceLE, Int.reduceAdd, Int.reduceSub, Int.reduceMul, Int.reduceEq, Int.reduceNeg, reduceCtorEq, resV, resAll, ARes.ev, LV.flat, ite_true, ite_false, exists_eq_left', exists_eq_left, keyOf, implies_true, fillC, capOf]
      refine condC_dec (fun hlt3 => ?_) (fun hlt3 => ?_)
      · simp (disch := omega) only [f1, f3, f4, f5, f6, f7, f8, b1.cells, splice, ↓SXd, SXu, slBounds, ↓sop, ↓aop, ↓reduceIte, LV.cells, AOp.dst, LV.I, LV.B, LV.U, LV.S, LV.nil, Nat.reduceEqDiff, Nat.reduceAdd, Nat.reduceMul, Nat.reduceSub, Nat.reduceLeDiff, Nat.reduceBEq, Nat.reduceDiv, Nat.reduceMod, Int.reduceToNat, Int.reduceLT, Int.reduceLE, Int.reduceAdd, Int.reduceSub, Int.reduceMul, Int.reduceEq, Int.reduceNeg, reduceCtorEq, resV, resAll, ARes.ev, LV.flat, ite_true, ite_false, exists_eq_left', exists_eq_left, keyOf, implies_true, fillC, capOf]
        refine callK_of (h_l2In hS) ?_
        simp (disch := omega) only [f1, f3, f4, f5, f6, f7, f8, ↓SXd, SXu, slBounds, ↓sop, ↓aop, ↓reduceIte, LV.cells, AOp.dst, LV.I, LV.B, LV.U, LV.S, LV.nil, Nat.reduceEqDiff, Nat.reduceAdd, Nat.reduceMul, Nat.reduceSub, Nat.reduceLeDiff, Nat.reduceBEq, Nat.reduceDiv, Nat.reduceMod, Int.reduceToNat, Int.reduceLT, Int.reduceLE, Int.reduceAdd, Int.reduceSub, Int.reduceMul, Int.reduceEq, Int.reduceNeg, reduceCtorEq, resV, resAll, ARes.ev, LV.flat, ite_true, ite_false, exists_eq_left', exists_eq_left, keyOf, implies_true, fillC, capOf]
        refine condC_dec (fun hin => ?_) (fun hin => ?_)
        · simp (disch := omega) only [f1, f3, f4, f5, f6, f7, f8, splice, ↓SXd, SXu, slBounds, ↓sop, ↓aop, ↓reduceIte, LV.cells, AOp.dst, LV.I, LV.B, LV.U, LV.S, LV.nil, Nat.reduceEqDiff, Nat.reduceAdd, Nat.reduceMul, Nat.reduceSub, Nat.reduceLeDiff, Nat.reduceBEq, Nat.reduceDiv, Nat.reduceMod, Int.reduceToNat, Int.reduceLT, Int.reduceLE, Int.reduceAdd, Int.reduceSub, Int.reduceMul, Int.reduceEq, Int.reduceNeg, reduceCtorEq, resV, resAll, ARes.ev, LV.flat, ite_true, ite_false, exists_eq_left', exists_eq_left, keyOf, implies_true, fillC, capOf]
          exact ⟨m3 - 1, by omega, k + 1, u, l, by omega, by omega, hm.in hin, hpre, b1, b1', b3, b5, bu, hu, f1, f3, f4, f5, f6, f7, rfl⟩
        · simp (disch := omega) only [f1, f3, f4, f5, f6, f7, f8, splice, ↓SXd, SXu, slBounds, ↓sop, ↓aop, ↓reduceIte, LV.cells, AOp.dst, LV.I, LV.B, LV.U, LV.S, LV.nil, Nat.reduceEqDiff, Nat.reduceAdd, Nat.reduceMul, Nat.reduceSub, Nat.reduceLeDiff, Nat.reduceBEq, Nat.reduceDiv, Nat.reduceMod, Int.reduceToNat, Int.reduceLT, Int.reduceLE, Int.reduceAdd, Int.reduceSub, Int.reduceMul, Int.reduceEq, Int.reduceNeg, reduceCtorEq, resV, resAll, ARes.ev, LV.flat, ite_true, ite_false, exists_eq_left', exists_eq_left, keyOf, implies_true, fillC, capOf]
          have hml := hm.len
          refine appendK_cell bu (by omega) fun N' l1 l2 l3 => ?_
          have hb5 := b5.lt
          simp (disch := omega) only [f1, f3, f4, f5, f6, f7, f8, splice, ↓SXd, SXu, slBounds, ↓sop, ↓aop, ↓reduceIte, LV.cells, AOp.dst, LV.I, LV.B, LV.U, LV.S, LV.nil, Nat.reduceEqDiff, Nat.reduceAdd, Nat.reduceMul, Nat.reduceSub, Nat.reduceLeDiff, Nat.reduceBEq, Nat.reduceDiv, Nat.reduceMod, Int.reduceToNat, Int.reduceLT, Int.reduceLE, Int.reduceAdd, Int.reduceSub, Int.reduceMul, Int.reduceEq, Int.reduceNeg, reduceCtorEq, resV, resAll, ARes.ev, LV.flat, ite_true, ite_false, exists_eq_left', exists_eq_left, keyOf, implies_true, fillC, capOf]
          exact ⟨m3 - 1, by omega, k + 1, _, l ++ [⟨i, j, k⟩], by omega, by omega, hm.out (by omega) ⟨⟨by simp only; omega, by simp only; omega⟩, ⟨by simp only; omega, by simp only; omega⟩, ⟨by simp only; omega, by simp only; omega⟩⟩ hin,
            pre_step hpre (by omega) l1 l3, live_step b1 (by omega) l3, live_step b1' (by omega) l3, live_step b3 (by omega) l3, live_step b5 (by omega) l3, l2, by omega, f1, f3, rfl, f5, f6, f7, rfl⟩
      · simp (disch := omega) only [f1, f3, f4, f5, f6, f7, f8, ↓SXd, SXu, slBounds, ↓sop, ↓aop, ↓reduceIte, LV.cells, AOp.dst, LV.I, LV.B, LV.U, LV.S, LV.nil, Nat.reduceEqDiff, Nat.reduceAdd, Nat.reduceMul, Nat.reduceSub, Nat.reduceLeDiff, Nat.reduceBEq, Nat.reduceDiv, Nat.reduceMod, Int.reduceToNat, Int.reduceLT, Int.reduceLE, Int.reduceAdd, Int.reduceSub, Int.reduceMul, Int.reduceEq, Int.reduceNeg, reduceCtorEq, resV, resAll, ARes.ev, LV.flat, ite_true, ite_false, exists_eq_left', exists_eq_left, keyOf, implies_true, fillC, capOf]
        have : k = z + 1 := by omega
        exact ⟨m2 - 1, by omega, j + 1, u, l, by omega, by omega, hm.row (by omega) (by omega), hpre, b1, b1', b3, b5, bu, hu, f1, f3, f4, f5, f6, rfl⟩
    · simp (disch := omega) only [f1, f3, f4, f5, f6, f7, ↓SXd, SXu, slBounds, ↓sop, ↓aop, ↓reduceIte, LV.cells, AOp.dst, LV.I, LV.B, LV.U, LV.S, LV.nil, Nat.reduceEqDiff, Nat.reduceAdd, Nat.reduceMul, Nat.reduceSub, Nat.reduceLeDiff, Nat.reduceBEq, Nat.reduceDiv, Nat.reduceMod, Int.reduceToNat, Int.reduceLT, Int.reduceLE, Int.reduceAdd, Int.reduceSub, Int.reduceMul, Int.reduceEq, Int.reduceNeg, reduceCtorEq, resV, resAll, ARes.ev, LV.flat, ite_true, ite_false, exists_eq_left', exists_eq_left, keyOf, implies_true, fillC, capOf]
      exact ⟨m - 1, by omega, i + 1, u, l, by omega, by omega, hm.plane (by omega) (by omega), hpre, b1, b1', b3, b5, bu, hu, f1, f3, f4, f5, rfl⟩
  · simp (disch := omega) only [f1, f3, f4, f5, f6, ↓SXd, SXu, slBounds, ↓sop, ↓aop, ↓reduceIte, LV.cells, AOp.dst, LV.I, LV.B, LV.U, LV.S, LV.nil, Nat.reduceEqDiff, Nat.reduceAdd, Nat.reduceMul, Nat.reduceSub, Nat.reduceLeDiff, Nat.reduceBEq, Nat.reduceDiv, Nat.reduceMod, Int.reduceToNat, Int.reduceLT, Int.reduceLE, Int.reduceAdd, Int.reduceSub, Int.reduceMul, Int.reduceEq, Int.reduceNeg, reduceCtorEq, resV, resAll, ARes.ev, LV.flat, ite_true, ite_false, exists_eq_left', exists_eq_left, keyOf, implies_true, fillC, capOf]
    have hix : i = x + 1 := by omega
    subst hix
    have hml := hm.len
    have hout : Out x y z (fun c => decide (c ∈ cs)) 0 0 l [] := ⟨fun c h1 h2 => hm.all c h1 h2 (by have := h1.1.2; unfold Bef; omega), hm.mem, by simp, by simp, by omega, by omega⟩
    refine ev_loop (fun m fr N => ∃ (n u s : Nat) (r : List Cell), n + m = 300 ∧ n ≤ (l ++ r).length ∧ Out x y z (fun c => decide (c ∈ cs)) n 0 l r ∧ Pre M N ∧ Live N M.length (.row [.I x, .I y, .I z, .ref t 0 cs.length] true 0) ∧
      Live N s (.row (triL (pick x y z fun d => decide (d ∈ r))) true 3) ∧ Live N (M.length + 2) (.row [.I x, .I y, .I z, .ref s 0 (pick x y z fun d => decide (d ∈ r)).length] true 0) ∧ 
      Live N (M.length + 4) (.row (triL steps) true 0) ∧ Live N u (.row (triL (l ++ r)) true 3) ∧ u ≠ s ∧ M.length < u ∧ M.length < s ∧
      fr 1 = .ptr M.length 0 ∧ fr 3 = .ptr (M.length + 2) 0 ∧ fr 4 = .ref u 0 (l ++ r).length ∧ fr 5 = .ptr (M.length + 4) 0 ∧ fr 9 = .I n) 300
      ⟨0, u, M.length + 1, [], rfl, by omega, hout, hpre, b1, ?_, ?_, b5, by rw [List.append_nil]; exact bu, by omega, by omega, by omega, f1, f3, by rw [List.append_nil]; exact f4, f5, rfl⟩ ?_
    · rw [show pick x y z (fun d => decide (d ∈ ([] : List Cell))) = [] by unfold pick; rw [List.filter_eq_nil_iff]; simp]; exact b1'
    · rw [show pick x y z (fun d => decide (d ∈ ([] : List Cell))) = [] by unfold pick; rw [List.filter_eq_nil_iff]; simp]; exact b3
    clear f1 f3 f4 f5 f6 hpre b1 b1' b3 b5 bu hu hm hout
    rintro m fr N ⟨n, u, s, r, hnm, hnl, hout, hpre, b1, bs, b3, b5, bu, hus, hu, hs, f1, f3, f4, f5, f9⟩
    have hrl := nodup_len hS hout.nodup fun d hd => (hout.mem d hd).1
    have hll : (l ++ r).length = l.length + r.length := List.length_append
    simp (disch := omega) only [f1, f3, f4, f5, f9, ↓SXd, SXu, slBounds, ↓sop, ↓aop, ↓reduceIte, LV.cells, AOp.dst, LV.I, LV.B, LV.U, LV.S, LV.nil, Nat.reduceEqDiff, Nat.reduceAdd, Nat.reduceMul, Nat.reduceSub, Nat.reduceLeDiff, Nat.reduceBEq, Nat.reduceDiv, Nat.reduceMod, Int.reduceToNat, Int.reduceLT, Int.reduceLE, Int.reduceAdd, Int.reduceSub, Int.reduceMul, Int.reduceEq, Int.reduceNeg, reduceCtorEq, resV, resAll, ARes.ev, LV.flat, ite_true, ite_false, exists_eq_left', exists_eq_left, keyOf, implies_true, fillC, capOf]
    refine condC_dec (fun hlt2 => ?_) (fun hlt2 => ?_)
    · simp (disch := omega) only [f1, f3, f4, f5, f9, ↓SXd, SXu, slBounds, ↓sop, ↓aop, ↓reduceIte, LV.cells, AOp.dst, LV.I, LV.B, LV.U, LV.S, LV.nil, Nat.reduceEqDiff, Nat.reduceAdd, Nat.reduceMul, Nat.reduceSub, Nat.reduceLeDiff, Nat.reduceBEq, Nat.reduceDiv, Nat.reduceMod, Int.reduceToNat, Int.reduceLT, Int.reduceLE, Int.reduceAdd, Int.reduceSub, Int.reduceMul, Int.reduceEq, Int.reduceNeg, reduceCtorEq, resV, resAll, ARes.ev, LV.flat, ite_true, ite_false, exists_eq_left', exists_eq_left, keyOf, implies_true, fillC, capOf]
      have hnl' : n < (l ++ r).length := by omega
      refine ev_loop (fun m2 fr N => ∃ (k u s : Nat) (r : List Cell), k + m2 = 6 ∧ n < (l ++ r).length ∧ Out x y z (fun c => decide (c ∈ cs)) n k l r ∧ Pre M N ∧ Live N M.length (.row [.I x, .I y, .I z, .ref t 0 cs.length] true 0) ∧
        Live N s (.row (triL (pick x y z fun d => decide (d ∈ r))) true 3) ∧ Live N (M.length + 2) (.row [.I x, .I y, .I z, .ref s 0 (pick x y z fun d => decide (d ∈ r)).length] true 0) ∧ 
        Live N (M.length + 4) (.row (triL steps) true 0) ∧ Live N u (.row (triL (l ++ r)) true 3) ∧ u ≠ s ∧ M.length < u ∧ M.length < s ∧
        fr 1 = .ptr M.length 0 ∧ fr 3 = .ptr (M.length + 2) 0 ∧ fr 4 = .ref u 0 (l ++ r).length ∧ fr 5 = .ptr (M.length + 4) 0 ∧ fr 9 = .I n ∧ fr 10 = .I k) 6
        ⟨0, u, s, r, rfl, hnl', hout, hpre, b1, bs, b3, b5, bu, hus, hu, hs, f1, f3, f4, f5, f9, rfl⟩ ?_
      clear f1 f3 f4 f5 f9 hpre b1 bs b3 b5 bu hus hu hs hout hnl hrl hll hnl'
      rintro m2 fr N ⟨k, u, s, r, hk, hnl, hout, hpre, b1, bs, b3, b5, bu, hus, hu, hs, f1, f3, f4, f5, f9, f10⟩
      simp (disch := omega) only [f1, f3, f4, f5, f9, f10, ↓SXd, SXu, slBounds, ↓sop, ↓aop, ↓reduceIte, LV.cells, AOp.dst, LV.I, LV.B, LV.U, LV.S, LV.nil, Nat.reduceEqDiff, Nat.reduceAdd, Nat.reduceMul, Nat.reduceSub, Nat.reduceLeDiff, Nat.reduceBEq, Nat.reduceDiv, Nat.reduceMod, Int.reduceToNat, Int.reduceLT, Int.reduceLE, Int.reduceAdd, Int.reduceSub, Int.reduceMul, Int.reduceEq, Int.reduceNeg, reduceCtorEq, resV, resAll, ARes.ev, LV.flat, ite_true, ite_false, exists_eq_left', exists_eq_left, keyOf, implies_true, fillC, capOf]
      refine condC_dec (fun hlt3 => ?_) (fun hlt3 => ?_)
      · have hk6 : k < 6 := by omega
        have hc1 := bu.tri0 hnl
        have hst := steps_nbrs (c := (l ++ r).getD n default) hk6
        have hsl := steps_le hk6
        simp (disch := omega) only [f1, f3, f4, f5, f9, f10, hc1, (b5.step hk6), Cell.row, List.getElem?_append_left, ↓SXd, SXu, slBounds, ↓sop, ↓aop, ↓reduceIte, LV.cells, AOp.dst, LV.I, LV.B, LV.U, LV.S, LV.nil, Nat.reduceEqDiff, Nat.reduceAdd, Nat.reduceMul, Nat.reduceSub, Nat.reduceLeDiff, Nat.reduceBEq, Nat.reduceDiv, Nat.reduceMod, Int.reduceToNat, Int.reduceLT, Int.reduceLE, Int.reduceAdd, Int.reduceSub, Int.reduceMul, Int.reduceEq, Int.reduceNeg, reduceCtorEq, resV, resAll, ARes.ev, LV.flat, ite_true, ite_false, exists_eq_left', exists_eq_left, keyOf, implies_true, fillC, capOf]
        have hce : ExtC x y z ((l ++ r).getD n default) := by
          rcases List.mem_append.1 (getD_mem' (d := default) hnl) with hm | hm
          · exact (hout.mgm _ hm).1
          · exact (hout.mem _ hm).1.ext
        obtain ⟨⟨_, _⟩, ⟨_, _⟩, ⟨_, _⟩⟩ := id hce
        obtain ⟨⟨_, _⟩, ⟨_, _⟩, ⟨_, _⟩⟩ := id hsl
        refine callK_of (h_l6Beside ⟨⟨by omega, by omega⟩, ⟨by omega, by omega⟩, ⟨by omega, by omega⟩, ⟨by omega, by omega⟩, ⟨by omega, by omega⟩, ⟨by omega, by omega⟩⟩) ?_
        simp (disch := omega) only [f1, f3, f4, f5, f9, f10, splice, ↓SXd, SXu, slBounds, ↓sop, ↓aop, ↓reduceIte, LV.cells, AOp.dst, LV.I, LV.B, LV.U, LV.S, LV.nil, Nat.reduceEqDiff, Nat.reduceAdd, Nat.reduceMul, Nat.reduceSub, Nat.reduceLeDiff, Nat.reduceBEq, Nat.reduceDiv, Nat.reduceMod, Int.reduceToNat, Int.reduceLT, Int.reduceLE, Int.reduceAdd, Int.reduceSub, Int.reduceMul, Int.reduceEq, Int.reduceNeg, reduceCtorEq, resV, resAll, ARes.ev, LV.flat, ite_true, ite_false, exists_eq_left', exists_eq_left, keyOf, implies_true, fillC, capOf]
        generalize ((l ++ r).getD n default).a + (steps.getD k default).a = ea at hst ⊢
        generalize ((l ++ r).getD n default).b + (steps.getD k default).b = eb at hst ⊢
        generalize ((l ++ r).getD n default).c + (steps.getD k default).c = ec at hst ⊢
        have e0 : Live (N ++ [some (.row [.I ea, .I eb, .I ec] true 0)]) N.length (.row [.I ea, .I eb, .I ec] true 0) := Live.new
        have hpN : Pre N (N ++ [some (.row [.I ea, .I eb, .I ec] true 0)]) := Pre.app _ _
        generalize N ++ [some (.row [.I ea, .I eb, .I ec] true 0)] = N1 at e0 hpN ⊢
        have hNl := hpN.1
        have hlb5 := b5.lt
        have hlu := bu.lt
        have hls := bs.lt
        have c1 := b1.pre hpN
        have cs' := bs.pre hpN
        have c3 := b3.pre hpN
        have c5 := b5.pre hpN
        have cu := bu.pre hpN
        have hpre1 := hpre.trans hpN
        have hTri : Tri N1 t 0 cs := (h.pre hpre1).has
        have hrl := nodup_len hS hout.nodup fun d hd => (hout.mem d hd).1
        have hpl := pick_len hS fun d => decide (d ∈ r)
        have hll : (l ++ r).length = l.length + r.length := List.length_append
        have hmr : decide ((⟨ea, eb, ec⟩ : Cell) ∈ pick x y z fun d => decide (d ∈ r)) = decide ((⟨ea, eb, ec⟩ : Cell) ∈ r) := decide_eq_decide.2 ⟨fun h => by have := ((mem_pick hS).1 h).2; exact of_decide_eq_true this, fun h => (mem_pick hS).2 ⟨(hout.mem _ h).1, decide_eq_true h⟩⟩
        have hskip : ¬ ((Cell.inBox x y z ⟨ea, eb, ec⟩ ∧ (⟨ea, eb, ec⟩ : Cell) ∉ cs) ∧ (⟨ea, eb, ec⟩ : Cell) ∉ r) → Out x y z (fun c => decide (c ∈ cs)) n (k + 1) l r := fun hno => hout.skip (by rw [hst, decide_eq_false_iff_not]; exact hno)
        simp (disch := omega) only [f1, f3, f4, f5, f9, f10, c1.cells, e0.cells, ↓SXd, SXu, slBounds, ↓sop, ↓aop, ↓reduceIte, LV.cells, AOp.dst, LV.I, LV.B, LV.U, LV.S, LV.nil, Nat.reduceEqDiff, Nat.reduceAdd, Nat.reduceMul, Nat.reduceSub, Nat.reduceLeDiff, Nat.reduceBEq, Nat.reduceDiv, Nat.reduceMod, Int.reduceToNat, Int.reduceLT, Int.reduceLE, Int.reduceAdd, Int.reduceSub, Int.reduceMul, Int.reduceEq, Int.reduceNeg, reduceCtorEq, resV, resAll, ARes.ev, LV.flat, ite_true, ite_false, exists_eq_left', exists_eq_left, keyOf, implies_true, fillC, capOf]
        refine callK_of (h_l2In hS) ?_
        simp (disch := omega) only [f1, f3, f4, f5, f9, f10, ↓SXd, SXu, slBounds, ↓sop, ↓aop, ↓reduceIte, LV.cells, AOp.dst, LV.I, LV.B, LV.U, LV.S, LV.nil, Nat.reduceEqDiff, Nat.reduceAdd, Nat.reduceMul, Nat.reduceSub, Nat.reduceLeDiff, Nat.reduceBEq, Nat.reduceDiv, Nat.reduceMod, Int.reduceToNat, Int.reduceLT, Int.reduceLE, Int.reduceAdd, Int.reduceSub, Int.reduceMul, Int.reduceEq, Int.reduceNeg, reduceCtorEq, resV, resAll, ARes.ev, LV.flat, ite_true, ite_false, exists_eq_left', exists_eq_left, keyOf, implies_true, fillC, capOf]
        by_cases hin : Cell.inBox x y z ⟨ea, eb, ec⟩
        · simp (disch := omega) only [f1, f3, f4, f5, f9, f10, hin, c1.cells, e0.cells, ↓SXd, SXu, slBounds, ↓sop, ↓aop, ↓reduceIte, LV.cells, AOp.dst, LV.I, LV.B, LV.U, LV.S, LV.nil, Nat.reduceEqDiff, Nat.reduceAdd, Nat.reduceMul, Nat.reduceSub, Nat.reduceLeDiff, Nat.reduceBEq, Nat.reduceDiv, Nat.reduceMod, Int.reduceToNat, Int.reduceLT, Int.reduceLE, Int.reduceAdd, Int.reduceSub, Int.reduceMul, Int.reduceEq, Int.reduceNeg, reduceCtorEq, resV, resAll, ARes.ev, LV.flat, ite_true, ite_false, exists_eq_left', exists_eq_left, keyOf, implies_true, fillC, capOf]
          refine callK_of (h_l2Has hTri hn) ?_
          simp (disch := omega) only [f1, f3, f4, f5, f9, f10, ↓SXd, SXu, slBounds, ↓sop, ↓aop, ↓reduceIte, LV.cells, AOp.dst, LV.I, LV.B, LV.U, LV.S, LV.nil, Nat.reduceEqDiff, Nat.reduceAdd, Nat.reduceMul, Nat.reduceSub, Nat.reduceLeDiff, Nat.reduceBEq, Nat.reduceDiv, Nat.reduceMod, Int.reduceToNat, Int.reduceLT, Int.reduceLE, Int.reduceAdd, Int.reduceSub, Int.reduceMul, Int.reduceEq, Int.reduceNeg, reduceCtorEq, resV, resAll, ARes.ev, LV.flat, ite_true, ite_false, exists_eq_left', exists_eq_left, keyOf, implies_true, fillC, capOf]
          by_cases hcs : (⟨ea, eb, ec⟩ : Cell) ∈ cs
          · simp (disch := omega) only [f1, f3, f4, f5, f9, f10, hcs, ↓SXd, SXu, slBounds, ↓sop, ↓aop, ↓reduceIte, LV.cells, AOp.dst, LV.I, LV.B, LV.U, LV.S, LV.nil, Nat.reduceEqDiff, Nat.reduceAdd, Nat.reduceMul, Nat.reduceSub, Nat.reduceLeDiff, Nat.reduceBEq, Nat.reduceDiv, Nat.reduceMod, Int.reduceToNat, Int.reduceLT, Int.reduceLE, Int.reduceAdd, Int.reduceSub, Int.reduceMul, Int.reduceEq, Int.reduceNeg, reduceCtorEq, resV, resAll, ARes.ev, LV.flat, ite_true, ite_false, exists_eq_left', exists_eq_left, keyOf, implies_true, fillC, capOf]
            exact ⟨m2 - 1, by omega, k + 1, u, s, r, by omega, hnl, hskip (by simp [hcs]), hpre1, c1, cs', c3, c5, cu, hus, hu, hs, f1, f3, f4, f5, f9, eqI (natI _)⟩
          · simp (disch := omega) only [f1, f3, f4, f5, f9, f10, hcs, c3.cells, e0.cells, ↓SXd, SXu, slBounds, ↓sop, ↓aop, ↓reduceIte, LV.cells, AOp.dst, LV.I, LV.B, LV.U, LV.S, LV.nil, Nat.reduceEqDiff, Nat.reduceAdd, Nat.reduceMul, Nat.reduceSub, Nat.reduceLeDiff, Nat.reduceBEq, Nat.reduceDiv, Nat.reduceMod, Int.reduceToNat, Int.reduceLT, Int.reduceLE, Int.reduceAdd, Int.reduceSub, Int.reduceMul, Int.reduceEq, Int.reduceNeg, reduceCtorEq, resV, resAll, ARes.ev, LV.flat, ite_true, ite_false, exists_eq_left', exists_eq_left, keyOf, implies_true, fillC, capOf]
            refine callK_of (h_l2Has cs'.has (by omega)) ?_
            simp (disch := omega) only [f1, f3, f4, f5, f9, f10, ↓SXd, SXu, slBounds, ↓sop, ↓aop, ↓reduceIte, LV.cells, AOp.dst, LV.I, LV.B, LV.U, LV.S, LV.nil, Nat.reduceEqDiff, Nat.reduceAdd, Nat.reduceMul, Nat.reduceSub, Nat.reduceLeDiff, Nat.reduceBEq, Nat.reduceDiv, Nat.reduceMod, Int.reduceToNat, Int.reduceLT, Int.reduceLE, Int.reduceAdd, Int.reduceSub, Int.reduceMul, Int.reduceEq, Int.reduceNeg, reduceCtorEq, resV, resAll, ARes.ev, LV.flat, ite_true, ite_false, exists_eq_left', exists_eq_left, keyOf, implies_true, fillC, capOf]
            rw [hmr]
            by_cases hr : (⟨ea, eb, ec⟩ : Cell) ∈ r
            · simp (disch := omega) only [f1, f3, f4, f5, f9, f10, hr, ↓SXd, SXu, slBounds, ↓sop, ↓aop, ↓reduceIte, LV.cells, AOp.dst, LV.I, LV.B, LV.U, LV.S, LV.nil, Nat.reduceEqDiff, Nat.reduceAdd, Nat.reduceMul, Nat.reduceSub, Nat.reduceLeDiff, Nat.reduceBEq, Nat.reduceDiv, Nat.reduceMod, Int.reduceToNat, Int.reduceLT, Int.reduceLE, Int.reduceAdd, Int.reduceSub, Int.reduceMul, Int.reduceEq, Int.reduceNeg, reduceCtorEq, resV, resAll, ARes.ev, LV.flat, ite_true, ite_false, exists_eq_left', exists_eq_left, keyOf, implies_true, fillC, capOf]
              exact ⟨m2 - 1, by omega, k + 1, u, s, r, by omega, hnl, hskip (by simp [hr]), hpre1, c1, cs', c3, c5, cu, hus, hu, hs, f1, f3, f4, f5, f9, eqI (natI _)⟩
            · simp (disch := omega) only [f1, f3, f4, f5, f9, f10, hr, c3.cells, e0.cells, ↓SXd, SXu, slBounds, ↓sop, ↓aop, ↓reduceIte, LV.cells, AOp.dst, LV.I, LV.B, LV.U, LV.S, LV.nil, Nat.reduceEqDiff, Nat.reduceAdd, Nat.reduceMul, Nat.reduceSub, Nat.reduceLeDiff, Nat.reduceBEq, Nat.reduceDiv, Nat.reduceMod, Int.reduceToNat, Int.reduceLT, Int.reduceLE, Int.reduceAdd, Int.reduceSub, Int.reduceMul, Int.reduceEq, Int.reduceNeg, reduceCtorEq, resV, resAll, ARes.ev, LV.flat, ite_true, ite_false, exists_eq_left', exists_eq_left, keyOf, implies_true, fillC, capOf]
              refine callH_of (h_l2With (c := ⟨ea, eb, ec⟩) cs' (pick_ok hS _) hin) ?_
              intro sn N2 hsn hp2 hsr
              simp (disch := omega) only [f1, f3, f4, f5, f9, f10, ↓SXd, SXu, slBounds, ↓sop, ↓aop, ↓reduceIte, LV.cells, AOp.dst, LV.I, LV.B, LV.U, LV.S, LV.nil, Nat.reduceEqDiff, Nat.reduceAdd, Nat.reduceMul, Nat.reduceSub, Nat.reduceLeDiff, Nat.reduceBEq, Nat.reduceDiv, Nat.reduceMod, Int.reduceToNat, Int.reduceLT, Int.reduceLE, Int.reduceAdd, Int.reduceSub, Int.reduceMul, Int.reduceEq, Int.reduceNeg, reduceCtorEq, resV, resAll, ARes.ev, LV.flat, ite_true, ite_false, exists_eq_left', exists_eq_left, keyOf, implies_true, fillC, capOf]
              refine memK_box (c3.pre hp2) (by simp) fun N3 k1 k2 k3 => ?_
              have hN2 := hp2.1
              have hle0 := e0.lt
              have hlc5 := c5.lt
              have e3 := live_step (e0.pre hp2) (by omega) k3
              have d1 := live_step (c1.pre hp2) (by omega) k3
              have d5 := live_step (c5.pre hp2) (by omega) k3
              have du := live_step (cu.pre hp2) (cu.ne_esz c3 (by decide)) k3
              have ds := live_step hsr (by omega) k3
              have hlsn := hsr.lt
              have hu5 := cu.ne_esz c5 (by decide)
              have hu3 := cu.ne_esz c3 (by decide)
              have hpre3 := pre_step (hpre1.trans hp2) (by omega) (j := 0) k1 k3
              simp (disch := omega) only [f1, f3, f4, f5, f9, f10, e3.cells, splice, ↓SXd, SXu, slBounds, ↓sop, ↓aop, ↓reduceIte, LV.cells, AOp.dst, LV.I, LV.B, LV.U, LV.S, LV.nil, Nat.reduceEqDiff, Nat.reduceAdd, Nat.reduceMul, Nat.reduceSub, Nat.reduceLeDiff, Nat.reduceBEq, Nat.reduceDiv, Nat.reduceMod, Int.reduceToNat, Int.reduceLT, Int.reduceLE, Int.reduceAdd, Int.reduceSub, Int.reduceMul, Int.reduceEq, Int.reduceNeg, reduceCtorEq, resV, resAll, ARes.ev, LV.flat, ite_true, ite_false, exists_eq_left', exists_eq_left, keyOf, implies_true, fillC, capOf]
              refine appendK_cell du (by omega) fun N5 l1 l2 l3 => ?_
              simp (disch := omega) only [f1, f3, f4, f5, f9, f10, ↓SXd, SXu, slBounds, ↓sop, ↓aop, ↓reduceIte, LV.cells, AOp.dst, LV.I, LV.B, LV.U, LV.S, LV.nil, Nat.reduceEqDiff, Nat.reduceAdd, Nat.reduceMul, Nat.reduceSub, Nat.reduceLeDiff, Nat.reduceBEq, Nat.reduceDiv, Nat.reduceMod, Int.reduceToNat, Int.reduceLT, Int.reduceLE, Int.reduceAdd, Int.reduceSub, Int.reduceMul, Int.reduceEq, Int.reduceNeg, reduceCtorEq, resV, resAll, ARes.ev, LV.flat, ite_true, ite_false, exists_eq_left', exists_eq_left, keyOf, implies_true, fillC, capOf]
              have hpe : pick x y z (fun d => decide (d ∈ pick x y z fun d => decide (d ∈ r)) || decide (d = ⟨ea, eb, ec⟩)) = pick x y z fun d => decide (d ∈ r ++ [⟨ea, eb, ec⟩]) := pick_congr hS fun d hd => by
                rw [Bool.eq_iff_iff, Bool.or_eq_true, decide_eq_true_iff, decide_eq_true_iff, decide_eq_true_iff, mem_pick hS, decide_eq_true_iff, List.mem_append, List.mem_singleton]
                exact ⟨fun h => h.elim (fun h => .inl h.2) .inr, fun h => h.elim (fun h => .inl ⟨hd, h⟩) .inr⟩
              rw [hpe] at ds k2
              refine ⟨m2 - 1, by omega, k + 1, N3.length + 1, sn, r ++ [⟨ea, eb, ec⟩], by omega, by simp at hnl ⊢; omega, hout.add hk6 hnl hst hin (decide_eq_false hcs) hr, pre_step hpre3 (by omega) l1 l3, live_step d1 (by omega) l3, live_step ds (by omega) l3, live_step k2 (by omega) l3, live_step d5 (by omega) l3, by rw [← List.append_assoc]; exact l2, by omega, by omega, by omega, f1, f3, by rw [← List.append_assoc]; rfl, f5, f9, eqI (natI _)⟩
        · simp (disch := omega) only [f1, f3, f4, f5, f9, f10, hin, ↓SXd, SXu, slBounds, ↓sop, ↓aop, ↓reduceIte, LV.cells, AOp.dst, LV.I, LV.B, LV.U, LV.S, LV.nil, Nat.reduceEqDiff, Nat.reduceAdd, Nat.reduceMul, Nat.reduceSub, Nat.reduceLeDiff, Nat.reduceBEq, Nat.reduceDiv, Nat.reduceMod, Int.reduceToNat, Int.reduceLT, Int.reduceLE, Int.reduceAdd, Int.reduceSub, Int.reduceMul, Int.reduceEq, Int.reduceNeg, reduceCtorEq, resV, resAll, ARes.ev, LV.flat, ite_true, ite_false, exists_eq_left', exists_eq_left, keyOf, implies_true, fillC, capOf]
          exact ⟨m2 - 1, by omega, k + 1, u, s, r, by omega, hnl, hskip (by simp [hin]), hpre1, c1, cs', c3, c5, cu, hus, hu, hs, f1, f3, f4, f5, f9, eqI (natI _)⟩
      · simp (disch := omega) only [f1, f3, f4, f5, f9, f10, ↓SXd, SXu, slBounds, ↓sop, ↓aop, ↓reduceIte, LV.cells, AOp.dst, LV.I, LV.B, LV.U, LV.S, LV.nil, Nat.reduceEqDiff, Nat.reduceAdd, Nat.reduceMul, Nat.reduceSub, Nat.reduceLeDiff, Nat.reduceBEq, Nat.reduceDiv, Nat.reduceMod, Int.reduceToNat, Int.reduceLT, Int.reduceLE, Int.reduceAdd, Int.reduceSub, Int.reduceMul, Int.reduceEq, Int.reduceNeg, reduceCtorEq, resV, resAll, ARes.ev, LV.flat, ite_true, ite_false, exists_eq_left', exists_eq_left, keyOf, implies_true, fillC, capOf]
        have : k = 6 := by omega
        subst this
        have hrl := nodup_len hS hout.nodup fun d hd => (hout.mem d hd).1
        have hll : (l ++ r).length = l.length + r.length := List.length_append
        exact ⟨m - 1, by omega, n + 1, u, s, r, by omega, by omega, hout.next, hpre, b1, bs, b3, b5, bu, hus, hu, hs, f1, f3, f4, f5, eqI (natI _)⟩
    · have hfin := fun d hd => hout.final (d := d) (by omega) hd
      clear f4 f5 f9
      simp (disch := omega) only [f1, f3, b1.app.cells, ↓SXd, SXu, slBounds, ↓sop, ↓aop, ↓reduceIte, LV.cells, AOp.dst, LV.I, LV.B, LV.U, LV.S, LV.nil, Nat.reduceEqDiff, Nat.reduceAdd, Nat.reduceMul, Nat.reduceSub, Nat.reduceLeDiff, Nat.reduceBEq, Nat.reduceDiv, Nat.reduceMod, Int.reduceToNat, Int.reduceLT, Int.reduceLE, Int.reduceAdd, Int.reduceSub, Int.reduceMul, Int.reduceEq, Int.reduceNeg, reduceCtorEq, resV, resAll, ARes.ev, LV.flat, ite_true, ite_false, exists_eq_left', exists_eq_left, keyOf, implies_true, fillC, capOf]
      have hlN := b5.lt
      refine callN_of (h_l2All hS) ?_
      intro ta N2 hta hp2 har
      have hv := vol_cast hS
      have hcl : (cellsOf x y z).length = vol x y z := by simp [cellsOf]
      simp only [List.length_append, List.length_singleton] at hta
      have hN2 := hp2.1
      simp only [List.length_append, List.length_singleton] at hN2
      simp (disch := omega) only [f1, f3, ↓SXd, SXu, slBounds, ↓sop, ↓aop, ↓reduceIte, LV.cells, AOp.dst, LV.I, LV.B, LV.U, LV.S, LV.nil, Nat.reduceEqDiff, Nat.reduceAdd, Nat.reduceMul, Nat.reduceSub, Nat.reduceLeDiff, Nat.reduceBEq, Nat.reduceDiv, Nat.reduceMod, Int.reduceToNat, Int.reduceLT, Int.reduceLE, Int.reduceAdd, Int.reduceSub, Int.reduceMul, Int.reduceEq, Int.reduceNeg, reduceCtorEq, resV, resAll, ARes.ev, LV.flat, ite_true, ite_false, exists_eq_left', exists_eq_left, keyOf, implies_true, fillC, capOf]
      refine ev_loop (fun m fr N' => ∃ (i uo : Nat) (acc : List Cell), i + m = (cellsOf x y z).length ∧ acc = ((cellsOf x y z).take i).filter (closed x y z fun c => decide (c ∈ cs)) ∧ Pre M N' ∧ Live N' M.length (.row [.I x, .I y, .I z, .ref t 0 cs.length] true 0) ∧
        Live N' s (.row (triL (pick x y z fun d => decide (d ∈ r))) true 3) ∧ Live N' (M.length + 2) (.row [.I x, .I y, .I z, .ref s 0 (pick x y z fun d => decide (d ∈ r)).length] true 0) ∧
        Live N' ta (.row (triL (cellsOf x y z)) true 3) ∧ Live N' uo (.row (triL acc) true 3) ∧ uo ≠ ta ∧ uo ≠ s ∧ M.length ≤ uo ∧ ta < N'.length ∧ s < N'.length ∧
        fr 1 = .ptr M.length 0 ∧ fr 3 = .ptr (M.length + 2) 0 ∧ fr 12 = .ref uo 0 acc.length ∧ fr 13 = .ref ta 0 (cellsOf x y z).length ∧ fr 14 = .I i) (cellsOf x y z).length
        ⟨0, N.length, [], by omega, by simp, (hpre.trans (Pre.app _ _)).trans hp2, b1.app.pre hp2, bs.app.pre hp2, b3.app.pre hp2, har, Live.new.pre hp2, by omega, by have := bs.lt; omega, by omega, har.lt, by have := bs.lt; omega, f1, f3, rfl, rfl, rfl⟩ ?_
      clear f1 f3 hpre b1 bs b3 b5 bu har
      rintro m fr N' ⟨i, uo, acc, hi, hacc, hpre, b1, bs, b3, ba, bo, hne1, hne2, huo, hta', hs', f1, f3, f12, f13, f14⟩
      have hal : acc.length ≤ 64 := by
        have h1 := List.length_filter_le (closed x y z fun c => decide (c ∈ cs)) ((cellsOf x y z).take i)
        have h2 := List.length_take_le i (cellsOf x y z)
        rw [hacc]; omega
      simp (disch := omega) only [f1, f3, f12, f13, f14, ↓SXd, SXu, slBounds, ↓sop, ↓aop, ↓reduceIte, LV.cells, AOp.dst, LV.I, LV.B, LV.U, LV.S, LV.nil, Nat.reduceEqDiff, Nat.reduceAdd, Nat.reduceMul, Nat.reduceSub, Nat.reduceLeDiff, Nat.reduceBEq, Nat.reduceDiv, Nat.reduceMod, Int.reduceToNat, Int.reduceLT, Int.reduceLE, Int.reduceAdd, Int.reduceSub, Int.reduceMul, Int.reduceEq, Int.reduceNeg, reduceCtorEq, resV, resAll, ARes.ev, LV.flat, ite_true, ite_false, exists_eq_left', exists_eq_left, keyOf, implies_true, fillC, capOf]
      refine condC_dec (fun hlt => ?_) (fun hlt => ?_)
      · have hil : i < (cellsOf x y z).length := by omega
        have hcb := (mem_cellsOf hS).1 (getD_mem' (d := default) hil)
        have hci := ba.tri0 hil
        have hts : (cellsOf x y z).take (i + 1) = (cellsOf x y z).take i ++ [(cellsOf x y z).getD i default] := by
          rw [List.take_succ, List.getElem?_eq_getElem hil]; simp [hil]
        have hpl := pick_len hS fun d => decide (d ∈ r)
        have hTri : Tri N' t 0 cs := (h.pre hpre).has
        generalize (cellsOf x y z).getD i default = c at hcb hci hts
        have hmr : decide (c ∈ pick x y z fun d => decide (d ∈ r)) = outer x y z (fun c => decide (c ∈ cs)) c := by
          rw [Bool.eq_iff_iff, decide_eq_true_iff, mem_pick hS, decide_eq_true_iff, ← hfin c hcb]
          exact ⟨fun h => h.2, fun h => ⟨hcb, h⟩⟩
        have hstep : acc ++ (if closed x y z (fun c => decide (c ∈ cs)) c then [c] else []) = ((cellsOf x y z).take (i + 1)).filter (closed x y z fun c => decide (c ∈ cs)) := by
          rw [hts, List.filter_append, ← hacc, List.filter_cons, List.filter_nil]
        simp (disch := omega) only [f1, f3, f12, f13, f14, b1.cells, hci, Cell.row, ↓SXd, SXu, slBounds, ↓sop, ↓aop, ↓reduceIte, LV.cells, AOp.dst, LV.I, LV.B, LV.U, LV.S, LV.nil, Nat.reduceEqDiff, Nat.reduceAdd, Nat.reduceMul, Nat.reduceSub, Nat.reduceLeDiff, Nat.reduceBEq, Nat.reduceDiv, Nat.reduceMod, Int.reduceToNat, Int.reduceLT, Int.reduceLE, Int.reduceAdd, Int.reduceSub, Int.reduceMul, Int.reduceEq, Int.reduceNeg, reduceCtorEq, resV, resAll, ARes.ev, LV.flat, ite_true, ite_false, exists_eq_left', exists_eq_left, keyOf, implies_true, fillC, capOf]
        refine callK_of (h_l2Has hTri hn) ?_
        simp (disch := omega) only [f1, f3, f12, f13, f14, cell_eta, ↓SXd, SXu, slBounds, ↓sop, ↓aop, ↓reduceIte, LV.cells, AOp.dst, LV.I, LV.B, LV.U, LV.S, LV.nil, Nat.reduceEqDiff, Nat.reduceAdd, Nat.reduceMul, Nat.reduceSub, Nat.reduceLeDiff, Nat.reduceBEq, Nat.reduceDiv, Nat.reduceMod, Int.reduceToNat, Int.reduceLT, Int.reduceLE, Int.reduceAdd, Int.reduceSub, Int.reduceMul, Int.reduceEq, Int.reduceNeg, reduceCtorEq, resV, resAll, ARes.ev, LV.flat, ite_true, ite_false, exists_eq_left', exists_eq_left, keyOf, implies_true, fillC, capOf]
        by_cases hc : c ∈ cs
        · simp (disch := omega) only [f1, f3, f12, f13, f14, hc, ↓SXd, SXu, slBounds, ↓sop, ↓aop, ↓reduceIte, LV.cells, AOp.dst, LV.I, LV.B, LV.U, LV.S, LV.nil, Nat.reduceEqDiff, Nat.reduceAdd, Nat.reduceMul, Nat.reduceSub, Nat.reduceLeDiff, Nat.reduceBEq, Nat.reduceDiv, Nat.reduceMod, Int.reduceToNat, Int.reduceLT, Int.reduceLE, Int.reduceAdd, Int.reduceSub, Int.reduceMul, Int.reduceEq, Int.reduceNeg, reduceCtorEq, resV, resAll, ARes.ev, LV.flat, ite_true, ite_false, exists_eq_left', exists_eq_left, keyOf, implies_true, fillC, capOf]
          exact ⟨m - 1, by omega, i + 1, uo, acc, by omega, by rw [← hstep, if_neg (by unfold closed; simp [hc]), List.append_nil], hpre, b1, bs, b3, ba, bo, hne1, hne2, huo, hta', hs', f1, f3, f12, f13, eqI (natI _)⟩
        · simp (disch := omega) only [f1, f3, f12, f13, f14, hc, b3.cells, hci, Cell.row, ↓SXd, SXu, slBounds, ↓sop, ↓aop, ↓reduceIte, LV.cells, AOp.dst, LV.I, LV.B, LV.U, LV.S, LV.nil, Nat.reduceEqDiff, Nat.reduceAdd, Nat.reduceMul, Nat.reduceSub, Nat.reduceLeDiff, Nat.reduceBEq, Nat.reduceDiv, Nat.reduceMod, Int.reduceToNat, Int.reduceLT, Int.reduceLE, Int.reduceAdd, Int.reduceSub, Int.reduceMul, Int.reduceEq, Int.reduceNeg, reduceCtorEq, resV, resAll, ARes.ev, LV.flat, ite_true, ite_false, exists_eq_left', exists_eq_left, keyOf, implies_true, fillC, capOf]
          refine callK_of (h_l2Has bs.has (by omega)) ?_
          simp (disch := omega) only [f1, f3, f12, f13, f14, cell_eta, ↓SXd, SXu, slBounds, ↓sop, ↓aop, ↓reduceIte, LV.cells, AOp.dst, LV.I, LV.B, LV.U, LV.S, LV.nil, Nat.reduceEqDiff, Nat.reduceAdd, Nat.reduceMul, Nat.reduceSub, Nat.reduceLeDiff, Nat.reduceBEq, Nat.reduceDiv, Nat.reduceMod, Int.reduceToNat, Int.reduceLT, Int.reduceLE, Int.reduceAdd, Int.reduceSub, Int.reduceMul, Int.reduceEq, Int.reduceNeg, reduceCtorEq, resV, resAll, ARes.ev, LV.flat, ite_true, ite_false, exists_eq_left', exists_eq_left, keyOf, implies_true, fillC, capOf]
          rw [hmr]
          cases ho : outer x y z (fun c => decide (c ∈ cs)) c with
          | true =>
            simp (disch := omega) only [f1, f3, f12, f13, f14, ho, ↓SXd, SXu, slBounds, ↓sop, ↓aop, ↓reduceIte, LV.cells, AOp.dst, LV.I, LV.B, LV.U, LV.S, LV.nil, Nat.reduceEqDiff, Nat.reduceAdd, Nat.reduceMul, Nat.reduceSub, Nat.reduceLeDiff, Nat.reduceBEq, Nat.reduceDiv, Nat.reduceMod, Int.reduceToNat, Int.reduceLT, Int.reduceLE, Int.reduceAdd, Int.reduceSub, Int.reduceMul, Int.reduceEq, Int.reduceNeg, reduceCtorEq, resV, resAll, ARes.ev, LV.flat, ite_true, ite_false, exists_eq_left', exists_eq_left, keyOf, implies_true, fillC, capOf]
            exact ⟨m - 1, by omega, i + 1, uo, acc, by omega, by rw [← hstep, if_neg (by unfold closed; simp [ho]), List.append_nil], hpre, b1, bs, b3, ba, bo, hne1, hne2, huo, hta', hs', f1, f3, f12, f13, eqI (natI _)⟩
          | false =>
            simp (disch := omega) only [f1, f3, f12, f13, f14, ho, hci, Cell.row, splice, ↓SXd, SXu, slBounds, ↓sop, ↓aop, ↓reduceIte, LV.cells, AOp.dst, LV.I, LV.B, LV.U, LV.S, LV.nil, Nat.reduceEqDiff, Nat.reduceAdd, Nat.reduceMul, Nat.reduceSub, Nat.reduceLeDiff, Nat.reduceBEq, Nat.reduceDiv, Nat.reduceMod, Int.reduceToNat, Int.reduceLT, Int.reduceLE, Int.reduceAdd, Int.reduceSub, Int.reduceMul, Int.reduceEq, Int.reduceNeg, reduceCtorEq, resV, resAll, ARes.ev, LV.flat, ite_true, ite_false, exists_eq_left', exists_eq_left, keyOf, implies_true, fillC, capOf]
            refine appendK_cell bo (by omega) fun N5 l1 l2 l3 => ?_
            simp (disch := omega) only [f1, f3, f12, f13, f14, ↓SXd, SXu, slBounds, ↓sop, ↓aop, ↓reduceIte, LV.cells, AOp.dst, LV.I, LV.B, LV.U, LV.S, LV.nil, Nat.reduceEqDiff, Nat.reduceAdd, Nat.reduceMul, Nat.reduceSub, Nat.reduceLeDiff, Nat.reduceBEq, Nat.reduceDiv, Nat.reduceMod, Int.reduceToNat, Int.reduceLT, Int.reduceLE, Int.reduceAdd, Int.reduceSub, Int.reduceMul, Int.reduceEq, Int.reduceNeg, reduceCtorEq, resV, resAll, ARes.ev, LV.flat, ite_true, ite_false, exists_eq_left', exists_eq_left, keyOf, implies_true, fillC, capOf]
            rw [if_pos (by unfold closed; simp [ho, hc])] at hstep
            rw [cell_eta, hstep] at l2 ⊢
            exact ⟨m - 1, by omega, i + 1, _, _, by omega, rfl, pre_step hpre (by omega) l1 l3, live_step b1 (fun e => by have := b1.ne_esz bo (by decide); exact this e) l3, live_step bs (by omega) l3, live_step b3 (b3.ne_esz bo (by decide)) l3, live_step ba (by omega) l3, l2, by omega, by omega, by have := hpre.1; omega, by omega, by omega, f1, f3, rfl, f13, eqI (natI _)⟩
      · simp (disch := omega) only [f1, f3, f12, f13, f14, ↓SXd, SXu, slBounds, ↓sop, ↓aop, ↓reduceIte, LV.cells, AOp.dst, LV.I, LV.B, LV.U, LV.S, LV.nil, Nat.reduceEqDiff, Nat.reduceAdd, Nat.reduceMul, Nat.reduceSub, Nat.reduceLeDiff, Nat.reduceBEq, Nat.reduceDiv, Nat.reduceMod, Int.reduceToNat, Int.reduceLT, Int.reduceLE, Int.reduceAdd, Int.reduceSub, Int.reduceMul, Int.reduceEq, Int.reduceNeg, reduceCtorEq, resV, resAll, ARes.ev, LV.flat, ite_true, ite_false, exists_eq_left', exists_eq_left, keyOf, implies_true, fillC, capOf]
        have : i = (cellsOf x y z).length := by omega
        subst this
        rw [List.take_length] at hacc
        have : acc = pick x y z (closed x y z fun c => decide (c ∈ cs)) := hacc
        rw [← this]
        exact cmp_keepL hpre (by omega) bo (triL_lo acc) (by simp [rn, rn0, rn1])
end Go.Ab

/- Contracts: the reference's CavitiesOf. -/
namespace Go.Ab
open Go
set_option linter.unusedSimpArgs false
set_option linter.unusedVariables false

theorem h_l6Cavities {x y z : Int} {t : Nat} {w : Bool} {cs : List Cell} {M : Mem} (h : Live M t (.row (triL cs) w 3)) (hH : HeapOK x y z cs) :
    CallsR PG F.spec_l6Cavities [.agg [.I x, .I y, .I z, .ref t 0 cs.length]] M fun v N => (∃ a b c, v = .ref a b c) ∧ SlCC M N v (parts x y z 65 (closed x y z fun c => decide (c ∈ cs))) ∧ Pre M N := by
  have hS := hH.1
  refine callsR_run K.spec_l6Cavities rfl ?_
  simp (disch := omega) only [C.spec_l6Cavities, ↓SXd, SXu, slBounds, ↓sop, ↓aop, ↓reduceIte, LV.cells, AOp.dst, LV.I, LV.B, LV.U, LV.S, LV.nil, Nat.reduceEqDiff, Nat.reduceAdd, Nat.reduceMul, Nat.reduceSub, Nat.reduceLeDiff, Nat.reduceBEq, Nat.reduceDiv, Nat.reduceMod, Int.reduceToNat, Int.reduceLT, Int.reduceLE, Int.reduceAdd, Int.reduceSub, Int.reduceMul, Int.reduceEq, Int.reduceNeg, reduceCtorEq, resV, resAll, ARes.ev, LV.flat, ite_true, ite_false, exists_eq_left', exists_eq_left, keyOf, implies_true, fillC, capOf]
  refine callN_of (h_l6Enclosed h.app hH) ?_
  intro tn N2 htn hp2 hnr
  have e0 : N2[M.length]? = some (some (.row [.I x, .I y, .I z, .ref t 0 cs.length] true 0)) := Live.new.pre hp2
  simp (disch := omega) only [e0, ↓SXd, SXu, slBounds, ↓sop, ↓aop, ↓reduceIte, LV.cells, AOp.dst, LV.I, LV.B, LV.U, LV.S, LV.nil, Nat.reduceEqDiff, Nat.reduceAdd, Nat.reduceMul, Nat.reduceSub, Nat.reduceLeDiff, Nat.reduceBEq, Nat.reduceDiv, Nat.reduceMod, Int.reduceToNat, Int.reduceLT, Int.reduceLE, Int.reduceAdd, Int.reduceSub, Int.reduceMul, Int.reduceEq, Int.reduceNeg, reduceCtorEq, resV, resAll, ARes.ev, LV.flat, ite_true, ite_false, exists_eq_left', exists_eq_left, keyOf, implies_true, fillC, capOf]
  refine callK_of (h_l2Made hnr.lt) ?_
  simp (disch := omega) only [↓SXd, SXu, slBounds, ↓sop, ↓aop, ↓reduceIte, LV.cells, AOp.dst, LV.I, LV.B, LV.U, LV.S, LV.nil, Nat.reduceEqDiff, Nat.reduceAdd, Nat.reduceMul, Nat.reduceSub, Nat.reduceLeDiff, Nat.reduceBEq, Nat.reduceDiv, Nat.reduceMod, Int.reduceToNat, Int.reduceLT, Int.reduceLE, Int.reduceAdd, Int.reduceSub, Int.reduceMul, Int.reduceEq, Int.reduceNeg, reduceCtorEq, resV, resAll, ARes.ev, LV.flat, ite_true, ite_false, exists_eq_left', exists_eq_left, keyOf, implies_true, fillC, capOf]
  refine callR_of (h_l2Parts hnr (pick_ok hS _)) ?_
  rintro _ N3 ⟨u, refs, rfl, hu, hL, hcss, hp3⟩
  simp (disch := omega) only [↓SXd, SXu, slBounds, ↓sop, ↓aop, ↓reduceIte, LV.cells, AOp.dst, LV.I, LV.B, LV.U, LV.S, LV.nil, Nat.reduceEqDiff, Nat.reduceAdd, Nat.reduceMul, Nat.reduceSub, Nat.reduceLeDiff, Nat.reduceBEq, Nat.reduceDiv, Nat.reduceMod, Int.reduceToNat, Int.reduceLT, Int.reduceLE, Int.reduceAdd, Int.reduceSub, Int.reduceMul, Int.reduceEq, Int.reduceNeg, reduceCtorEq, resV, resAll, ARes.ev, LV.flat, ite_true, ite_false, exists_eq_left', exists_eq_left, keyOf, implies_true, fillC, capOf]
  have hlt := hnr.lt
  rw [parts_congr' hS (q := closed x y z fun c => decide (c ∈ cs)) fun d hd => by
    rw [Bool.eq_iff_iff, decide_eq_true_iff, mem_pick hS]; exact ⟨fun h => h.2, fun h => ⟨hd, h⟩⟩] at hcss
  have hN := hp2.1
  simp only [List.length_append, List.length_singleton] at hN
  exact ⟨⟨_, _, _, rfl⟩, SlCC.of (by omega) (by omega) hL hcss, ((Pre.app _ _).trans hp2).trans hp3⟩

end Go.Ab

/- The abstract code of some functions (written by a program of mine from the translation, by way of prepF). -/
namespace Go.Ab.C
open Go.Ab
end Go.Ab.C

/- That the program has this code. -/
namespace Go.Ab.K
open Go Go.Ab
end Go.Ab.K

/- Contracts: shadows of sets, the program's side. -/
namespace Go.Ab
open Go
set_option linter.unusedSimpArgs false
set_option linter.unusedVariables false
set_option maxRecDepth 20000

theorem keepL_pr {M N : Mem} (h : Pre M N) (ks : List Nat) : KeepL ks M N = True := by
  simp only [eq_iff_iff, iff_true]
  intro k _ b hb
  rw [h.2 k (by
    rcases Nat.lt_or_ge k M.length with h1 | h1
    · exact h1
    · rw [List.getElem?_eq_none h1] at hb; cases hb)]
  exact hb
def onesTo (k : Nat) (v : List Int) : List Int := onesL (v.take k) ++ v.drop k
end Go.Ab

/- Contracts: TunnelsOf, both sides. -/
namespace Go.Ab
open Go
set_option linter.unusedSimpArgs false
set_option linter.unusedVariables false
set_option maxRecDepth 20000

noncomputable def tunB (x y z : Int) (cs : List Cell) : Bool := @decide (HeapOK x y z cs) (Classical.propDecidable _)
noncomputable def tunN (x y z : Int) (cs : List Cell) : Int := if tunB x y z cs = true then ((clus x y z 65 fun c => decide (c ∈ cs)).length : Int) + (parts x y z 65 (closed x y z fun c => decide (c ∈ cs))).length - eulerOf x y z cs else 0
theorem euler_bound {x y z : Int} {cs : List Cell} (hS : Sides x y z) : -2000 ≤ eulerOf x y z cs ∧ eulerOf x y z cs ≤ 2000 := by
  have hc := counts_four (cs := cs) hS
  have q0 := hc.2 0 (by omega)
  have q1 := hc.2 1 (by omega)
  have q2 := hc.2 2 (by omega)
  have q3 := hc.2 3 (by omega)
  unfold eulerOf
  omega

theorem g_TunnelsOf {x y z : Int} {t o : Nat} {cs : List Cell} {M : Mem} (h : Tri M t o cs) (hn : cs.length ≤ 1000000000) :
    CallsTo PG F.impl_TunnelsOf [.agg [.I x, .I y, .I z, .ref t o cs.length]] M (.tup [.I (tunN x y z cs), .B (tunB x y z cs)]) M := by
  refine calls_run K.impl_TunnelsOf rfl ?_
  simp (disch := omega) only [C.impl_TunnelsOf, ↓SXd, SXu, slBounds, ↓sop, ↓aop, ↓reduceIte, LV.cells, AOp.dst, LV.I, LV.B, LV.U, LV.S, LV.nil, Nat.reduceEqDiff, Nat.reduceAdd, Nat.reduceMul, Nat.reduceSub, Nat.reduceLeDiff, Nat.reduceBEq, Nat.reduceDiv, Nat.reduceMod, Int.reduceToNat, Int.reduceLT, Int.reduceLE, Int.reduceAdd, Int.reduceSub, Int.reduceMul, Int.reduceEq, Int.reduceNeg, reduceCtorEq, resV, resAll, ARes.ev, LV.flat, ite_true, ite_false, exists_eq_left', exists_eq_left, keyOf, implies_true, fillC, capOf]
  refine callK_of (g_IsHeap h.app hn) ?_
  simp (disch := omega) only [↓SXd, SXu, slBounds, ↓sop, ↓aop, ↓reduceIte, LV.cells, AOp.dst, LV.I, LV.B, LV.U, LV.S, LV.nil, Nat.reduceEqDiff, Nat.reduceAdd, Nat.reduceMul, Nat.reduceSub, Nat.reduceLeDiff, Nat.reduceBEq, Nat.reduceDiv, Nat.reduceMod, Int.reduceToNat, Int.reduceLT, Int.reduceLE, Int.reduceAdd, Int.reduceSub, Int.reduceMul, Int.reduceEq, Int.reduceNeg, reduceCtorEq, resV, resAll, ARes.ev, LV.flat, ite_true, ite_false, exists_eq_left', exists_eq_left, keyOf, implies_true, fillC, capOf]
  by_cases hH : HeapOK x y z cs
  · have hb : tunB x y z cs = true := decide_eq_true hH
    have hN : tunN x y z cs = ((clus x y z 65 fun c => decide (c ∈ cs)).length : Int) + (parts x y z 65 (closed x y z fun c => decide (c ∈ cs))).length - eulerOf x y z cs := if_pos hb
    rw [hb, hN]
    have hS := hH.1
    have e1 := euler_bound (cs := cs) hS
    have l1 := clus_len (x := x) (y := y) (z := z) 65 fun c => decide (c ∈ cs)
    have l2 := parts_len (x := x) (y := y) (z := z) 65 (closed x y z fun c => decide (c ∈ cs))
    simp (disch := omega) only [hH, ↓SXd, SXu, slBounds, ↓sop, ↓aop, ↓reduceIte, LV.cells, AOp.dst, LV.I, LV.B, LV.U, LV.S, LV.nil, Nat.reduceEqDiff, Nat.reduceAdd, Nat.reduceMul, Nat.reduceSub, Nat.reduceLeDiff, Nat.reduceBEq, Nat.reduceDiv, Nat.reduceMod, Int.reduceToNat, Int.reduceLT, Int.reduceLE, Int.reduceAdd, Int.reduceSub, Int.reduceMul, Int.reduceEq, Int.reduceNeg, reduceCtorEq, resV, resAll, ARes.ev, LV.flat, ite_true, ite_false, exists_eq_left', exists_eq_left, keyOf, implies_true, fillC, capOf]
    refine callK_of (g_clusters hS h.app hn (fun c hc => hH.mem hc)) ?_
    simp (disch := omega) only [↓SXd, SXu, slBounds, ↓sop, ↓aop, ↓reduceIte, LV.cells, AOp.dst, LV.I, LV.B, LV.U, LV.S, LV.nil, Nat.reduceEqDiff, Nat.reduceAdd, Nat.reduceMul, Nat.reduceSub, Nat.reduceLeDiff, Nat.reduceBEq, Nat.reduceDiv, Nat.reduceMod, Int.reduceToNat, Int.reduceLT, Int.reduceLE, Int.reduceAdd, Int.reduceSub, Int.reduceMul, Int.reduceEq, Int.reduceNeg, reduceCtorEq, resV, resAll, ARes.ev, LV.flat, ite_true, ite_false, exists_eq_left', exists_eq_left, keyOf, implies_true, fillC, capOf]
    refine callK_of (g_cavities h.app hn hH) ?_
    simp (disch := omega) only [↓SXd, SXu, slBounds, ↓sop, ↓aop, ↓reduceIte, LV.cells, AOp.dst, LV.I, LV.B, LV.U, LV.S, LV.nil, Nat.reduceEqDiff, Nat.reduceAdd, Nat.reduceMul, Nat.reduceSub, Nat.reduceLeDiff, Nat.reduceBEq, Nat.reduceDiv, Nat.reduceMod, Int.reduceToNat, Int.reduceLT, Int.reduceLE, Int.reduceAdd, Int.reduceSub, Int.reduceMul, Int.reduceEq, Int.reduceNeg, reduceCtorEq, resV, resAll, ARes.ev, LV.flat, ite_true, ite_false, exists_eq_left', exists_eq_left, keyOf, implies_true, fillC, capOf]
    refine callK_of (g_euler h.app hH) ?_
    simp (disch := omega) only [↓SXd, SXu, slBounds, ↓sop, ↓aop, ↓reduceIte, LV.cells, AOp.dst, LV.I, LV.B, LV.U, LV.S, LV.nil, Nat.reduceEqDiff, Nat.reduceAdd, Nat.reduceMul, Nat.reduceSub, Nat.reduceLeDiff, Nat.reduceBEq, Nat.reduceDiv, Nat.reduceMod, Int.reduceToNat, Int.reduceLT, Int.reduceLE, Int.reduceAdd, Int.reduceSub, Int.reduceMul, Int.reduceEq, Int.reduceNeg, reduceCtorEq, resV, resAll, ARes.ev, LV.flat, ite_true, ite_false, exists_eq_left', exists_eq_left, keyOf, implies_true, fillC, capOf]
    exact cmp_pre (Pre.app _ _) rfl
  · have hb : tunB x y z cs = false := decide_eq_false hH
    have hN : tunN x y z cs = 0 := if_neg (by rw [hb]; simp)
    rw [hb, hN]
    simp (disch := omega) only [hH, ↓SXd, SXu, slBounds, ↓sop, ↓aop, ↓reduceIte, LV.cells, AOp.dst, LV.I, LV.B, LV.U, LV.S, LV.nil, Nat.reduceEqDiff, Nat.reduceAdd, Nat.reduceMul, Nat.reduceSub, Nat.reduceLeDiff, Nat.reduceBEq, Nat.reduceDiv, Nat.reduceMod, Int.reduceToNat, Int.reduceLT, Int.reduceLE, Int.reduceAdd, Int.reduceSub, Int.reduceMul, Int.reduceEq, Int.reduceNeg, reduceCtorEq, resV, resAll, ARes.ev, LV.flat, ite_true, ite_false, exists_eq_left', exists_eq_left, keyOf, implies_true, fillC, capOf]
    exact cmp_drop rfl

theorem g_TunnelsOfL {x y z : Int} {t : Nat} {w : Bool} {cs : List Cell} {M : Mem} (h : Live M t (.row (triL cs) w 3)) (hn : cs.length ≤ 1000000000) :
    CallsTo PG F.impl_TunnelsOf [.agg [.I x, .I y, .I z, .ref t 0 cs.length]] M (.tup [.I (tunN x y z cs), .B (tunB x y z cs)]) M := g_TunnelsOf h.has hn

theorem h_sTunnelsOf {x y z : Int} {t : Nat} {w : Bool} {cs : List Cell} {M : Mem} (h : Live M t (.row (triL cs) w 3)) (hn : cs.length ≤ 1000000000) :
    CallsTo PG F.spec_TunnelsOf [.agg [.I x, .I y, .I z, .ref t 0 cs.length]] M (.tup [.I (tunN x y z cs), .B (tunB x y z cs)]) M := by
  refine calls_run K.spec_TunnelsOf rfl ?_
  simp (disch := omega) only [C.spec_TunnelsOf, ↓SXd, SXu, slBounds, ↓sop, ↓aop, ↓reduceIte, LV.cells, AOp.dst, LV.I, LV.B, LV.U, LV.S, LV.nil, Nat.reduceEqDiff, Nat.reduceAdd, Nat.reduceMul, Nat.reduceSub, Nat.reduceLeDiff, Nat.reduceBEq, Nat.reduceDiv, Nat.reduceMod, Int.reduceToNat, Int.reduceLT, Int.reduceLE, Int.reduceAdd, Int.reduceSub, Int.reduceMul, Int.reduceEq, Int.reduceNeg, reduceCtorEq, resV, resAll, ARes.ev, LV.flat, ite_true, ite_false, exists_eq_left', exists_eq_left, keyOf, implies_true, fillC, capOf]
  refine callK_of (h_l2Heap (Has.app h.has) hn) ?_
  simp (disch := omega) only [↓SXd, SXu, slBounds, ↓sop, ↓aop, ↓reduceIte, LV.cells, AOp.dst, LV.I, LV.B, LV.U, LV.S, LV.nil, Nat.reduceEqDiff, Nat.reduceAdd, Nat.reduceMul, Nat.reduceSub, Nat.reduceLeDiff, Nat.reduceBEq, Nat.reduceDiv, Nat.reduceMod, Int.reduceToNat, Int.reduceLT, Int.reduceLE, Int.reduceAdd, Int.reduceSub, Int.reduceMul, Int.reduceEq, Int.reduceNeg, reduceCtorEq, resV, resAll, ARes.ev, LV.flat, ite_true, ite_false, exists_eq_left', exists_eq_left, keyOf, implies_true, fillC, capOf]
  by_cases hH : HeapOK x y z cs
  · have hb : tunB x y z cs = true := decide_eq_true hH
    have hN : tunN x y z cs = ((clus x y z 65 fun c => decide (c ∈ cs)).length : Int) + (parts x y z 65 (closed x y z fun c => decide (c ∈ cs))).length - eulerOf x y z cs := if_pos hb
    rw [hb, hN]
    have hS := hH.1
    have e1 := euler_bound (cs := cs) hS
    have l1 := clus_len (x := x) (y := y) (z := z) 65 fun c => decide (c ∈ cs)
    have l2 := parts_len (x := x) (y := y) (z := z) 65 (closed x y z fun c => decide (c ∈ cs))
    simp (disch := omega) only [hH, ↓SXd, SXu, slBounds, ↓sop, ↓aop, ↓reduceIte, LV.cells, AOp.dst, LV.I, LV.B, LV.U, LV.S, LV.nil, Nat.reduceEqDiff, Nat.reduceAdd, Nat.reduceMul, Nat.reduceSub, Nat.reduceLeDiff, Nat.reduceBEq, Nat.reduceDiv, Nat.reduceMod, Int.reduceToNat, Int.reduceLT, Int.reduceLE, Int.reduceAdd, Int.reduceSub, Int.reduceMul, Int.reduceEq, Int.reduceNeg, reduceCtorEq, resV, resAll, ARes.ev, LV.flat, ite_true, ite_false, exists_eq_left', exists_eq_left, keyOf, implies_true, fillC, capOf]
    refine callR_of (h_l6Clusters h.app hH) ?_
    rintro _ N ⟨u, refs, rfl, hu, hL, hcss, hp⟩
    have hlr := hcss.len
    have hpx := (Pre.app M [some (.row [.I x, .I y, .I z, .ref t 0 cs.length] true 0)]).trans hp
    simp (disch := omega) only [(keepL_pr hp), ↓SXd, SXu, slBounds, ↓sop, ↓aop, ↓reduceIte, LV.cells, AOp.dst, LV.I, LV.B, LV.U, LV.S, LV.nil, Nat.reduceEqDiff, Nat.reduceAdd, Nat.reduceMul, Nat.reduceSub, Nat.reduceLeDiff, Nat.reduceBEq, Nat.reduceDiv, Nat.reduceMod, Int.reduceToNat, Int.reduceLT, Int.reduceLE, Int.reduceAdd, Int.reduceSub, Int.reduceMul, Int.reduceEq, Int.reduceNeg, reduceCtorEq, resV, resAll, ARes.ev, LV.flat, ite_true, ite_false, exists_eq_left', exists_eq_left, keyOf, implies_true, fillC, capOf]
    refine callR_of (h_l6Cavities (h.pre hpx) hH) ?_
    rintro v N2 ⟨⟨va, vb, vc, rfl⟩, hsl, hp2⟩
    have hvc : (vc : Int) = ((parts x y z 65 (closed x y z fun c => decide (c ∈ cs))).length : Nat) := by
      have := hsl.v.lenV
      simp only [lenV, Option.some.injEq] at this
      exact this
    simp (disch := omega) only [(keepL_pr hp2), ↓SXd, SXu, slBounds, ↓sop, ↓aop, ↓reduceIte, LV.cells, AOp.dst, LV.I, LV.B, LV.U, LV.S, LV.nil, Nat.reduceEqDiff, Nat.reduceAdd, Nat.reduceMul, Nat.reduceSub, Nat.reduceLeDiff, Nat.reduceBEq, Nat.reduceDiv, Nat.reduceMod, Int.reduceToNat, Int.reduceLT, Int.reduceLE, Int.reduceAdd, Int.reduceSub, Int.reduceMul, Int.reduceEq, Int.reduceNeg, reduceCtorEq, resV, resAll, ARes.ev, LV.flat, ite_true, ite_false, exists_eq_left', exists_eq_left, keyOf, implies_true, fillC, capOf]
    refine callK_of (h_l6Euler ((h.pre hpx).pre hp2).has hH) ?_
    simp (disch := omega) only [↓SXd, SXu, slBounds, ↓sop, ↓aop, ↓reduceIte, LV.cells, AOp.dst, LV.I, LV.B, LV.U, LV.S, LV.nil, Nat.reduceEqDiff, Nat.reduceAdd, Nat.reduceMul, Nat.reduceSub, Nat.reduceLeDiff, Nat.reduceBEq, Nat.reduceDiv, Nat.reduceMod, Int.reduceToNat, Int.reduceLT, Int.reduceLE, Int.reduceAdd, Int.reduceSub, Int.reduceMul, Int.reduceEq, Int.reduceNeg, reduceCtorEq, resV, resAll, ARes.ev, LV.flat, ite_true, ite_false, exists_eq_left', exists_eq_left, keyOf, implies_true, fillC, capOf]
    rw [hlr, hvc]
    exact cmp_pre (hpx.trans hp2) rfl
  · have hb : tunB x y z cs = false := decide_eq_false hH
    have hN : tunN x y z cs = 0 := if_neg (by rw [hb]; simp)
    rw [hb, hN]
    simp (disch := omega) only [hH, ↓SXd, SXu, slBounds, ↓sop, ↓aop, ↓reduceIte, LV.cells, AOp.dst, LV.I, LV.B, LV.U, LV.S, LV.nil, Nat.reduceEqDiff, Nat.reduceAdd, Nat.reduceMul, Nat.reduceSub, Nat.reduceLeDiff, Nat.reduceBEq, Nat.reduceDiv, Nat.reduceMod, Int.reduceToNat, Int.reduceLT, Int.reduceLE, Int.reduceAdd, Int.reduceSub, Int.reduceMul, Int.reduceEq, Int.reduceNeg, reduceCtorEq, resV, resAll, ARes.ev, LV.flat, ite_true, ite_false, exists_eq_left', exists_eq_left, keyOf, implies_true, fillC, capOf]
    exact cmp_drop rfl
end Go.Ab

/- The law of TunnelsOf. -/
namespace Go.Ab
open Go
set_option linter.unusedSimpArgs false
set_option linter.unusedVariables false
set_option maxRecDepth 20000

theorem l_TunnelsOf {x y z : Int} {t o : Nat} {cs : List Cell} {M : Mem} (h : Tri M t o cs) (hn0 : cs.length ≤ 9223372036854775807) :
    CallsR PG F.laws_FnExactTunnelsOf [.agg [.I x, .I y, .I z, .ref t o cs.length]] M fun v _ => v = .B true := by
  have ht := h.lt
  refine callsR_run K.laws_FnExactTunnelsOf rfl ?_
  simp (disch := omega) only [C.laws_FnExactTunnelsOf, ↓SXd, SXu, slBounds, ↓sop, ↓aop, ↓reduceIte, LV.cells, AOp.dst, LV.I, LV.B, LV.U, LV.S, LV.nil, Nat.reduceEqDiff, Nat.reduceAdd, Nat.reduceMul, Nat.reduceSub, Nat.reduceLeDiff, Nat.reduceBEq, Nat.reduceDiv, Nat.reduceMod, Int.reduceToNat, Int.reduceLT, Int.reduceLE, Int.reduceAdd, Int.reduceSub, Int.reduceMul, Int.reduceEq, Int.reduceNeg, reduceCtorEq, resV, resAll, ARes.ev, LV.flat, ite_true, ite_false, exists_eq_left', exists_eq_left, keyOf, implies_true, fillC, capOf]
  refine callK_of (h_szHeap (by omega) (by omega) (by omega)) ?_
  simp (disch := omega) only [↓SXd, SXu, slBounds, ↓sop, ↓aop, ↓reduceIte, LV.cells, AOp.dst, LV.I, LV.B, LV.U, LV.S, LV.nil, Nat.reduceEqDiff, Nat.reduceAdd, Nat.reduceMul, Nat.reduceSub, Nat.reduceLeDiff, Nat.reduceBEq, Nat.reduceDiv, Nat.reduceMod, Int.reduceToNat, Int.reduceLT, Int.reduceLE, Int.reduceAdd, Int.reduceSub, Int.reduceMul, Int.reduceEq, Int.reduceNeg, reduceCtorEq, resV, resAll, ARes.ev, LV.flat, ite_true, ite_false, exists_eq_left', exists_eq_left, keyOf, implies_true, fillC, capOf]
  by_cases hl : (1048576 : Int) < (cs.length : Nat)
  · rw [if_pos hl]
    simp (disch := omega) only [Int.reduceLT, ↓SXd, SXu, slBounds, ↓sop, ↓aop, ↓reduceIte, LV.cells, AOp.dst, LV.I, LV.B, LV.U, LV.S, LV.nil, Nat.reduceEqDiff, Nat.reduceAdd, Nat.reduceMul, Nat.reduceSub, Nat.reduceLeDiff, Nat.reduceBEq, Nat.reduceDiv, Nat.reduceMod, Int.reduceToNat, Int.reduceLT, Int.reduceLE, Int.reduceAdd, Int.reduceSub, Int.reduceMul, Int.reduceEq, Int.reduceNeg, reduceCtorEq, resV, resAll, ARes.ev, LV.flat, ite_true, ite_false, exists_eq_left', exists_eq_left, keyOf, implies_true, fillC, capOf]
    rfl
  · rw [if_neg hl]
    have hn : cs.length ≤ 1000000000 := by omega
    simp (disch := omega) only [↓SXd, SXu, slBounds, ↓sop, ↓aop, ↓reduceIte, LV.cells, AOp.dst, LV.I, LV.B, LV.U, LV.S, LV.nil, Nat.reduceEqDiff, Nat.reduceAdd, Nat.reduceMul, Nat.reduceSub, Nat.reduceLeDiff, Nat.reduceBEq, Nat.reduceDiv, Nat.reduceMod, Int.reduceToNat, Int.reduceLT, Int.reduceLE, Int.reduceAdd, Int.reduceSub, Int.reduceMul, Int.reduceEq, Int.reduceNeg, reduceCtorEq, resV, resAll, ARes.ev, LV.flat, ite_true, ite_false, exists_eq_left', exists_eq_left, keyOf, implies_true, fillC, capOf]
    refine callK_of (h_toHeap h.app hn) ?_
    simp (disch := omega) only [↓SXd, SXu, slBounds, ↓sop, ↓aop, ↓reduceIte, LV.cells, AOp.dst, LV.I, LV.B, LV.U, LV.S, LV.nil, Nat.reduceEqDiff, Nat.reduceAdd, Nat.reduceMul, Nat.reduceSub, Nat.reduceLeDiff, Nat.reduceBEq, Nat.reduceDiv, Nat.reduceMod, Int.reduceToNat, Int.reduceLT, Int.reduceLE, Int.reduceAdd, Int.reduceSub, Int.reduceMul, Int.reduceEq, Int.reduceNeg, reduceCtorEq, resV, resAll, ARes.ev, LV.flat, ite_true, ite_false, exists_eq_left', exists_eq_left, keyOf, implies_true, fillC, capOf]
    refine callK_of (h_sTunnelsOf (Live.newj (j := 1) (b := .row (triL cs) true 3) rfl) hn) ?_
    simp (disch := omega) only [↓SXd, SXu, slBounds, ↓sop, ↓aop, ↓reduceIte, LV.cells, AOp.dst, LV.I, LV.B, LV.U, LV.S, LV.nil, Nat.reduceEqDiff, Nat.reduceAdd, Nat.reduceMul, Nat.reduceSub, Nat.reduceLeDiff, Nat.reduceBEq, Nat.reduceDiv, Nat.reduceMod, Int.reduceToNat, Int.reduceLT, Int.reduceLE, Int.reduceAdd, Int.reduceSub, Int.reduceMul, Int.reduceEq, Int.reduceNeg, reduceCtorEq, resV, resAll, ARes.ev, LV.flat, ite_true, ite_false, exists_eq_left', exists_eq_left, keyOf, implies_true, fillC, capOf]
    refine callK_of (h_toHeap h.app hn) ?_
    simp (disch := omega) only [↓SXd, SXu, slBounds, ↓sop, ↓aop, ↓reduceIte, LV.cells, AOp.dst, LV.I, LV.B, LV.U, LV.S, LV.nil, Nat.reduceEqDiff, Nat.reduceAdd, Nat.reduceMul, Nat.reduceSub, Nat.reduceLeDiff, Nat.reduceBEq, Nat.reduceDiv, Nat.reduceMod, Int.reduceToNat, Int.reduceLT, Int.reduceLE, Int.reduceAdd, Int.reduceSub, Int.reduceMul, Int.reduceEq, Int.reduceNeg, reduceCtorEq, resV, resAll, ARes.ev, LV.flat, ite_true, ite_false, exists_eq_left', exists_eq_left, keyOf, implies_true, fillC, capOf]
    refine callK_of (g_TunnelsOfL (Live.newj (j := 2) (b := .row (triL cs) true 3) rfl) hn) ?_
    simp (disch := omega) only [↓SXd, SXu, slBounds, ↓sop, ↓aop, ↓reduceIte, LV.cells, AOp.dst, LV.I, LV.B, LV.U, LV.S, LV.nil, Nat.reduceEqDiff, Nat.reduceAdd, Nat.reduceMul, Nat.reduceSub, Nat.reduceLeDiff, Nat.reduceBEq, Nat.reduceDiv, Nat.reduceMod, Int.reduceToNat, Int.reduceLT, Int.reduceLE, Int.reduceAdd, Int.reduceSub, Int.reduceMul, Int.reduceEq, Int.reduceNeg, reduceCtorEq, resV, resAll, ARes.ev, LV.flat, ite_true, ite_false, exists_eq_left', exists_eq_left, keyOf, implies_true, fillC, capOf]
    refine callK_of (h_toHeap h.app hn) ?_
    simp (disch := omega) only [↓SXd, SXu, slBounds, ↓sop, ↓aop, ↓reduceIte, LV.cells, AOp.dst, LV.I, LV.B, LV.U, LV.S, LV.nil, Nat.reduceEqDiff, Nat.reduceAdd, Nat.reduceMul, Nat.reduceSub, Nat.reduceLeDiff, Nat.reduceBEq, Nat.reduceDiv, Nat.reduceMod, Int.reduceToNat, Int.reduceLT, Int.reduceLE, Int.reduceAdd, Int.reduceSub, Int.reduceMul, Int.reduceEq, Int.reduceNeg, reduceCtorEq, resV, resAll, ARes.ev, LV.flat, ite_true, ite_false, exists_eq_left', exists_eq_left, keyOf, implies_true, fillC, capOf]
    have he := h_eqHeap (x := x) (y := y) (z := z) (x' := x) (y' := y) (z' := z) (cs := cs) (ds := cs) (t := M.length + 2) (o := 0) (t' := M.length + 4) (o' := 0) (M := M ++ [some (.row [.I x, .I y, .I z, .ref t o cs.length] true 0), some (.row (triL cs) true 3), some (.row (triL cs) true 3), some (.row [.I x, .I y, .I z, .ref (M.length + 2) 0 cs.length] true 0), some (.row (triL cs) true 3)])
      (Live.newj (j := 2) rfl).has (Live.newj (j := 4) rfl).has hn hn
    rw [decide_eq_true (by simp)] at he
    refine callK_of he ?_
    simp (disch := omega) only [↓SXd, SXu, slBounds, ↓sop, ↓aop, ↓reduceIte, LV.cells, AOp.dst, LV.I, LV.B, LV.U, LV.S, LV.nil, Nat.reduceEqDiff, Nat.reduceAdd, Nat.reduceMul, Nat.reduceSub, Nat.reduceLeDiff, Nat.reduceBEq, Nat.reduceDiv, Nat.reduceMod, Int.reduceToNat, Int.reduceLT, Int.reduceLE, Int.reduceAdd, Int.reduceSub, Int.reduceMul, Int.reduceEq, Int.reduceNeg, reduceCtorEq, resV, resAll, ARes.ev, LV.flat, ite_true, ite_false, exists_eq_left', exists_eq_left, keyOf, implies_true, fillC, capOf]
    rfl
end Go.Ab
