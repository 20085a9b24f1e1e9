/- Parts of the proof of FnDominoesSaid: Oa Ob Nd Oc Od Uf C_Vb K_Vb Vb Ha Hg C_Ji K_Ji Sg C_Hi K_Hi C_Hh K_Hh C_He K_He C_Hd K_Hd C_Hc K_Hc C_Hb K_Hb C_Yd K_Yd C_Yc K_Yc C_Yb K_Yb Ra Rb Rc Rd C_Tc K_Tc C_Tb K_Tb Ge Ta Tb Tc C_Td K_Td Td Yb Yc Bi Yd C_Uh K_Uh C_Ug K_Ug Ug. -/
import Derived.Test.YtggnfklcgopflaaA5
import Derived.Test.YtggnfklcgopflaaA4
import Derived.Test.YtggnfklcgopflaaA3
import Derived.Test.YtggnfklcgopflaaProg
import Derived.KernelRfl
import Derived.Test.YtggnfklcgopflaaA2
import Derived.Below
import Derived.Lib.SmallJoins
import Derived.Deep.Slices
import Derived.Laws.IdiomArrays
import Derived.ChangeSlices
set_option linter.all false
/- Contracts: the reference's heaps. -/
namespace Go.Ab
open Go
set_option linter.unusedSimpArgs false
set_option linter.unusedVariables false

theorem h_l2Empty {x y z : Int} {M : Mem} : CallsTo PG F.spec_l2Empty [.I x, .I y, .I z] M (.agg [.I x, .I y, .I z, .ref M.length 0 0]) (M ++ [some (.row [] true 3)]) := by
  refine calls_run K.spec_l2Empty rfl ?_
  simp (disch := omega) only [C.spec_l2Empty, splice, ↓SXd, SXu, slBounds, ↓sop, ↓aop, ↓reduceIte, LV.cells, AOp.dst, LV.I, LV.B, LV.U, LV.S, LV.nil, Nat.reduceEqDiff, Nat.reduceAdd, Nat.reduceMul, Nat.reduceSub, Nat.reduceLeDiff, Nat.reduceBEq, Nat.reduceDiv, Nat.reduceMod, Int.reduceToNat, Int.reduceLT, Int.reduceLE, Int.reduceAdd, Int.reduceSub, Int.reduceMul, Int.reduceEq, Int.reduceNeg, reduceCtorEq, resV, resAll, ARes.ev, LV.flat, ite_true, ite_false, exists_eq_left', exists_eq_left, keyOf, implies_true, fillC, capOf]
  exact cmp_keep1 (j := 1) rfl rfl (by simp [rn, rn0, rn1, keepR_n])

theorem h_l2Made {x y z : Int} {v : LV} {t o n : Nat} {M : Mem} (ht : t < M.length) : CallsTo PG F.spec_l2Made [.agg [.I x, .I y, .I z, v], .ref t o n] M (.agg [.I x, .I y, .I z, .ref t o n]) M := by
  refine calls_run K.spec_l2Made rfl ?_
  simp (disch := omega) only [C.spec_l2Made, splice, ↓SXd, SXu, slBounds, ↓sop, ↓aop, ↓reduceIte, LV.cells, AOp.dst, LV.I, LV.B, LV.U, LV.S, LV.nil, Nat.reduceEqDiff, Nat.reduceAdd, Nat.reduceMul, Nat.reduceSub, Nat.reduceLeDiff, Nat.reduceBEq, Nat.reduceDiv, Nat.reduceMod, Int.reduceToNat, Int.reduceLT, Int.reduceLE, Int.reduceAdd, Int.reduceSub, Int.reduceMul, Int.reduceEq, Int.reduceNeg, reduceCtorEq, resV, resAll, ARes.ev, LV.flat, ite_true, ite_false, exists_eq_left', exists_eq_left, keyOf, implies_true, fillC, capOf]
  exact cmp_drop (by simp [LV.lo, LV.lo1, ht])

theorem h_l2Has {x y z a b c : Int} {t o : Nat} {cs : List Cell} {M : Mem} (h : Tri M t o cs) (hn : cs.length ≤ 1000000000) :
    CallsTo PG F.spec_l2Has [.agg [.I x, .I y, .I z, .ref t o cs.length], .agg [.I a, .I b, .I c]] M (.B (decide ((⟨a, b, c⟩ : Cell) ∈ cs))) M := by
  refine calls_run K.spec_l2Has rfl ?_
  simp (disch := omega) only [C.spec_l2Has, ↓SXd, SXu, slBounds, ↓sop, ↓aop, ↓reduceIte, LV.cells, AOp.dst, LV.I, LV.B, LV.U, LV.S, LV.nil, Nat.reduceEqDiff, Nat.reduceAdd, Nat.reduceMul, Nat.reduceSub, Nat.reduceLeDiff, Nat.reduceBEq, Nat.reduceDiv, Nat.reduceMod, Int.reduceToNat, Int.reduceLT, Int.reduceLE, Int.reduceAdd, Int.reduceSub, Int.reduceMul, Int.reduceEq, Int.reduceNeg, reduceCtorEq, resV, resAll, ARes.ev, LV.flat, ite_true, ite_false, exists_eq_left', exists_eq_left, keyOf, implies_true, fillC, capOf]
  refine ev_loop (fun m fr M' => ∃ k : Nat, k + m = cs.length ∧ M' = M ++ [some (Blk.row [.I x, .I y, .I z, .ref t o cs.length] true 0), some (Blk.row [.I a, .I b, .I c] true 0)] ∧ fr 2 = .ptr M.length 0 ∧ fr 3 = .ptr (M.length + 1) 0 ∧ fr 5 = .I k ∧ (⟨a, b, c⟩ : Cell) ∉ cs.take k) cs.length
    ⟨0, by omega, rfl, rfl, rfl, rfl, by simp⟩ ?_
  rintro m fr M' ⟨k, hk, rfl, f2, f3, f5, hno⟩
  have ht := h.lt
  simp (disch := omega) only [f2, f3, f5, ↓SXd, SXu, slBounds, ↓sop, ↓aop, ↓reduceIte, LV.cells, AOp.dst, LV.I, LV.B, LV.U, LV.S, LV.nil, Nat.reduceEqDiff, Nat.reduceAdd, Nat.reduceMul, Nat.reduceSub, Nat.reduceLeDiff, Nat.reduceBEq, Nat.reduceDiv, Nat.reduceMod, Int.reduceToNat, Int.reduceLT, Int.reduceLE, Int.reduceAdd, Int.reduceSub, Int.reduceMul, Int.reduceEq, Int.reduceNeg, reduceCtorEq, resV, resAll, ARes.ev, LV.flat, ite_true, ite_false, exists_eq_left', exists_eq_left, keyOf, implies_true, fillC, capOf]
  refine condC_dec (fun hlt => ?_) (fun hlt => ?_)
  · have hkl : k < cs.length := by omega
    have htd := take_dec (cs := cs) (k := k) (c := ⟨a, b, c⟩) hkl
    rw [decide_eq_false hno, Bool.false_or] at htd
    simp (disch := omega) only [f2, f3, f5, getCells_app, (Tri.get h (k := k) (by omega)), Cell.row, eqV, eqC, if_true, ite_true, Bool.and_true, ↓SXd, SXu, slBounds, ↓sop, ↓aop, ↓reduceIte, LV.cells, AOp.dst, LV.I, LV.B, LV.U, LV.S, LV.nil, Nat.reduceEqDiff, Nat.reduceAdd, Nat.reduceMul, Nat.reduceSub, Nat.reduceLeDiff, Nat.reduceBEq, Nat.reduceDiv, Nat.reduceMod, Int.reduceToNat, Int.reduceLT, Int.reduceLE, Int.reduceAdd, Int.reduceSub, Int.reduceMul, Int.reduceEq, Int.reduceNeg, reduceCtorEq, resV, resAll, ARes.ev, LV.flat, ite_true, ite_false, exists_eq_left', exists_eq_left, keyOf, implies_true, fillC, capOf]
    by_cases he : (⟨a, b, c⟩ : Cell) = cs.getD k default
    · obtain ⟨e1, e2, e3⟩ := cell_eq.1 he
      simp only at e1 e2 e3
      simp (disch := omega) only [f2, f3, f5, ← e1, ← e2, ← e3, Bool.and_self, ↓SXd, SXu, slBounds, ↓sop, ↓aop, ↓reduceIte, LV.cells, AOp.dst, LV.I, LV.B, LV.U, LV.S, LV.nil, Nat.reduceEqDiff, Nat.reduceAdd, Nat.reduceMul, Nat.reduceSub, Nat.reduceLeDiff, Nat.reduceBEq, Nat.reduceDiv, Nat.reduceMod, Int.reduceToNat, Int.reduceLT, Int.reduceLE, Int.reduceAdd, Int.reduceSub, Int.reduceMul, Int.reduceEq, Int.reduceNeg, reduceCtorEq, resV, resAll, ARes.ev, LV.flat, ite_true, ite_false, exists_eq_left', exists_eq_left, keyOf, implies_true, fillC, capOf]
      exact cmp_dropT (List.mem_of_mem_take (of_decide_eq_true (htd ▸ decide_eq_true he)))
    · rw [decide_eq_false he] at htd
      have hf : ((cs.getD k default).a == a && ((cs.getD k default).b == b && (cs.getD k default).c == c)) = false := by
        rw [Bool.eq_false_iff]
        intro e
        simp only [Bool.and_eq_true, beq_iff_eq] at e
        exact he (cell_eq.2 ⟨e.1.symm, e.2.1.symm, e.2.2.symm⟩)
      simp (disch := omega) only [f2, f3, f5, hf, ↓SXd, SXu, slBounds, ↓sop, ↓aop, ↓reduceIte, LV.cells, AOp.dst, LV.I, LV.B, LV.U, LV.S, LV.nil, Nat.reduceEqDiff, Nat.reduceAdd, Nat.reduceMul, Nat.reduceSub, Nat.reduceLeDiff, Nat.reduceBEq, Nat.reduceDiv, Nat.reduceMod, Int.reduceToNat, Int.reduceLT, Int.reduceLE, Int.reduceAdd, Int.reduceSub, Int.reduceMul, Int.reduceEq, Int.reduceNeg, reduceCtorEq, resV, resAll, ARes.ev, LV.flat, ite_true, ite_false, exists_eq_left', exists_eq_left, keyOf, implies_true, fillC, capOf]
      exact ⟨m - 1, by omega, k + 1, by omega, rfl, f2, f3, eqI (natI _), of_decide_eq_false htd.symm⟩
  · simp (disch := omega) only [f2, f3, f5, ↓SXd, SXu, slBounds, ↓sop, ↓aop, ↓reduceIte, LV.cells, AOp.dst, LV.I, LV.B, LV.U, LV.S, LV.nil, Nat.reduceEqDiff, Nat.reduceAdd, Nat.reduceMul, Nat.reduceSub, Nat.reduceLeDiff, Nat.reduceBEq, Nat.reduceDiv, Nat.reduceMod, Int.reduceToNat, Int.reduceLT, Int.reduceLE, Int.reduceAdd, Int.reduceSub, Int.reduceMul, Int.reduceEq, Int.reduceNeg, reduceCtorEq, resV, resAll, ARes.ev, LV.flat, ite_true, ite_false, exists_eq_left', exists_eq_left, keyOf, implies_true, fillC, capOf]
    have : k = cs.length := by omega
    subst this
    rw [List.take_length] at hno
    exact cmp_dropF hno

theorem h_l2All {x y z : Int} {v : LV} {M : Mem} (hS : Sides x y z) : CallsTo PG F.spec_l2All [.agg [.I x, .I y, .I z, v]] M (.ref M.length 0 (cellsOf x y z).length) (M ++ [some (.row (triL (cellsOf x y z)) true 3)]) := by
  obtain ⟨hx, hy, hz⟩ := id hS
  have hv := vol_cast hS
  have hlen : (cellsOf x y z).length = vol x y z := by simp [cellsOf]
  refine calls_run K.spec_l2All rfl ?_
  simp (disch := omega) only [C.spec_l2All, ↓SXd, SXu, slBounds, ↓sop, ↓aop, ↓reduceIte, LV.cells, AOp.dst, LV.I, LV.B, LV.U, LV.S, LV.nil, Nat.reduceEqDiff, Nat.reduceAdd, Nat.reduceMul, Nat.reduceSub, Nat.reduceLeDiff, Nat.reduceBEq, Nat.reduceDiv, Nat.reduceMod, Int.reduceToNat, Int.reduceLT, Int.reduceLE, Int.reduceAdd, Int.reduceSub, Int.reduceMul, Int.reduceEq, Int.reduceNeg, reduceCtorEq, resV, resAll, ARes.ev, LV.flat, ite_true, ite_false, exists_eq_left', exists_eq_left, keyOf, implies_true, fillC, capOf]
  refine ev_loop (fun m fr M' => ∃ (a u : Nat) (acc : List Cell), (a : Int) + m = x ∧ acc = (cellsOf x y z).take (idx y z ⟨a, 0, 0⟩).toNat ∧ Pre M M' ∧ Live M' M.length (.row [.I x, .I y, .I z, v] true 0) ∧ M.length + 1 ≤ u ∧ Live M' u (.row (triL acc) true 3) ∧
    fr 1 = .ptr M.length 0 ∧ fr 3 = .ref u 0 acc.length ∧ fr 4 = .I a) x.toNat
    ⟨0, M.length + 1, [], by omega, by simp [idx], Pre.app _ _, Live.new, by omega, Live.newj rfl, rfl, rfl, rfl⟩ ?_
  rintro m fr M' ⟨a, u, acc, ha, hacc, hpre, hbox, hu, hout, f1, f3, f4⟩
  simp (disch := omega) only [f1, f3, f4, hbox.cell, ↓SXd, SXu, slBounds, ↓sop, ↓aop, ↓reduceIte, LV.cells, AOp.dst, LV.I, LV.B, LV.U, LV.S, LV.nil, Nat.reduceEqDiff, Nat.reduceAdd, Nat.reduceMul, Nat.reduceSub, Nat.reduceLeDiff, Nat.reduceBEq, Nat.reduceDiv, Nat.reduceMod, Int.reduceToNat, Int.reduceLT, Int.reduceLE, Int.reduceAdd, Int.reduceSub, Int.reduceMul, Int.reduceEq, Int.reduceNeg, reduceCtorEq, resV, resAll, ARes.ev, LV.flat, ite_true, ite_false, exists_eq_left', exists_eq_left, keyOf, implies_true, fillC, capOf]
  refine condC_dec (fun hlt => ?_) (fun hlt => ?_)
  rotate_left
  · simp (disch := omega) only [f1, f3, f4, ↓SXd, SXu, slBounds, ↓sop, ↓aop, ↓reduceIte, LV.cells, AOp.dst, LV.I, LV.B, LV.U, LV.S, LV.nil, Nat.reduceEqDiff, Nat.reduceAdd, Nat.reduceMul, Nat.reduceSub, Nat.reduceLeDiff, Nat.reduceBEq, Nat.reduceDiv, Nat.reduceMod, Int.reduceToNat, Int.reduceLT, Int.reduceLE, Int.reduceAdd, Int.reduceSub, Int.reduceMul, Int.reduceEq, Int.reduceNeg, reduceCtorEq, resV, resAll, ARes.ev, LV.flat, ite_true, ite_false, exists_eq_left', exists_eq_left, keyOf, implies_true, fillC, capOf]
    have hax : (a : Int) = x := by omega
    have e : cellsOf x y z = acc := by
      rw [hacc, hax, List.take_of_length_le]
      unfold idx
      simp only [Int.add_zero]
      rw [hlen]; unfold vol; omega
    rw [e]
    exact cmp_keepL hpre (by omega) hout (triL_lo acc) (by simp [rn, rn0, rn1])
  · simp (disch := omega) only [f1, f3, f4, ↓SXd, SXu, slBounds, ↓sop, ↓aop, ↓reduceIte, LV.cells, AOp.dst, LV.I, LV.B, LV.U, LV.S, LV.nil, Nat.reduceEqDiff, Nat.reduceAdd, Nat.reduceMul, Nat.reduceSub, Nat.reduceLeDiff, Nat.reduceBEq, Nat.reduceDiv, Nat.reduceMod, Int.reduceToNat, Int.reduceLT, Int.reduceLE, Int.reduceAdd, Int.reduceSub, Int.reduceMul, Int.reduceEq, Int.reduceNeg, reduceCtorEq, resV, resAll, ARes.ev, LV.flat, ite_true, ite_false, exists_eq_left', exists_eq_left, keyOf, implies_true, fillC, capOf]
    refine ev_loop (fun m2 fr N => ∃ (b u : Nat) (acc : List Cell), (b : Int) + m2 = y ∧ acc = (cellsOf x y z).take (idx y z ⟨a, b, 0⟩).toNat ∧ Pre M N ∧ Live N M.length (.row [.I x, .I y, .I z, v] true 0) ∧ M.length + 1 ≤ u ∧ Live N u (.row (triL acc) true 3) ∧
      fr 1 = .ptr M.length 0 ∧ fr 3 = .ref u 0 acc.length ∧ fr 4 = .I a ∧ fr 5 = .I b) y.toNat
      ⟨0, u, acc, by omega, hacc, hpre, hbox, hu, hout, f1, f3, f4, rfl⟩ ?_
    clear f1 f3 f4 hpre hbox hu hout hacc
    rintro m2 fr N ⟨b, u, acc, hb, hacc, hpre, hbox, hu, hout, f1, f3, f4, f5⟩
    simp (disch := omega) only [f1, f3, f4, f5, hbox.cell, ↓SXd, SXu, slBounds, ↓sop, ↓aop, ↓reduceIte, LV.cells, AOp.dst, LV.I, LV.B, LV.U, LV.S, LV.nil, Nat.reduceEqDiff, Nat.reduceAdd, Nat.reduceMul, Nat.reduceSub, Nat.reduceLeDiff, Nat.reduceBEq, Nat.reduceDiv, Nat.reduceMod, Int.reduceToNat, Int.reduceLT, Int.reduceLE, Int.reduceAdd, Int.reduceSub, Int.reduceMul, Int.reduceEq, Int.reduceNeg, reduceCtorEq, resV, resAll, ARes.ev, LV.flat, ite_true, ite_false, exists_eq_left', exists_eq_left, keyOf, implies_true, fillC, capOf]
    refine condC_dec (fun hlt2 => ?_) (fun hlt2 => ?_)
    rotate_left
    · simp (disch := omega) only [f1, f3, f4, f5, ↓SXd, SXu, slBounds, ↓sop, ↓aop, ↓reduceIte, LV.cells, AOp.dst, LV.I, LV.B, LV.U, LV.S, LV.nil, Nat.reduceEqDiff, Nat.reduceAdd, Nat.reduceMul, Nat.reduceSub, Nat.reduceLeDiff, Nat.reduceBEq, Nat.reduceDiv, Nat.reduceMod, Int.reduceToNat, Int.reduceLT, Int.reduceLE, Int.reduceAdd, Int.reduceSub, Int.reduceMul, Int.reduceEq, Int.reduceNeg, reduceCtorEq, resV, resAll, ARes.ev, LV.flat, ite_true, ite_false, exists_eq_left', exists_eq_left, keyOf, implies_true, fillC, capOf]
      have hby : (b : Int) = y := by omega
      refine ⟨m - 1, by omega, a + 1, u, acc, by omega, ?_, hpre, hbox, hu, hout, f1, f3, eqI (natI _)⟩
      rw [hacc, hby]
      unfold idx
      simp only [Int.natCast_add, Int.natCast_one, Int.add_mul, Int.one_mul, Int.add_zero]
    · simp (disch := omega) only [f1, f3, f4, f5, ↓SXd, SXu, slBounds, ↓sop, ↓aop, ↓reduceIte, LV.cells, AOp.dst, LV.I, LV.B, LV.U, LV.S, LV.nil, Nat.reduceEqDiff, Nat.reduceAdd, Nat.reduceMul, Nat.reduceSub, Nat.reduceLeDiff, Nat.reduceBEq, Nat.reduceDiv, Nat.reduceMod, Int.reduceToNat, Int.reduceLT, Int.reduceLE, Int.reduceAdd, Int.reduceSub, Int.reduceMul, Int.reduceEq, Int.reduceNeg, reduceCtorEq, resV, resAll, ARes.ev, LV.flat, ite_true, ite_false, exists_eq_left', exists_eq_left, keyOf, implies_true, fillC, capOf]
      refine ev_loop (fun m3 fr N => ∃ (c u : Nat) (acc : List Cell), (c : Int) + m3 = z ∧ acc = (cellsOf x y z).take (idx y z ⟨a, b, c⟩).toNat ∧ Pre M N ∧ Live N M.length (.row [.I x, .I y, .I z, v] true 0) ∧ M.length + 1 ≤ u ∧ Live N u (.row (triL acc) true 3) ∧
        fr 1 = .ptr M.length 0 ∧ fr 3 = .ref u 0 acc.length ∧ fr 4 = .I a ∧ fr 5 = .I b ∧ fr 6 = .I c) z.toNat
        ⟨0, u, acc, by omega, hacc, hpre, hbox, hu, hout, f1, f3, f4, f5, rfl⟩ ?_
      clear f1 f3 f4 f5 hpre hbox hu hout hacc
      rintro m3 fr N ⟨c, u, acc, hc, hacc, hpre, hbox, hu, hout, f1, f3, f4, f5, f6⟩
      simp (disch := omega) only [f1, f3, f4, f5, f6, hbox.cell, ↓SXd, SXu, slBounds, ↓sop, ↓aop, ↓reduceIte, LV.cells, AOp.dst, LV.I, LV.B, LV.U, LV.S, LV.nil, Nat.reduceEqDiff, Nat.reduceAdd, Nat.reduceMul, Nat.reduceSub, Nat.reduceLeDiff, Nat.reduceBEq, Nat.reduceDiv, Nat.reduceMod, Int.reduceToNat, Int.reduceLT, Int.reduceLE, Int.reduceAdd, Int.reduceSub, Int.reduceMul, Int.reduceEq, Int.reduceNeg, reduceCtorEq, resV, resAll, ARes.ev, LV.flat, ite_true, ite_false, exists_eq_left', exists_eq_left, keyOf, implies_true, fillC, capOf]
      refine condC_dec (fun hlt3 => ?_) (fun hlt3 => ?_)
      rotate_left
      · simp (disch := omega) only [f1, f3, f4, f5, f6, ↓SXd, SXu, slBounds, ↓sop, ↓aop, ↓reduceIte, LV.cells, AOp.dst, LV.I, LV.B, LV.U, LV.S, LV.nil, Nat.reduceEqDiff, Nat.reduceAdd, Nat.reduceMul, Nat.reduceSub, Nat.reduceLeDiff, Nat.reduceBEq, Nat.reduceDiv, Nat.reduceMod, Int.reduceToNat, Int.reduceLT, Int.reduceLE, Int.reduceAdd, Int.reduceSub, Int.reduceMul, Int.reduceEq, Int.reduceNeg, reduceCtorEq, resV, resAll, ARes.ev, LV.flat, ite_true, ite_false, exists_eq_left', exists_eq_left, keyOf, implies_true, fillC, capOf]
        have hcz : (c : Int) = z := by omega
        refine ⟨m2 - 1, by omega, b + 1, u, acc, by omega, ?_, hpre, hbox, hu, hout, f1, f3, f4, eqI (natI _)⟩
        rw [hacc, hcz]
        unfold idx
        simp only [Int.natCast_add, Int.natCast_one, Int.add_mul, Int.one_mul, Int.add_zero, Int.add_assoc]
      · have hin : (⟨a, b, c⟩ : Cell).inBox x y z := ⟨⟨by simp only; omega, by simp only; omega⟩, ⟨by simp only; omega, by simp only; omega⟩, ⟨by simp only; omega, by simp only; omega⟩⟩
        obtain ⟨i1, i2, i3⟩ := idx_in hS hin
        have hal : acc.length ≤ 64 := by
          have := List.length_take_le (idx y z ⟨a, b, c⟩).toNat (cellsOf x y z)
          rw [hacc]; omega
        simp (disch := omega) only [f1, f3, f4, f5, f6, splice, ↓SXd, SXu, slBounds, ↓sop, ↓aop, ↓reduceIte, LV.cells, AOp.dst, LV.I, LV.B, LV.U, LV.S, LV.nil, Nat.reduceEqDiff, Nat.reduceAdd, Nat.reduceMul, Nat.reduceSub, Nat.reduceLeDiff, Nat.reduceBEq, Nat.reduceDiv, Nat.reduceMod, Int.reduceToNat, Int.reduceLT, Int.reduceLE, Int.reduceAdd, Int.reduceSub, Int.reduceMul, Int.reduceEq, Int.reduceNeg, reduceCtorEq, resV, resAll, ARes.ev, LV.flat, ite_true, ite_false, exists_eq_left', exists_eq_left, keyOf, implies_true, fillC, capOf]
        refine appendK_cell hout (by omega) fun N' l1 l2 l3 => ?_
        simp (disch := omega) only [f1, f3, f4, f5, f6, ↓SXd, SXu, slBounds, ↓sop, ↓aop, ↓reduceIte, LV.cells, AOp.dst, LV.I, LV.B, LV.U, LV.S, LV.nil, Nat.reduceEqDiff, Nat.reduceAdd, Nat.reduceMul, Nat.reduceSub, Nat.reduceLeDiff, Nat.reduceBEq, Nat.reduceDiv, Nat.reduceMod, Int.reduceToNat, Int.reduceLT, Int.reduceLE, Int.reduceAdd, Int.reduceSub, Int.reduceMul, Int.reduceEq, Int.reduceNeg, reduceCtorEq, resV, resAll, ARes.ev, LV.flat, ite_true, ite_false, exists_eq_left', exists_eq_left, keyOf, implies_true, fillC, capOf]
        refine ⟨m3 - 1, by omega, c + 1, _, acc ++ [⟨a, b, c⟩], by omega, ?_, pre_step hpre (by omega) l1 l3, live_step hbox (by omega) l3, by have := hpre.1; omega, l2, f1, rfl, f4, f5, eqI (natI _)⟩
        have e1 : (idx y z ⟨a, b, ((c + 1 : Nat) : Int)⟩).toNat = (idx y z ⟨a, b, c⟩).toNat + 1 := by unfold idx at i1 ⊢; simp only at i1 ⊢; omega
        have hlt' : (idx y z ⟨a, b, c⟩).toNat < (cellsOf x y z).length := by omega
        rw [e1, List.take_succ, ← hacc, List.getElem?_eq_getElem hlt']
        congr 1
        simp only [Option.toList, cellsOf, List.getElem_map, List.getElem_range]
        rw [Int.toNat_of_nonneg i1, i3]

theorem h_l2Near {x y z : Int} {c : Cell} {t o : Nat} {cs : List Cell} {M : Mem} (h : Tri M t o cs) (hn : cs.length ≤ 1000000000) (hin : ∀ d ∈ cs, d.inBox 4 4 4) (hc : c.inBox 4 4 4) :
    CallsTo PG F.spec_l2Near [.agg [.I x, .I y, .I z, .ref t o cs.length], .agg [.I c.a, .I c.b, .I c.c]] M (.ref M.length 0 (cs.filter fun d => decide (apart d c = 1)).length) (M ++ [some (.row (triL (cs.filter fun d => decide (apart d c = 1))) true 3)]) := by
  obtain ⟨c1, c2, c3⟩ := hc
  refine calls_run K.spec_l2Near rfl ?_
  simp (disch := omega) only [C.spec_l2Near, ↓SXd, SXu, slBounds, ↓sop, ↓aop, ↓reduceIte, LV.cells, AOp.dst, LV.I, LV.B, LV.U, LV.S, LV.nil, Nat.reduceEqDiff, Nat.reduceAdd, Nat.reduceMul, Nat.reduceSub, Nat.reduceLeDiff, Nat.reduceBEq, Nat.reduceDiv, Nat.reduceMod, Int.reduceToNat, Int.reduceLT, Int.reduceLE, Int.reduceAdd, Int.reduceSub, Int.reduceMul, Int.reduceEq, Int.reduceNeg, reduceCtorEq, resV, resAll, ARes.ev, LV.flat, ite_true, ite_false, exists_eq_left', exists_eq_left, keyOf, implies_true, fillC, capOf]
  refine ev_loop (fun m fr M' => ∃ (k u : Nat) (acc : List Cell), k + m = cs.length ∧ acc = (cs.take k).filter (fun d => decide (apart d c = 1)) ∧ Pre M M' ∧ Live M' M.length (.row [.I x, .I y, .I z, .ref t o cs.length] true 0) ∧ Live M' (M.length + 1) (.row [.I c.a, .I c.b, .I c.c] true 0) ∧ M.length + 2 ≤ u ∧ Live M' u (.row (triL acc) true 3) ∧
    fr 2 = .ptr M.length 0 ∧ fr 3 = .ptr (M.length + 1) 0 ∧ fr 5 = .ref u 0 acc.length ∧ fr 6 = .I k) cs.length
    ⟨0, M.length + 2, [], by omega, rfl, Pre.app _ _, Live.new, Live.newj rfl, by omega, Live.newj rfl, rfl, rfl, rfl, rfl⟩ ?_
  rintro m fr M' ⟨k, u, acc, hk, hacc, hpre, hbox, hcell, hu, hout, f2, f3, f5, f6⟩
  have ht := h.pre hpre
  have hal : acc.length ≤ 1000000000 := by
    have h1 := List.length_filter_le (fun d => decide (apart d c = 1)) (cs.take k)
    have h2 := List.length_take_le k cs
    rw [hacc]; omega
  simp (disch := omega) only [f2, f3, f5, f6, hbox.cell, ↓SXd, SXu, slBounds, ↓sop, ↓aop, ↓reduceIte, LV.cells, AOp.dst, LV.I, LV.B, LV.U, LV.S, LV.nil, Nat.reduceEqDiff, Nat.reduceAdd, Nat.reduceMul, Nat.reduceSub, Nat.reduceLeDiff, Nat.reduceBEq, Nat.reduceDiv, Nat.reduceMod, Int.reduceToNat, Int.reduceLT, Int.reduceLE, Int.reduceAdd, Int.reduceSub, Int.reduceMul, Int.reduceEq, Int.reduceNeg, reduceCtorEq, resV, resAll, ARes.ev, LV.flat, ite_true, ite_false, exists_eq_left', exists_eq_left, keyOf, implies_true, fillC, capOf]
  refine condC_dec (fun hlt => ?_) (fun hlt => ?_)
  · have hkl : k < cs.length := by omega
    obtain ⟨d1, d2, d3⟩ := hin (cs.getD k default) (getD_mem' hkl)
    have hts : cs.take (k + 1) = cs.take k ++ [cs.getD k default] := by
      rw [List.take_succ, List.getElem?_eq_getElem hkl]; simp [hkl]
    simp (disch := omega) only [f2, f3, f5, f6, hbox.cell, hcell.cells, (Tri.get ht (k := k) (by omega)), Cell.row, ↓SXd, SXu, slBounds, ↓sop, ↓aop, ↓reduceIte, LV.cells, AOp.dst, LV.I, LV.B, LV.U, LV.S, LV.nil, Nat.reduceEqDiff, Nat.reduceAdd, Nat.reduceMul, Nat.reduceSub, Nat.reduceLeDiff, Nat.reduceBEq, Nat.reduceDiv, Nat.reduceMod, Int.reduceToNat, Int.reduceLT, Int.reduceLE, Int.reduceAdd, Int.reduceSub, Int.reduceMul, Int.reduceEq, Int.reduceNeg, reduceCtorEq, resV, resAll, ARes.ev, LV.flat, ite_true, ite_false, exists_eq_left', exists_eq_left, keyOf, implies_true, fillC, capOf]
    refine callK_of (h_l2Apart (by omega) (by omega) (by omega) (by omega) (by omega) (by omega)) ?_
    simp (disch := omega) only [f2, f3, f5, f6, cell_eta, ↓SXd, SXu, slBounds, ↓sop, ↓aop, ↓reduceIte, LV.cells, AOp.dst, LV.I, LV.B, LV.U, LV.S, LV.nil, Nat.reduceEqDiff, Nat.reduceAdd, Nat.reduceMul, Nat.reduceSub, Nat.reduceLeDiff, Nat.reduceBEq, Nat.reduceDiv, Nat.reduceMod, Int.reduceToNat, Int.reduceLT, Int.reduceLE, Int.reduceAdd, Int.reduceSub, Int.reduceMul, Int.reduceEq, Int.reduceNeg, reduceCtorEq, resV, resAll, ARes.ev, LV.flat, ite_true, ite_false, exists_eq_left', exists_eq_left, keyOf, implies_true, fillC, capOf]
    refine condC_dec (fun he => ?_) (fun he => ?_)
    · simp (disch := omega) only [f2, f3, f5, f6, hbox.cell, (Tri.get ht (k := k) (by omega)), Cell.row, splice, ↓SXd, SXu, slBounds, ↓sop, ↓aop, ↓reduceIte, LV.cells, AOp.dst, LV.I, LV.B, LV.U, LV.S, LV.nil, Nat.reduceEqDiff, Nat.reduceAdd, Nat.reduceMul, Nat.reduceSub, Nat.reduceLeDiff, Nat.reduceBEq, Nat.reduceDiv, Nat.reduceMod, Int.reduceToNat, Int.reduceLT, Int.reduceLE, Int.reduceAdd, Int.reduceSub, Int.reduceMul, Int.reduceEq, Int.reduceNeg, reduceCtorEq, resV, resAll, ARes.ev, LV.flat, ite_true, ite_false, exists_eq_left', exists_eq_left, keyOf, implies_true, fillC, capOf]
      refine appendK_cell hout hal fun N' l1 l2 l3 => ?_
      simp (disch := omega) only [f2, f3, f5, f6, ↓SXd, SXu, slBounds, ↓sop, ↓aop, ↓reduceIte, LV.cells, AOp.dst, LV.I, LV.B, LV.U, LV.S, LV.nil, Nat.reduceEqDiff, Nat.reduceAdd, Nat.reduceMul, Nat.reduceSub, Nat.reduceLeDiff, Nat.reduceBEq, Nat.reduceDiv, Nat.reduceMod, Int.reduceToNat, Int.reduceLT, Int.reduceLE, Int.reduceAdd, Int.reduceSub, Int.reduceMul, Int.reduceEq, Int.reduceNeg, reduceCtorEq, resV, resAll, ARes.ev, LV.flat, ite_true, ite_false, exists_eq_left', exists_eq_left, keyOf, implies_true, fillC, capOf]
      refine ⟨m - 1, by omega, k + 1, _, _, by omega, ?_, pre_step hpre (by omega) l1 l3, live_step hbox (by omega) l3, live_step hcell (by omega) l3, by have := hcell.lt; omega, l2, f2, f3, rfl, eqI (natI _)⟩
      rw [hts, List.filter_append, ← hacc, List.filter_cons_of_pos (by simpa using he)]; rfl
    · simp (disch := omega) only [f2, f3, f5, f6, ↓SXd, SXu, slBounds, ↓sop, ↓aop, ↓reduceIte, LV.cells, AOp.dst, LV.I, LV.B, LV.U, LV.S, LV.nil, Nat.reduceEqDiff, Nat.reduceAdd, Nat.reduceMul, Nat.reduceSub, Nat.reduceLeDiff, Nat.reduceBEq, Nat.reduceDiv, Nat.reduceMod, Int.reduceToNat, Int.reduceLT, Int.reduceLE, Int.reduceAdd, Int.reduceSub, Int.reduceMul, Int.reduceEq, Int.reduceNeg, reduceCtorEq, resV, resAll, ARes.ev, LV.flat, ite_true, ite_false, exists_eq_left', exists_eq_left, keyOf, implies_true, fillC, capOf]
      refine ⟨m - 1, by omega, k + 1, u, acc, by omega, ?_, hpre, hbox, hcell, hu, hout, f2, f3, f5, eqI (natI _)⟩
      rw [hts, List.filter_append, ← hacc, List.filter_cons_of_neg (by simpa using he)]; simp
  · simp (disch := omega) only [f2, f3, f5, f6, ↓SXd, SXu, slBounds, ↓sop, ↓aop, ↓reduceIte, LV.cells, AOp.dst, LV.I, LV.B, LV.U, LV.S, LV.nil, Nat.reduceEqDiff, Nat.reduceAdd, Nat.reduceMul, Nat.reduceSub, Nat.reduceLeDiff, Nat.reduceBEq, Nat.reduceDiv, Nat.reduceMod, Int.reduceToNat, Int.reduceLT, Int.reduceLE, Int.reduceAdd, Int.reduceSub, Int.reduceMul, Int.reduceEq, Int.reduceNeg, reduceCtorEq, resV, resAll, ARes.ev, LV.flat, ite_true, ite_false, exists_eq_left', exists_eq_left, keyOf, implies_true, fillC, capOf]
    have : k = cs.length := by omega
    subst this
    rw [List.take_length] at hacc
    rw [← hacc]
    exact cmp_keepL hpre (by omega) hout (triL_lo acc) (by simp [rn, rn0, rn1])

theorem h_l2Without {x y z a b c : Int} {t o : Nat} {cs : List Cell} {M : Mem} (h : Tri M t o cs) (hn : cs.length ≤ 1000000000) :
    CallsTo PG F.spec_l2Without [.agg [.I x, .I y, .I z, .ref t o cs.length], .agg [.I a, .I b, .I c]] M (.agg [.I x, .I y, .I z, .ref M.length 0 (cs.filter fun d => !decide (d = ⟨a, b, c⟩)).length]) (M ++ [some (.row (triL (cs.filter fun d => !decide (d = ⟨a, b, c⟩))) true 3)]) := by
  refine calls_run K.spec_l2Without rfl ?_
  simp (disch := omega) only [C.spec_l2Without, ↓SXd, SXu, slBounds, ↓sop, ↓aop, ↓reduceIte, LV.cells, AOp.dst, LV.I, LV.B, LV.U, LV.S, LV.nil, Nat.reduceEqDiff, Nat.reduceAdd, Nat.reduceMul, Nat.reduceSub, Nat.reduceLeDiff, Nat.reduceBEq, Nat.reduceDiv, Nat.reduceMod, Int.reduceToNat, Int.reduceLT, Int.reduceLE, Int.reduceAdd, Int.reduceSub, Int.reduceMul, Int.reduceEq, Int.reduceNeg, reduceCtorEq, resV, resAll, ARes.ev, LV.flat, ite_true, ite_false, exists_eq_left', exists_eq_left, keyOf, implies_true, fillC, capOf]
  refine callK_of (h_l2Empty) ?_
  simp (disch := omega) only [splice, ↓SXd, SXu, slBounds, ↓sop, ↓aop, ↓reduceIte, LV.cells, AOp.dst, LV.I, LV.B, LV.U, LV.S, LV.nil, Nat.reduceEqDiff, Nat.reduceAdd, Nat.reduceMul, Nat.reduceSub, Nat.reduceLeDiff, Nat.reduceBEq, Nat.reduceDiv, Nat.reduceMod, Int.reduceToNat, Int.reduceLT, Int.reduceLE, Int.reduceAdd, Int.reduceSub, Int.reduceMul, Int.reduceEq, Int.reduceNeg, reduceCtorEq, resV, resAll, ARes.ev, LV.flat, ite_true, ite_false, exists_eq_left', exists_eq_left, keyOf, implies_true, fillC, capOf]
  refine ev_loop (fun m fr M' => ∃ (k u : Nat) (acc : List Cell), k + m = cs.length ∧ acc = (cs.take k).filter (fun d => !decide (d = ⟨a, b, c⟩)) ∧ Pre M M' ∧ Live M' M.length (.row [.I x, .I y, .I z, .ref t o cs.length] true 0) ∧ Live M' (M.length + 1) (.row [.I a, .I b, .I c] true 0) ∧
    Live M' (M.length + 4) (.row [.I x, .I y, .I z, .ref u 0 acc.length] true 0) ∧ (u = M.length + 3 ∨ M.length + 4 < u) ∧ Live M' u (.row (triL acc) true 3) ∧ fr 2 = .ptr M.length 0 ∧ fr 3 = .ptr (M.length + 1) 0 ∧ Live M' (M.length + 2) (.row [.I 0, .I 0, .I 0, .nil] true 0) ∧ fr 4 = .ptr (M.length + 2) 0 ∧ fr 5 = .ptr (M.length + 4) 0 ∧ fr 6 = .I k) cs.length
    ⟨0, M.length + 3, [], by omega, rfl, Pre.app _ _, Live.new, Live.newj rfl, Live.newj rfl, by omega, Live.newj rfl, rfl, rfl, Live.newj rfl, rfl, rfl, rfl⟩ ?_
  rintro m fr M' ⟨k, u, acc, hk, hacc, hpre, hbox, hcell, hres, hu, hout, f2, f3, hret, f4, f5, f6⟩
  have ht := h.pre hpre
  have hal : acc.length ≤ 1000000000 := by
    have h1 := List.length_filter_le (fun d => !decide (d = ⟨a, b, c⟩)) (cs.take k)
    have h2 := List.length_take_le k cs
    rw [hacc]; omega
  simp (disch := omega) only [f2, f3, f4, f5, f6, hbox.cell, ↓SXd, SXu, slBounds, ↓sop, ↓aop, ↓reduceIte, LV.cells, AOp.dst, LV.I, LV.B, LV.U, LV.S, LV.nil, Nat.reduceEqDiff, Nat.reduceAdd, Nat.reduceMul, Nat.reduceSub, Nat.reduceLeDiff, Nat.reduceBEq, Nat.reduceDiv, Nat.reduceMod, Int.reduceToNat, Int.reduceLT, Int.reduceLE, Int.reduceAdd, Int.reduceSub, Int.reduceMul, Int.reduceEq, Int.reduceNeg, reduceCtorEq, resV, resAll, ARes.ev, LV.flat, ite_true, ite_false, exists_eq_left', exists_eq_left, keyOf, implies_true, fillC, capOf]
  refine condC_dec (fun hlt => ?_) (fun hlt => ?_)
  · have hkl : k < cs.length := by omega
    have hts : cs.take (k + 1) = cs.take k ++ [cs.getD k default] := by
      rw [List.take_succ, List.getElem?_eq_getElem hkl]; simp [hkl]
    simp (disch := omega) only [f2, f3, f4, f5, f6, hbox.cell, hcell.cells, (Tri.get ht (k := k) (by omega)), Cell.row, eqV, eqC, if_true, ite_true, Bool.and_true, ↓SXd, SXu, slBounds, ↓sop, ↓aop, ↓reduceIte, LV.cells, AOp.dst, LV.I, LV.B, LV.U, LV.S, LV.nil, Nat.reduceEqDiff, Nat.reduceAdd, Nat.reduceMul, Nat.reduceSub, Nat.reduceLeDiff, Nat.reduceBEq, Nat.reduceDiv, Nat.reduceMod, Int.reduceToNat, Int.reduceLT, Int.reduceLE, Int.reduceAdd, Int.reduceSub, Int.reduceMul, Int.reduceEq, Int.reduceNeg, reduceCtorEq, resV, resAll, ARes.ev, LV.flat, ite_true, ite_false, exists_eq_left', exists_eq_left, keyOf, implies_true, fillC, capOf]
    by_cases he : cs.getD k default = ⟨a, b, c⟩
    · obtain ⟨e1, e2, e3⟩ := cell_eq.1 he
      simp only at e1 e2 e3
      simp (disch := omega) only [f2, f3, f4, f5, f6, e1, e2, e3, Bool.and_self, ↓SXd, SXu, slBounds, ↓sop, ↓aop, ↓reduceIte, LV.cells, AOp.dst, LV.I, LV.B, LV.U, LV.S, LV.nil, Nat.reduceEqDiff, Nat.reduceAdd, Nat.reduceMul, Nat.reduceSub, Nat.reduceLeDiff, Nat.reduceBEq, Nat.reduceDiv, Nat.reduceMod, Int.reduceToNat, Int.reduceLT, Int.reduceLE, Int.reduceAdd, Int.reduceSub, Int.reduceMul, Int.reduceEq, Int.reduceNeg, reduceCtorEq, resV, resAll, ARes.ev, LV.flat, ite_true, ite_false, exists_eq_left', exists_eq_left, keyOf, implies_true, fillC, capOf]
      refine ⟨m - 1, by omega, k + 1, u, acc, by omega, ?_, hpre, hbox, hcell, hres, hu, hout, f2, f3, hret, f4, f5, eqI (natI _)⟩
      rw [hts, List.filter_append, ← hacc, List.filter_cons_of_neg (by simp only [he]; simp)]; simp
    · have hf : ((cs.getD k default).a == a && ((cs.getD k default).b == b && (cs.getD k default).c == c)) = false := by
        rw [Bool.eq_false_iff]
        intro e
        simp only [Bool.and_eq_true, beq_iff_eq] at e
        exact he (cell_eq.2 ⟨e.1, e.2.1, e.2.2⟩)
      simp (disch := omega) only [f2, f3, f4, f5, f6, hf, hres.cell, hbox.cell, (Tri.get ht (k := k) (by omega)), Cell.row, splice, ↓SXd, SXu, slBounds, ↓sop, ↓aop, ↓reduceIte, LV.cells, AOp.dst, LV.I, LV.B, LV.U, LV.S, LV.nil, Nat.reduceEqDiff, Nat.reduceAdd, Nat.reduceMul, Nat.reduceSub, Nat.reduceLeDiff, Nat.reduceBEq, Nat.reduceDiv, Nat.reduceMod, Int.reduceToNat, Int.reduceLT, Int.reduceLE, Int.reduceAdd, Int.reduceSub, Int.reduceMul, Int.reduceEq, Int.reduceNeg, reduceCtorEq, resV, resAll, ARes.ev, LV.flat, ite_true, ite_false, exists_eq_left', exists_eq_left, keyOf, implies_true, fillC, capOf]
      refine appendK_cell hout hal fun N' l1 l2 l3 => ?_
      have hres' := live_step hres (by omega) l3
      have hlr := hres.lt
      simp (disch := omega) only [f2, f3, f4, f5, f6, hres'.setC, memK, splice, ↓SXd, SXu, slBounds, ↓sop, ↓aop, ↓reduceIte, LV.cells, AOp.dst, LV.I, LV.B, LV.U, LV.S, LV.nil, Nat.reduceEqDiff, Nat.reduceAdd, Nat.reduceMul, Nat.reduceSub, Nat.reduceLeDiff, Nat.reduceBEq, Nat.reduceDiv, Nat.reduceMod, Int.reduceToNat, Int.reduceLT, Int.reduceLE, Int.reduceAdd, Int.reduceSub, Int.reduceMul, Int.reduceEq, Int.reduceNeg, reduceCtorEq, resV, resAll, ARes.ev, LV.flat, ite_true, ite_false, exists_eq_left', exists_eq_left, keyOf, implies_true, fillC, capOf]
      refine ⟨m - 1, by omega, k + 1, M'.length + 1, _, by omega, ?_, Pre.set (pre_step hpre (by omega) l1 l3) (by omega), (live_step hbox (by omega) l3).set_ne (by omega), (live_step hcell (by omega) l3).set_ne (by omega), hres'.set_eq, by omega, l2.set_ne (by omega), f2, f3, (live_step hret (by omega) l3).set_ne (by omega), f4, f5, eqI (natI _)⟩
      rw [hts, List.filter_append, ← hacc, List.filter_cons_of_pos (by simp only [decide_eq_false he]; rfl)]; rfl
  · simp (disch := omega) only [f2, f3, f4, f5, f6, hres.cells, ↓SXd, SXu, slBounds, ↓sop, ↓aop, ↓reduceIte, LV.cells, AOp.dst, LV.I, LV.B, LV.U, LV.S, LV.nil, Nat.reduceEqDiff, Nat.reduceAdd, Nat.reduceMul, Nat.reduceSub, Nat.reduceLeDiff, Nat.reduceBEq, Nat.reduceDiv, Nat.reduceMod, Int.reduceToNat, Int.reduceLT, Int.reduceLE, Int.reduceAdd, Int.reduceSub, Int.reduceMul, Int.reduceEq, Int.reduceNeg, reduceCtorEq, resV, resAll, ARes.ev, LV.flat, ite_true, ite_false, exists_eq_left', exists_eq_left, keyOf, implies_true, fillC, capOf]
    have : k = cs.length := by omega
    subst this
    rw [List.take_length] at hacc
    have hlr := hres.lt
    have hret' := hret.set_eq (b' := .row [.I x, .I y, .I z, .ref u 0 acc.length] true 0)
    rw [← hacc, hret.setC, if_pos (by simp)]
    simp (disch := omega) only [memK, splice, f2, f3, f4, f5, f6, hret'.cells, ↓SXd, SXu, slBounds, ↓sop, ↓aop, ↓reduceIte, LV.cells, AOp.dst, LV.I, LV.B, LV.U, LV.S, LV.nil, Nat.reduceEqDiff, Nat.reduceAdd, Nat.reduceMul, Nat.reduceSub, Nat.reduceLeDiff, Nat.reduceBEq, Nat.reduceDiv, Nat.reduceMod, Int.reduceToNat, Int.reduceLT, Int.reduceLE, Int.reduceAdd, Int.reduceSub, Int.reduceMul, Int.reduceEq, Int.reduceNeg, reduceCtorEq, resV, resAll, ARes.ev, LV.flat, ite_true, ite_false, exists_eq_left', exists_eq_left, keyOf, implies_true, fillC, capOf]
    exact cmp_keepL (Pre.set hpre (by omega)) (by omega) (hout.set_ne (by omega)) (triL_lo acc) (by simp [rn, rn0, rn1])
end Go.Ab

/- Contracts: the reference's heaps with one more cube. -/
namespace Go.Ab
open Go
set_option linter.unusedSimpArgs false
set_option linter.unusedVariables false

theorem appendK_zero {e b t off len t2 o2 : Nat} {M : Mem} {A : LV → Mem → Prop} (h : andK (len * b ≤ 140737488355328 ∧ len ≤ 9223372036854775807) (A (.ref t off len) M)) : appendK e b (.ref t off len) (.ref t2 o2 0) M A := by
  obtain ⟨h1, h2⟩ := h
  refine ⟨by simpa using h1, .inl ?_⟩
  simpa [appV, appK] using h2
theorem appendK_pos {e b t off len t2 o2 n : Nat} {cs new : List LV} {M : Mem} {A : LV → Mem → Prop} (hn : 0 < n) (hw : getCells M t2 o2 (n * e) = some new) (hr : M[t]? = some (some (.row cs true e))) (hl : off + len * e ≤ cs.length) :
    andK ((len + n) * b ≤ 140737488355328 ∧ len + n ≤ 9223372036854775807) (A (.ref M.length 0 (len + n)) (M.set t none ++ [some (.row ((cs.drop off).take (len * e) ++ new) true e)])) → appendK e b (.ref t off len) (.ref t2 o2 n) M A := by
  rintro ⟨h1, h2⟩
  have h0 : n ≠ 0 := by omega
  simp only [appendK, lenS, winC, h0, if_false, hw]
  exact ⟨h1, .inl (by simpa [appV, appK, h0, hr, hl] using h2)⟩

theorem Tri.take {M : Mem} {t o k : Nat} {cs : List Cell} (h : Tri M t o cs) (hk : k ≤ cs.length) : Tri M t o (cs.take k) := by
  obtain ⟨row, h1, h2, h3⟩ := h
  rw [triL_len] at h2 h3
  have hl : (cs.take k).length = k := by simp; omega
  refine ⟨row, h1, by rw [triL_len, hl]; omega, ?_⟩
  rw [triL_len, hl, ← triL_take, ← h3, List.take_take, Nat.min_eq_left (by omega)]
theorem Tri.drop {M : Mem} {t o k : Nat} {cs : List Cell} (h : Tri M t o cs) (hk : k ≤ cs.length) : Tri M t (o + k * 3) (cs.drop k) := by
  obtain ⟨row, h1, h2, h3⟩ := h
  rw [triL_len] at h2 h3
  have hl : (cs.drop k).length = cs.length - k := by simp
  refine ⟨row, h1, by rw [triL_len, hl]; omega, ?_⟩
  rw [triL_len, hl, ← triL_drop, ← h3, List.drop_take, List.drop_drop]
  congr 1
  omega
theorem Tri.all {M : Mem} {t o n : Nat} {cs : List Cell} (h : Tri M t o cs) (hn : n = cs.length) : getCells M t o (n * 3) = some (triL cs) := by
  have := Has.all h
  rw [triL_len] at this; rw [hn]; exact this

theorem h_l2Own {x y z : Int} {t o : Nat} {cs : List Cell} {M : Mem} (h : Tri M t o cs) (hn : cs.length ≤ 1000000000) :
    CallsTo PG F.spec_l2Own [.agg [.I x, .I y, .I z, .ref t o cs.length]] M (.agg [.I x, .I y, .I z, .ref M.length 0 cs.length]) (M ++ [some (.row (triL cs) true 3)]) := by
  have ht := h.lt
  refine calls_run K.spec_l2Own rfl ?_
  simp (disch := omega) only [C.spec_l2Own, ↓SXd, SXu, slBounds, ↓sop, ↓aop, ↓reduceIte, LV.cells, AOp.dst, LV.I, LV.B, LV.U, LV.S, LV.nil, Nat.reduceEqDiff, Nat.reduceAdd, Nat.reduceMul, Nat.reduceSub, Nat.reduceLeDiff, Nat.reduceBEq, Nat.reduceDiv, Nat.reduceMod, Int.reduceToNat, Int.reduceLT, Int.reduceLE, Int.reduceAdd, Int.reduceSub, Int.reduceMul, Int.reduceEq, Int.reduceNeg, reduceCtorEq, resV, resAll, ARes.ev, LV.flat, ite_true, ite_false, exists_eq_left', exists_eq_left, keyOf, implies_true, fillC, capOf]
  rcases Nat.eq_zero_or_pos cs.length with h0 | h0
  · have hc : cs = [] := List.eq_nil_of_length_eq_zero h0
    subst hc
    simp (disch := omega) only [List.length_nil, ↓SXd, SXu, slBounds, ↓sop, ↓aop, ↓reduceIte, LV.cells, AOp.dst, LV.I, LV.B, LV.U, LV.S, LV.nil, Nat.reduceEqDiff, Nat.reduceAdd, Nat.reduceMul, Nat.reduceSub, Nat.reduceLeDiff, Nat.reduceBEq, Nat.reduceDiv, Nat.reduceMod, Int.reduceToNat, Int.reduceLT, Int.reduceLE, Int.reduceAdd, Int.reduceSub, Int.reduceMul, Int.reduceEq, Int.reduceNeg, reduceCtorEq, resV, resAll, ARes.ev, LV.flat, ite_true, ite_false, exists_eq_left', exists_eq_left, keyOf, implies_true, fillC, capOf]
    refine appendK_zero ?_
    simp (disch := omega) only [List.length_nil, ↓SXd, SXu, slBounds, ↓sop, ↓aop, ↓reduceIte, LV.cells, AOp.dst, LV.I, LV.B, LV.U, LV.S, LV.nil, Nat.reduceEqDiff, Nat.reduceAdd, Nat.reduceMul, Nat.reduceSub, Nat.reduceLeDiff, Nat.reduceBEq, Nat.reduceDiv, Nat.reduceMod, Int.reduceToNat, Int.reduceLT, Int.reduceLE, Int.reduceAdd, Int.reduceSub, Int.reduceMul, Int.reduceEq, Int.reduceNeg, reduceCtorEq, resV, resAll, ARes.ev, LV.flat, ite_true, ite_false, exists_eq_left', exists_eq_left, keyOf, implies_true, fillC, capOf]
    refine callK_of (h_l2Made (by simp)) ?_
    simp (disch := omega) only [splice, ↓SXd, SXu, slBounds, ↓sop, ↓aop, ↓reduceIte, LV.cells, AOp.dst, LV.I, LV.B, LV.U, LV.S, LV.nil, Nat.reduceEqDiff, Nat.reduceAdd, Nat.reduceMul, Nat.reduceSub, Nat.reduceLeDiff, Nat.reduceBEq, Nat.reduceDiv, Nat.reduceMod, Int.reduceToNat, Int.reduceLT, Int.reduceLE, Int.reduceAdd, Int.reduceSub, Int.reduceMul, Int.reduceEq, Int.reduceNeg, reduceCtorEq, resV, resAll, ARes.ev, LV.flat, ite_true, ite_false, exists_eq_left', exists_eq_left, keyOf, implies_true, fillC, capOf]
    exact cmp_keep1 (j := 2) rfl rfl (by simp [rn, rn0, rn1, keepR_n])
  · refine appendK_pos h0 (Tri.all h.app rfl) (by rw [at_j]; rfl) (by simp) ?_
    simp (disch := omega) only [List.length_append, ↓SXd, SXu, slBounds, ↓sop, ↓aop, ↓reduceIte, LV.cells, AOp.dst, LV.I, LV.B, LV.U, LV.S, LV.nil, Nat.reduceEqDiff, Nat.reduceAdd, Nat.reduceMul, Nat.reduceSub, Nat.reduceLeDiff, Nat.reduceBEq, Nat.reduceDiv, Nat.reduceMod, Int.reduceToNat, Int.reduceLT, Int.reduceLE, Int.reduceAdd, Int.reduceSub, Int.reduceMul, Int.reduceEq, Int.reduceNeg, reduceCtorEq, resV, resAll, ARes.ev, LV.flat, ite_true, ite_false, exists_eq_left', exists_eq_left, keyOf, implies_true, fillC, capOf]
    refine callK_of (h_l2Made (by simp)) ?_
    simp (disch := omega) only [splice, ↓SXd, SXu, slBounds, ↓sop, ↓aop, ↓reduceIte, LV.cells, AOp.dst, LV.I, LV.B, LV.U, LV.S, LV.nil, Nat.reduceEqDiff, Nat.reduceAdd, Nat.reduceMul, Nat.reduceSub, Nat.reduceLeDiff, Nat.reduceBEq, Nat.reduceDiv, Nat.reduceMod, Int.reduceToNat, Int.reduceLT, Int.reduceLE, Int.reduceAdd, Int.reduceSub, Int.reduceMul, Int.reduceEq, Int.reduceNeg, reduceCtorEq, resV, resAll, ARes.ev, LV.flat, ite_true, ite_false, exists_eq_left', exists_eq_left, keyOf, implies_true, fillC, capOf]
    exact cmp_keep1 (j := 3) rfl (triL_lo cs) (by simp [rn, rn0, rn1, keepR_n])

end Go.Ab

/- Plain words: what is reached from some cells within a set. -/
namespace Go.Ab

/-- What is reached from the cells of p by way of cells of q, all in the box. -/
inductive Reach (x y z : Int) (p q : Cell → Bool) : Cell → Prop
  | base {c : Cell} : c.inBox x y z → p c = true → Reach x y z p q c
  | step {c d : Cell} : Reach x y z p q c → apart c d = 1 → d.inBox x y z → q d = true → Reach x y z p q d
noncomputable def reach (x y z : Int) (p q : Cell → Bool) : Cell → Bool := fun c => @decide (Reach x y z p q c) (Classical.propDecidable _)
theorem reach_iff {x y z : Int} {p q : Cell → Bool} {c : Cell} : reach x y z p q c = true ↔ Reach x y z p q c := by
  unfold reach; exact @decide_eq_true_iff _ (Classical.propDecidable _)
theorem Reach.inBox {x y z : Int} {p q : Cell → Bool} {c : Cell} (h : Reach x y z p q c) : c.inBox x y z := by
  cases h <;> assumption
theorem Reach.mono {x y z : Int} {p q p' q' : Cell → Bool} (hp : ∀ c, c.inBox x y z → p c = true → Reach x y z p' q' c) (hq : ∀ c, c.inBox x y z → q c = true → q' c = true) {c : Cell} (h : Reach x y z p q c) : Reach x y z p' q' c := by
  induction h with
  | base h1 h2 => exact hp _ h1 h2
  | step _ h2 h3 h4 ih => exact .step ih h2 h3 (hq _ h3 h4)
/-- What holds of the beginning and is carried on holds of all that is reached. -/
theorem Reach.ind {x y z : Int} {p q : Cell → Bool} {P : Cell → Prop} (h0 : ∀ c, c.inBox x y z → p c = true → P c) (h1 : ∀ c d, P c → apart c d = 1 → d.inBox x y z → q d = true → P d) {c : Cell} (h : Reach x y z p q c) : P c := by
  induction h with
  | base h2 h3 => exact h0 _ h2 h3
  | step _ h2 h3 h4 ih => exact h1 _ _ ih h2 h3 h4
theorem apart_comm (c d : Cell) : apart c d = apart d c := by unfold apart; omega

/-- One round of growing: only of the first k cells. -/
noncomputable def growK (y z : Int) (p q : Cell → Bool) (k : Nat) : Cell → Bool := by
  classical
  exact fun c => p c || (q c && decide (∃ j, j < k ∧ p (cellAt y z j) = true ∧ apart (cellAt y z j) c = 1))
section
variable {x y z : Int} (hS : Sides x y z)
include hS
/-- How many cells of the box are not in the set. -/
def rest (x y z : Int) (p : Cell → Bool) : Nat := (pick x y z fun c => !p c).length
end
end Go.Ab

/- Plain words: parts; lists of lists of cells in the abstract memory. -/
namespace Go.Ab
open Go

/-- The parts of a set: what its first cell reaches, then the parts of the rest. -/
noncomputable def parts (x y z : Int) : Nat → (Cell → Bool) → List (List Cell)
  | 0, _ => []
  | f + 1, q => match pick x y z q with
    | [] => []
    | c :: _ => pick x y z (reach x y z (fun d => decide (d = c)) q) :: parts x y z f fun d => q d && !reach x y z (fun d => decide (d = c)) q d

/-- Lists of cells, each in a block of its own, the blocks in rising order. -/
def Css (N : Mem) (lo hi : Nat) : List LV → List (List Cell) → Prop
  | [], [] => True
  | r :: rs, l :: ls => ∃ u, lo ≤ u ∧ u < hi ∧ r = .ref u 0 l.length ∧ Live N u (.row (triL l) true 3) ∧ Css N (u + 1) hi rs ls
  | _, _ => False

theorem Css.len {N : Mem} {hi : Nat} : ∀ {lo : Nat} {rs : List LV} {ls : List (List Cell)}, Css N lo hi rs ls → rs.length = ls.length
  | _, [], [], _ => rfl
  | _, [], _ :: _, h => h.elim
  | _, _ :: _, [], h => h.elim
  | _, r :: rs, l :: ls, ⟨u, _, _, _, _, h⟩ => by simp [Css.len h]
theorem Css.mono {N N' : Mem} {hi hi' : Nat} (hh : hi ≤ hi') : ∀ {lo lo' : Nat} {rs : List LV} {ls : List (List Cell)}, lo' ≤ lo → (∀ u l, lo ≤ u → u < hi → Live N u (.row (triL l) true 3) → Live N' u (.row (triL l) true 3)) → Css N lo hi rs ls → Css N' lo' hi' rs ls
  | _, _, [], [], _, _, _ => trivial
  | _, _, [], _ :: _, _, _, h => h.elim
  | _, _, _ :: _, [], _, _, h => h.elim
  | lo, lo', r :: rs, l :: ls, hl, hk, ⟨u, h1, h2, h3, h4, h5⟩ => ⟨u, by omega, by omega, h3, hk u l h1 h2 h4, h5.mono hh (Nat.le_refl _) fun v l h6 h7 => hk v l (by omega) h7⟩
theorem Css.snoc {N : Mem} {hi hi' u : Nat} {l : List Cell} (hu : hi ≤ u) (hu' : u < hi') (hL : Live N u (.row (triL l) true 3)) : ∀ {lo : Nat} {rs : List LV} {ls : List (List Cell)}, lo ≤ u → Css N lo hi rs ls → Css N lo hi' (rs ++ [.ref u 0 l.length]) (ls ++ [l])
  | _, [], [], hl, _ => ⟨u, hl, hu', rfl, hL, trivial⟩
  | _, [], _ :: _, _, h => h.elim
  | _, _ :: _, [], _, h => h.elim
  | lo, r :: rs, m :: ls, hl, ⟨v, h1, h2, h3, h4, h5⟩ => ⟨v, h1, by omega, h3, h4, h5.snoc hu hu' hL (by omega)⟩
theorem Css.get {N : Mem} {hi : Nat} : ∀ {lo k : Nat} {rs : List LV} {ls : List (List Cell)}, Css N lo hi rs ls → k < ls.length → ∃ u, lo ≤ u ∧ u < hi ∧ rs[k]? = some (.ref u 0 (ls.getD k []).length) ∧ Live N u (.row (triL (ls.getD k [])) true 3)
  | _, k, [], [], _, hk => by simp at hk
  | _, _, [], _ :: _, h, _ => h.elim
  | _, _, _ :: _, [], h, _ => h.elim
  | lo, 0, r :: rs, l :: ls, ⟨u, h1, h2, h3, h4, _⟩, _ => ⟨u, h1, h2, by rw [h3]; rfl, h4⟩
  | lo, k + 1, r :: rs, l :: ls, ⟨u, h1, h2, h3, h4, h5⟩, hk => by
    obtain ⟨v, k1, k2, k3, k4⟩ := h5.get (k := k) (by simpa using hk)
    exact ⟨v, by omega, k2, by simpa using k3, k4⟩
/-- One block has changed that is none of these. -/
theorem Css.keep {M M' : Mem} {lo hi t : Nat} {rs : List LV} {ls : List (List Cell)} (h : Css M lo hi rs ls) (ht : (hi ≤ t ∨ t < lo) ∨ ∃ cs w e, Live M t (.row cs w e) ∧ e ≠ 3) (hu : ∀ u, u ≠ t → u < M.length → M'[u]? = M[u]?) : Css M' lo hi rs ls :=
  h.mono (Nat.le_refl _) (Nat.le_refl _) fun u l h1 h2 hL => by
    refine live_step hL (fun e => ?_) hu
    subst e
    rcases ht with h3 | ⟨cs, w, e, h3, h4⟩
    · omega
    · unfold Live at hL h3; rw [hL] at h3; cases h3; exact h4 rfl
theorem Css.pre {M N : Mem} {lo hi : Nat} {rs : List LV} {ls : List (List Cell)} (h : Css M lo hi rs ls) (hp : Pre M N) : Css N lo hi rs ls := h.mono (Nat.le_refl _) (Nat.le_refl _) fun _ _ _ _ hL => hL.pre hp

theorem Live.ne_esz {M : Mem} {t t' e e' : Nat} {cs cs' : List LV} {w w' : Bool} (h : Live M t (.row cs w e)) (h' : Live M t' (.row cs' w' e')) (he : e ≠ e') : t ≠ t' := fun et => by
  subst et
  unfold Live at h h'; rw [h] at h'; cases h'; exact he rfl
end Go.Ab

/- Contracts: the reference's parts. -/
namespace Go.Ab
open Go
set_option linter.unusedSimpArgs false
set_option linter.unusedVariables false

theorem memK_box {M : Mem} {t e : Nat} {old vs : List LV} {A : Mem → Prop} (ht : Live M t (.row old true e)) (hl : vs.length = old.length)
    (hA : ∀ M', M'.length = M.length → Live M' t (.row vs true e) → (∀ u, u ≠ t → u < M.length → M'[u]? = M[u]?) → A M') : memK (setCells M t 0 vs) A := by
  rw [ht.setC, if_pos (by omega)]
  have : splice old 0 vs = vs := by simp [splice, hl]
  rw [this]
  exact hA _ (by simp) ht.set_eq fun u hu _ => List.getElem?_set_ne (fun e => hu e.symm)

/-- What is found by and by: the queue of a search in the set q from c. -/
structure Que (x y z : Int) (q : Cell → Bool) (c : Cell) (n : Nat) (l : List Cell) : Prop where
  nodup : l.Nodup
  mem : ∀ d ∈ l, d.inBox x y z ∧ q d = true ∧ Reach x y z (fun d => decide (d = c)) q d
  start : c ∈ l
  done : ∀ i, i < n → i < l.length → ∀ e, e.inBox x y z → q e = true → apart (l.getD i default) e = 1 → e ∈ l

theorem Que.reach {x y z : Int} {q : Cell → Bool} {c : Cell} {n : Nat} {l : List Cell} (h : Que x y z q c n l) (hn : l.length ≤ n) {d : Cell} : d ∈ l ↔ reach x y z (fun d => decide (d = c)) q d = true := by
  rw [reach_iff]
  refine ⟨fun hd => (h.mem d hd).2.2, fun hd => ?_⟩
  refine hd.ind (P := fun d => d ∈ l) (fun e _ he => ?_) fun a b ha hab hb hq => ?_
  · rw [of_decide_eq_true he]; exact h.start
  · obtain ⟨i, hi, rfl⟩ := List.getElem_of_mem ha
    exact h.done i (by omega) hi b hb hq (by simpa [hi] using hab)

end Go.Ab

/- Contracts: allowed cells, the reference's side. -/
namespace Go.Ab
open Go
set_option linter.unusedSimpArgs false
set_option linter.unusedVariables false
set_option maxRecDepth 20000

theorem memK_one {M : Mem} {t j e : Nat} {old : List LV} {v : LV} {A : Mem → Prop} (ht : Live M t (.row old true e)) (hj : j < old.length)
    (hA : ∀ M', M'.length = M.length → Live M' t (.row (old.set j v) true e) → (∀ u, u ≠ t → u < M.length → M'[u]? = M[u]?) → A M') : memK (setCells M t j [v]) A := by
  rw [ht.setC, if_pos (by simp; omega), splice_1 hj]
  exact hA _ (by simp) ht.set_eq fun u hu _ => List.getElem?_set_ne (fun e => hu e.symm)
end Go.Ab

/- The abstract code of some functions (written by a program of mine from the translation, by way of prepF). -/
namespace Go.Ab.C
open Go.Ab
end Go.Ab.C

/- That the program has this code. -/
namespace Go.Ab.K
open Go Go.Ab
end Go.Ab.K

/- Contracts: marks in a shadow's lists. -/
namespace Go.Ab
open Go
set_option linter.unusedSimpArgs false
set_option linter.unusedVariables false

theorem SlC.at {M N : Mem} {w : LV} {l : List Cell} (h : SlC M w l) (hk : ∀ t o n, w = .ref t o n → N[t]? = M[t]?) : SlC N w l := by
  rcases h with h | ⟨t, ex, h1, h2⟩
  · exact .inl h
  · refine .inr ⟨t, ex, h1, ?_⟩
    unfold Live; rw [hk _ _ _ h1]; exact h2
theorem Live.at {M N : Mem} {t : Nat} {b : Blk} (h : Live M t b) (hk : N[t]? = M[t]?) : Live N t b := by unfold Live; rw [hk]; exact h

/-- What is left as it was by marks in three blocks. -/
def Pre3 (a b c : Nat) (M N : Mem) : Prop := M.length ≤ N.length ∧ ∀ u, u < M.length → u ≠ a → u ≠ b → u ≠ c → N[u]? = M[u]?
theorem Pre3.live {a b c : Nat} {M N : Mem} {t : Nat} {bl : Blk} (hp : Pre3 a b c M N) (h : Live M t bl) (h1 : t ≠ a) (h2 : t ≠ b) (h3 : t ≠ c) : Live N t bl := h.at (hp.2 t h.lt h1 h2 h3)
theorem Pre3.pre {a b c : Nat} {M0 M N : Mem} (hp : Pre3 a b c M N) (h : Pre M0 M) (h1 : M0.length ≤ a) (h2 : M0.length ≤ b) (h3 : M0.length ≤ c) : Pre M0 N := ⟨Nat.le_trans h.1 hp.1, fun u hu => by rw [hp.2 u (Nat.lt_of_lt_of_le hu h.1) (by omega) (by omega) (by omega)]; exact h.2 u hu⟩

end Go.Ab

/- Contracts: what the laws draw from their bytes: numbers (only that there is one, and in which bounds). -/
namespace Go.Ab
open Go
set_option linter.unusedSimpArgs false
set_option linter.unusedVariables false
set_option maxRecDepth 20000

/-- Bytes in memory. -/
def byL (bs : List Nat) : List LV := bs.map fun (b : Nat) => LV.val (.int .u8 (b : Int))
theorem byL_len (bs : List Nat) : (byL bs).length = bs.length := by simp [byL]
def Bytes (M : Mem) (t o : Nat) (bs : List Nat) : Prop := Has M t o (byL bs)
theorem Bytes.get {M : Mem} {t o k : Nat} {bs : List Nat} (h : Bytes M t o bs) (hk : k < bs.length) : getCell M t (o + k) = some (.val (.int .u8 ((bs.getD k 0 : Nat) : Int))) := by
  rw [Has.get h (by rw [byL_len]; exact hk)]
  simp [byL, hk]
/-- The reader of the bytes, in block p; it has read at most a times. -/
def CurAt (M : Mem) (p t o : Nat) (bs : List Nat) (a : Nat) : Prop := (∃ (i : Nat) (s : Int), i ≤ a ∧ Live M p (.row [.ref t o bs.length, .I i, .val (.int .u64 s)] true 0)) ∧ Bytes M t o bs ∧ t ≠ p ∧ (∀ b ∈ bs, b ≤ 255) ∧ bs.length ≤ 1000000000
/-- What a draw leaves: all but the reader is as before. -/
def DrawN (M : Mem) (p t o : Nat) (bs : List Nat) (a : Nat) (N : Mem) : Prop := CurAt N p t o bs a ∧ M.length ≤ N.length ∧ ∀ q, q < M.length → q ≠ p → N[q]? = M[q]?
theorem Has.at' {M N : Mem} {t o : Nat} {vs : List LV} (h : Has M t o vs) (hk : N[t]? = M[t]?) : Has N t o vs := by
  obtain ⟨row, h1, h2⟩ := h
  refine ⟨row, ?_, h2⟩
  unfold getRow at *
  rw [hk]; exact h1
theorem CurAt.keep {M N : Mem} {p t o : Nat} {bs : List Nat} {a b : Nat} (h : CurAt M p t o bs a) (hk : ∀ q, q < M.length → N[q]? = M[q]?) (hab : a ≤ b) : CurAt N p t o bs b := by
  obtain ⟨⟨i, s, h1, h2⟩, h3, h4⟩ := h
  exact ⟨⟨i, s, by omega, Live.at h2 (hk _ h2.lt)⟩, Has.at' h3 (hk _ h3.lt), h4⟩
theorem DrawN.trans {M N N' : Mem} {p t o : Nat} {bs : List Nat} {a b : Nat} (h : DrawN M p t o bs a N) (k : DrawN N p t o bs b N') : DrawN M p t o bs b N' :=
  ⟨k.1, Nat.le_trans h.2.1 k.2.1, fun q h1 h2 => by rw [k.2.2 q (Nat.lt_of_lt_of_le h1 h.2.1) h2]; exact h.2.2 q h1 h2⟩
theorem DrawN.of_pre {M N N' : Mem} {p t o : Nat} {bs : List Nat} {a : Nat} (h : Pre M N) (k : DrawN N p t o bs a N') : DrawN M p t o bs a N' :=
  ⟨k.1, Nat.le_trans h.1 k.2.1, fun q h1 h2 => by rw [k.2.2 q (Nat.lt_of_lt_of_le h1 h.1) h2]; exact h.2 q h1⟩
theorem CurAt.pre {M N : Mem} {p t o : Nat} {bs : List Nat} {a : Nat} (h : CurAt M p t o bs a) (hp : Pre M N) : CurAt N p t o bs a := h.keep hp.2 (Nat.le_refl _)
theorem byte_and {a : BitVec 64} : (a &&& 255#64).toNat ≤ 255 := by
  rw [BitVec.toNat_and]
  exact Nat.and_le_right
theorem u64_small {n : Nat} (h : n ≤ 255) : IntKind.i64.wrap (IntKind.u64.wrap (n : Int)) = (n : Int) := by
  have : IntKind.u64.wrap (n : Int) = (n : Int) := by
    rw [IntKind.wrap_u64]; omega
  rw [this, wrap_id (by omega)]
theorem u64_key (a : BitVec 64) : LV.val (.int .i64 (IntKind.i64.wrap (IntKind.u64.wrap (((a &&& BitVec.ofInt 64 255).toNat : Nat) : Int)))) = LV.I (((a &&& 255#64).toNat : Nat) : Int) := by
  rw [show BitVec.ofInt 64 255 = 255#64 from rfl, u64_small byte_and]
section
variable {p t o a : Nat} {bs : List Nat} {M : Mem}
theorem d_next (h : CurAt M p t o bs a) (ha : a ≤ 1000000) : CallsR PG F.spec_l1Cur_next [.ptr p 0] M fun v N => (∃ b : Nat, v = .I b ∧ b ≤ 255) ∧ DrawN M p t o bs (a + 1) N := by
  obtain ⟨⟨i, s, hi, hp⟩, hB, htp, h255, hbl⟩ := id h
  have hpl := hp.lt
  refine callsR_run K.spec_l1Cur_next rfl ?_
  have fin : ∀ {N : Mem} {s' : Int}, N.length = M.length → Live N p (.row [.ref t o bs.length, .I (i + 1 : Nat), .val (.int .u64 s')] true 0) → (∀ q, q ≠ p → q < M.length → N[q]? = M[q]?) → DrawN M p t o bs (a + 1) N := fun {N s'} h1 h2 h3 =>
    ⟨⟨⟨i + 1, s', by omega, h2⟩, Has.at' hB (h3 t htp hB.lt), htp, h255, hbl⟩, by omega, fun q q1 q2 => h3 q q2 q1⟩
  by_cases hlt : i < bs.length
  · have hg := hB.get hlt
    have hb := h255 _ (getD_mem' (d := 0) hlt)
    generalize bs.getD i 0 = b at hg hb
    have hle : (i : Int) + 1 ≤ bs.length := by omega
    simp (disch := omega) only [C.spec_l1Cur_next, hp.cell, hlt, hg, Nat.mul_one, ↓SXd, SXu, slBounds, ↓sop, ↓aop, ↓reduceIte, LV.cells, AOp.dst, LV.I, LV.B, LV.U, LV.S, LV.nil, Nat.reduceEqDiff, Nat.reduceAdd, Nat.reduceMul, Nat.reduceSub, Nat.reduceLeDiff, Nat.reduceBEq, Nat.reduceDiv, Nat.reduceMod, Int.reduceToNat, Int.reduceLT, Int.reduceLE, Int.reduceAdd, Int.reduceSub, Int.reduceMul, Int.reduceEq, Int.reduceNeg, reduceCtorEq, resV, resAll, ARes.ev, LV.flat, ite_true, ite_false, exists_eq_left', exists_eq_left, keyOf, implies_true, fillC, capOf]
    refine memK_one hp (by simp) fun N1 j1 j2 j3 => ?_
    simp (disch := omega) only [j2.cell, bv_mul, bv_add, ↓SXd, SXu, slBounds, ↓sop, ↓aop, ↓reduceIte, LV.cells, AOp.dst, LV.I, LV.B, LV.U, LV.S, LV.nil, Nat.reduceEqDiff, Nat.reduceAdd, Nat.reduceMul, Nat.reduceSub, Nat.reduceLeDiff, Nat.reduceBEq, Nat.reduceDiv, Nat.reduceMod, Int.reduceToNat, Int.reduceLT, Int.reduceLE, Int.reduceAdd, Int.reduceSub, Int.reduceMul, Int.reduceEq, Int.reduceNeg, reduceCtorEq, resV, resAll, ARes.ev, LV.flat, ite_true, ite_false, exists_eq_left', exists_eq_left, keyOf, implies_true, fillC, capOf]
    refine memK_one j2 (by simp) fun N2 k1 k2 k3 => ?_
    simp (disch := omega) only [k2.cell, hle, ↓SXd, SXu, slBounds, ↓sop, ↓aop, ↓reduceIte, LV.cells, AOp.dst, LV.I, LV.B, LV.U, LV.S, LV.nil, Nat.reduceEqDiff, Nat.reduceAdd, Nat.reduceMul, Nat.reduceSub, Nat.reduceLeDiff, Nat.reduceBEq, Nat.reduceDiv, Nat.reduceMod, Int.reduceToNat, Int.reduceLT, Int.reduceLE, Int.reduceAdd, Int.reduceSub, Int.reduceMul, Int.reduceEq, Int.reduceNeg, reduceCtorEq, resV, resAll, ARes.ev, LV.flat, ite_true, ite_false, exists_eq_left', exists_eq_left, keyOf, implies_true, fillC, capOf]
    exact ⟨⟨b, rfl, hb⟩, fin (by omega) k2 fun q q1 q2 => by rw [k3 q q1 (by omega)]; exact j3 q q1 q2⟩
  · have hle : ¬ ((i : Int) + 1 ≤ bs.length) := by omega
    simp (disch := omega) only [C.spec_l1Cur_next, hp.cell, hlt, ↓SXd, SXu, slBounds, ↓sop, ↓aop, ↓reduceIte, LV.cells, AOp.dst, LV.I, LV.B, LV.U, LV.S, LV.nil, Nat.reduceEqDiff, Nat.reduceAdd, Nat.reduceMul, Nat.reduceSub, Nat.reduceLeDiff, Nat.reduceBEq, Nat.reduceDiv, Nat.reduceMod, Int.reduceToNat, Int.reduceLT, Int.reduceLE, Int.reduceAdd, Int.reduceSub, Int.reduceMul, Int.reduceEq, Int.reduceNeg, reduceCtorEq, resV, resAll, ARes.ev, LV.flat, ite_true, ite_false, exists_eq_left', exists_eq_left, keyOf, implies_true, fillC, capOf]
    refine memK_one hp (by simp) fun N1 j1 j2 j3 => ?_
    simp (disch := omega) only [j2.cell, bv_mul, bv_add, ↓SXd, SXu, slBounds, ↓sop, ↓aop, ↓reduceIte, LV.cells, AOp.dst, LV.I, LV.B, LV.U, LV.S, LV.nil, Nat.reduceEqDiff, Nat.reduceAdd, Nat.reduceMul, Nat.reduceSub, Nat.reduceLeDiff, Nat.reduceBEq, Nat.reduceDiv, Nat.reduceMod, Int.reduceToNat, Int.reduceLT, Int.reduceLE, Int.reduceAdd, Int.reduceSub, Int.reduceMul, Int.reduceEq, Int.reduceNeg, reduceCtorEq, resV, resAll, ARes.ev, LV.flat, ite_true, ite_false, exists_eq_left', exists_eq_left, keyOf, implies_true, fillC, capOf]
    refine memK_one j2 (by simp) fun N2 k1 k2 k3 => ?_
    simp (disch := omega) only [k2.cell, hle, bv_shr, bv_and, ↓SXd, SXu, slBounds, ↓sop, ↓aop, ↓reduceIte, LV.cells, AOp.dst, LV.I, LV.B, LV.U, LV.S, LV.nil, Nat.reduceEqDiff, Nat.reduceAdd, Nat.reduceMul, Nat.reduceSub, Nat.reduceLeDiff, Nat.reduceBEq, Nat.reduceDiv, Nat.reduceMod, Int.reduceToNat, Int.reduceLT, Int.reduceLE, Int.reduceAdd, Int.reduceSub, Int.reduceMul, Int.reduceEq, Int.reduceNeg, reduceCtorEq, resV, resAll, ARes.ev, LV.flat, ite_true, ite_false, exists_eq_left', exists_eq_left, keyOf, implies_true, fillC, capOf]
    refine ⟨⟨_, u64_key _, byte_and⟩, fin (by omega) k2 fun q q1 q2 => by rw [k3 q q1 (by omega)]; exact j3 q q1 q2⟩
theorem d_pick {n : Int} (h : CurAt M p t o bs a) (ha : a ≤ 999990) : CallsR PG F.spec_l1Cur_pick [.ptr p 0, .I n] M fun v N => (∃ b : Nat, v = .I b ∧ ((b : Int) < n ∨ b = 0)) ∧ DrawN M p t o bs (a + 2) N := by
  refine callsR_run K.spec_l1Cur_pick rfl ?_
  by_cases h1 : n ≤ 1
  · simp (disch := omega) only [C.spec_l1Cur_pick, h1, ↓SXd, SXu, slBounds, ↓sop, ↓aop, ↓reduceIte, LV.cells, AOp.dst, LV.I, LV.B, LV.U, LV.S, LV.nil, Nat.reduceEqDiff, Nat.reduceAdd, Nat.reduceMul, Nat.reduceSub, Nat.reduceLeDiff, Nat.reduceBEq, Nat.reduceDiv, Nat.reduceMod, Int.reduceToNat, Int.reduceLT, Int.reduceLE, Int.reduceAdd, Int.reduceSub, Int.reduceMul, Int.reduceEq, Int.reduceNeg, reduceCtorEq, resV, resAll, ARes.ev, LV.flat, ite_true, ite_false, exists_eq_left', exists_eq_left, keyOf, implies_true, fillC, capOf]
    exact ⟨⟨0, rfl, .inr rfl⟩, h.keep (fun _ _ => rfl) (by omega), Nat.le_refl _, fun _ _ _ => rfl⟩
  · have hn0 : ¬ (n = 0) := by omega
    simp (disch := omega) only [C.spec_l1Cur_pick, h1, ↓SXd, SXu, slBounds, ↓sop, ↓aop, ↓reduceIte, LV.cells, AOp.dst, LV.I, LV.B, LV.U, LV.S, LV.nil, Nat.reduceEqDiff, Nat.reduceAdd, Nat.reduceMul, Nat.reduceSub, Nat.reduceLeDiff, Nat.reduceBEq, Nat.reduceDiv, Nat.reduceMod, Int.reduceToNat, Int.reduceLT, Int.reduceLE, Int.reduceAdd, Int.reduceSub, Int.reduceMul, Int.reduceEq, Int.reduceNeg, reduceCtorEq, resV, resAll, ARes.ev, LV.flat, ite_true, ite_false, exists_eq_left', exists_eq_left, keyOf, implies_true, fillC, capOf]
    refine callR_of (d_next h (by omega)) ?_
    rintro _ N ⟨⟨b, rfl, hb⟩, hd⟩
    have hm := fun (m : Nat) => Int.tmod_eq_emod_of_nonneg (a := (m : Int)) (b := n) (by omega)
    have hm2 := fun (m : Nat) => Int.emod_nonneg (m : Int) (b := n) (by omega)
    have hm3 := fun (m : Nat) => Int.emod_lt_of_pos (m : Int) (b := n) (by omega)
    by_cases h2 : n > 200
    · simp (disch := omega) only [h2, ↓SXd, SXu, slBounds, ↓sop, ↓aop, ↓reduceIte, LV.cells, AOp.dst, LV.I, LV.B, LV.U, LV.S, LV.nil, Nat.reduceEqDiff, Nat.reduceAdd, Nat.reduceMul, Nat.reduceSub, Nat.reduceLeDiff, Nat.reduceBEq, Nat.reduceDiv, Nat.reduceMod, Int.reduceToNat, Int.reduceLT, Int.reduceLE, Int.reduceAdd, Int.reduceSub, Int.reduceMul, Int.reduceEq, Int.reduceNeg, reduceCtorEq, resV, resAll, ARes.ev, LV.flat, ite_true, ite_false, exists_eq_left', exists_eq_left, keyOf, implies_true, fillC, capOf]
      refine callR_of (d_next hd.1 (by omega)) ?_
      rintro _ N2 ⟨⟨b2, rfl, hb2⟩, hd2⟩
      simp (disch := omega) only [ne_eq, hn0, not_false_eq_true, ↓SXd, SXu, slBounds, ↓sop, ↓aop, ↓reduceIte, LV.cells, AOp.dst, LV.I, LV.B, LV.U, LV.S, LV.nil, Nat.reduceEqDiff, Nat.reduceAdd, Nat.reduceMul, Nat.reduceSub, Nat.reduceLeDiff, Nat.reduceBEq, Nat.reduceDiv, Nat.reduceMod, Int.reduceToNat, Int.reduceLT, Int.reduceLE, Int.reduceAdd, Int.reduceSub, Int.reduceMul, Int.reduceEq, Int.reduceNeg, reduceCtorEq, resV, resAll, ARes.ev, LV.flat, ite_true, ite_false, exists_eq_left', exists_eq_left, keyOf, implies_true, fillC, capOf]
      have e := hm (b * 256 + b2)
      have e2 := hm2 (b * 256 + b2)
      have e3 := hm3 (b * 256 + b2)
      refine ⟨⟨(((b * 256 + b2 : Nat) : Int) % n).toNat, ?_, .inl (by omega)⟩, hd.trans hd2⟩
      rw [Int.toNat_of_nonneg e2, ← e]
      rw [Int.natCast_add, Int.natCast_mul]; rfl
    · simp (disch := omega) only [h2, ne_eq, hn0, not_false_eq_true, ↓SXd, SXu, slBounds, ↓sop, ↓aop, ↓reduceIte, LV.cells, AOp.dst, LV.I, LV.B, LV.U, LV.S, LV.nil, Nat.reduceEqDiff, Nat.reduceAdd, Nat.reduceMul, Nat.reduceSub, Nat.reduceLeDiff, Nat.reduceBEq, Nat.reduceDiv, Nat.reduceMod, Int.reduceToNat, Int.reduceLT, Int.reduceLE, Int.reduceAdd, Int.reduceSub, Int.reduceMul, Int.reduceEq, Int.reduceNeg, reduceCtorEq, resV, resAll, ARes.ev, LV.flat, ite_true, ite_false, exists_eq_left', exists_eq_left, keyOf, implies_true, fillC, capOf]
      have e := hm b
      have e2 := hm2 b
      have e3 := hm3 b
      refine ⟨⟨((b : Int) % n).toNat, by rw [Int.toNat_of_nonneg e2, ← e], .inl (by omega)⟩, ?_⟩
      exact ⟨hd.1.keep (fun _ _ => rfl) (by omega), hd.2⟩
theorem d_one {n : Int} (h : CurAt M p t o bs a) (ha : a ≤ 999990) : CallsR PG F.spec_l1Cur_one [.ptr p 0, .I n] M fun v N => (∃ b : Bool, v = .B b) ∧ DrawN M p t o bs (a + 2) N := by
  refine callsR_run K.spec_l1Cur_one rfl ?_
  simp (disch := omega) only [C.spec_l1Cur_one, ↓SXd, SXu, slBounds, ↓sop, ↓aop, ↓reduceIte, LV.cells, AOp.dst, LV.I, LV.B, LV.U, LV.S, LV.nil, Nat.reduceEqDiff, Nat.reduceAdd, Nat.reduceMul, Nat.reduceSub, Nat.reduceLeDiff, Nat.reduceBEq, Nat.reduceDiv, Nat.reduceMod, Int.reduceToNat, Int.reduceLT, Int.reduceLE, Int.reduceAdd, Int.reduceSub, Int.reduceMul, Int.reduceEq, Int.reduceNeg, reduceCtorEq, resV, resAll, ARes.ev, LV.flat, ite_true, ite_false, exists_eq_left', exists_eq_left, keyOf, implies_true, fillC, capOf]
  refine callR_of (d_pick h ha) ?_
  rintro _ N ⟨⟨b, rfl, _⟩, hd⟩
  simp (disch := omega) only [↓SXd, SXu, slBounds, ↓sop, ↓aop, ↓reduceIte, LV.cells, AOp.dst, LV.I, LV.B, LV.U, LV.S, LV.nil, Nat.reduceEqDiff, Nat.reduceAdd, Nat.reduceMul, Nat.reduceSub, Nat.reduceLeDiff, Nat.reduceBEq, Nat.reduceDiv, Nat.reduceMod, Int.reduceToNat, Int.reduceLT, Int.reduceLE, Int.reduceAdd, Int.reduceSub, Int.reduceMul, Int.reduceEq, Int.reduceNeg, reduceCtorEq, resV, resAll, ARes.ev, LV.flat, ite_true, ite_false, exists_eq_left', exists_eq_left, keyOf, implies_true, fillC, capOf]
  exact ⟨⟨_, rfl⟩, hd⟩
theorem d_among {u q : Nat} {xs : List Int} (h : CurAt M p t o bs a) (ha : a ≤ 999990) (hx : Ints M u q xs) (hu : u ≠ p) (h0 : 0 < xs.length) (hxl : xs.length ≤ 1000) : CallsR PG F.spec_l1Cur_among [.ptr p 0, .ref u q xs.length] M fun v N => (∃ b : Int, v = .I b ∧ b ∈ xs) ∧ DrawN M p t o bs (a + 2) N := by
  refine callsR_run K.spec_l1Cur_among rfl ?_
  simp (disch := omega) only [C.spec_l1Cur_among, ↓SXd, SXu, slBounds, ↓sop, ↓aop, ↓reduceIte, LV.cells, AOp.dst, LV.I, LV.B, LV.U, LV.S, LV.nil, Nat.reduceEqDiff, Nat.reduceAdd, Nat.reduceMul, Nat.reduceSub, Nat.reduceLeDiff, Nat.reduceBEq, Nat.reduceDiv, Nat.reduceMod, Int.reduceToNat, Int.reduceLT, Int.reduceLE, Int.reduceAdd, Int.reduceSub, Int.reduceMul, Int.reduceEq, Int.reduceNeg, reduceCtorEq, resV, resAll, ARes.ev, LV.flat, ite_true, ite_false, exists_eq_left', exists_eq_left, keyOf, implies_true, fillC, capOf]
  refine callR_of (d_pick h ha) ?_
  rintro _ N ⟨⟨b, rfl, hb⟩, hd⟩
  have hbl : b < xs.length := by omega
  have hg := Ints.get (Has.at' hx (hd.2.2 u hx.lt hu)) hbl
  simp (disch := omega) only [hg, Nat.mul_one, ↓SXd, SXu, slBounds, ↓sop, ↓aop, ↓reduceIte, LV.cells, AOp.dst, LV.I, LV.B, LV.U, LV.S, LV.nil, Nat.reduceEqDiff, Nat.reduceAdd, Nat.reduceMul, Nat.reduceSub, Nat.reduceLeDiff, Nat.reduceBEq, Nat.reduceDiv, Nat.reduceMod, Int.reduceToNat, Int.reduceLT, Int.reduceLE, Int.reduceAdd, Int.reduceSub, Int.reduceMul, Int.reduceEq, Int.reduceNeg, reduceCtorEq, resV, resAll, ARes.ev, LV.flat, ite_true, ite_false, exists_eq_left', exists_eq_left, keyOf, implies_true, fillC, capOf]
  exact ⟨⟨_, rfl, getD_mem' hbl⟩, hd⟩
end
end Go.Ab

/- Contracts: the laws' helpers on lists of numbers; cuts at an if. -/
namespace Go.Ab
open Go
set_option linter.unusedSimpArgs false
set_option linter.unusedVariables false
set_option maxRecDepth 20000

/-- An if, and then the rest: the rest is shown once. -/
theorem cond_cut {P : Program} {v : LV} {a b c : ACode} {fr : Fr} {M : Mem} {Q : AExit → Fr → Mem → Prop} (I : Fr → Mem → Prop) (h : condC v P a b fr M (thenK I Q)) (hb : ∀ fr M, I fr M → EvC P c fr M Q) : condC v P a b fr M (seqK P c Q) := by
  have hm : ∀ e fr M, thenK I Q e fr M → seqK P c Q e fr M := fun e fr M hh => by
    cases e with
    | normal => exact hb _ _ hh
    | exit i => exact hh
    | ret => exact hh
  have key : ∀ {A A' B B' : Prop}, (A → A') → (B → B') → condV v A B → condV v A' B' := fun {A A' B B'} h1 h2 h => by
    unfold condV at *
    split
    · exact ⟨fun e => h1 (h.1 e), fun e => h2 (h.2 e)⟩
    · rename_i hne
      split at h
      · exact (hne _ rfl).elim
      · exact h
  exact key (evc_mono hm) (evc_mono hm) h
theorem k_vBig {t o : Nat} {n : Nat} {M : Mem} (hn : n ≤ 9223372036854775807) : CallsTo PG F.laws_vBig [.ref t o n] M (.B (decide ((65536 : Int) < n))) M := by
  refine calls_run K.laws_vBig rfl ?_
  simp (disch := omega) only [C.laws_vBig, ↓SXd, SXu, slBounds, ↓sop, ↓aop, ↓reduceIte, LV.cells, AOp.dst, LV.I, LV.B, LV.U, LV.S, LV.nil, Nat.reduceEqDiff, Nat.reduceAdd, Nat.reduceMul, Nat.reduceSub, Nat.reduceLeDiff, Nat.reduceBEq, Nat.reduceDiv, Nat.reduceMod, Int.reduceToNat, Int.reduceLT, Int.reduceLE, Int.reduceAdd, Int.reduceSub, Int.reduceMul, Int.reduceEq, Int.reduceNeg, reduceCtorEq, resV, resAll, ARes.ev, LV.flat, ite_true, ite_false, exists_eq_left', exists_eq_left, keyOf, implies_true, fillC, capOf]
  exact cmp_drop0 rfl
theorem IntsV.lenV {N : Mem} {v : LV} {l : List Int} (h : IntsV N v l) : lenV v = some (l.length : Int) := by
  rcases h with ⟨rfl, rfl⟩ | ⟨t, o, rfl, _⟩ <;> rfl
theorem IntsV.at {N : Mem} {v : LV} {l : List Int} {k : Nat} (h : IntsV N v l) (hk : k < l.length) : ∃ t o, v = .ref t o l.length ∧ getCell N t (o + k) = some (.I (l.getD k 0)) := by
  rcases h with ⟨rfl, rfl⟩ | ⟨t, o, rfl, h⟩
  · simp at hk
  · exact ⟨t, o, rfl, Ints.get h hk⟩
end Go.Ab

/- The abstract code of some functions (written by a program of mine from the translation, by way of prepF). -/
namespace Go.Ab.C
open Go.Ab
end Go.Ab.C

/- That the program has this code. -/
namespace Go.Ab.K
open Go Go.Ab
end Go.Ab.K

/- A nil slice may be taken for an empty one that lies nowhere. -/
namespace Go.Ab
open Go

def Den1 (t : Nat) (a b : LV) : Prop := a = b ∨ (a = .nil ∧ b = .ref t 0 0)
def Den0 (t : Nat) (a b : LV) : Prop := Den1 t a b ∨ ∃ cs ds, a = .agg cs ∧ b = .agg ds ∧ All2 (Den1 t) cs ds
def Den (t : Nat) (a b : LV) : Prop := Den0 t a b ∨ ∃ cs ds, a = .tup cs ∧ b = .tup ds ∧ All2 (Den0 t) cs ds
theorem Den1.rfl {t : Nat} {a : LV} : Den1 t a a := .inl (Eq.refl a)
theorem Den0.rfl {t : Nat} {a : LV} : Den0 t a a := .inl .rfl
theorem Den1.nil {t : Nat} : Den1 t .nil (.ref t 0 0) := .inr ⟨Eq.refl _, Eq.refl _⟩
theorem All2.thru {α β γ : Type} {R : α → β → Prop} {S : α → γ → Prop} {T : γ → β → Prop} (h : ∀ a b c, R a b → S a c → T c b) : ∀ {l1 : List α} {l2 : List β} {l3 : List γ}, All2 R l1 l2 → All2 S l1 l3 → All2 T l3 l2
  | [], [], [], _, _ => trivial
  | _ :: _, _ :: _, _ :: _, h1, h2 => ⟨h _ _ _ h1.1 h2.1, All2.thru h h1.2 h2.2⟩
  | [], _ :: _, _, h1, _ => h1.elim
  | _ :: _, [], _, h1, _ => h1.elim
  | [], _, _ :: _, _, h2 => h2.elim
  | _ :: _, _, [], _, h2 => h2.elim
section
variable {G : Gh} {t : Nat} {β : Base} (hg : G t = some β)
include hg
theorem VR1.den {a b : LV} {x : Value} (h : VR1 G a x) (k : Den1 t a b) : VR1 G b x := by
  rcases k with rfl | ⟨rfl, rfl⟩
  · exact h
  · obtain ⟨rfl, _⟩ := h
    exact ⟨β, hg, none, 0, rfl, .inl ⟨rfl, rfl⟩⟩
theorem VR0.den {a b : LV} {x : Value} (h : VR0 G a x) (k : Den0 t a b) : VR0 G b x := by
  rcases k with k | ⟨cs, ds, rfl, rfl, k⟩
  · rcases k with rfl | ⟨rfl, rfl⟩
    · exact h
    · exact VR1.den hg (a := .nil) (b := .ref t 0 0) h .nil
  · obtain ⟨xs, h1, h2⟩ := h
    exact ⟨xs, h1, All2.thru (R := VR1 G) (S := Den1 t) (T := VR1 G) (fun _ _ _ p q => VR1.den hg p q) h2 k⟩
theorem VR.den {a b : LV} {x : Value} (h : VR G a x) (k : Den t a b) : VR G b x := by
  rcases k with k | ⟨cs, ds, rfl, rfl, k⟩
  · rcases k with k | ⟨cs, ds, rfl, rfl, k⟩
    · rcases k with rfl | ⟨rfl, rfl⟩
      · exact h
      · exact VR1.den hg (a := .nil) (b := .ref t 0 0) h .nil
    · exact VR0.den hg (a := .agg cs) (b := .agg ds) h (.inr ⟨cs, ds, rfl, rfl, k⟩)
  · obtain ⟨xs, h1, h2⟩ := h
    exact ⟨xs, h1, All2.thru (R := VR0 G) (S := Den0 t) (T := VR0 G) (fun _ _ _ p q => VR0.den hg p q) h2 k⟩
end
theorem CallsR.den {P : Program} {f : FuncId} {args : List LV} {M : Mem} {A B : LV → Mem → Prop} {e : Nat} (h : CallsR P f args M A) (hab : ∀ v N, A v N → B v N ∨ ∃ v', Den N.length v v' ∧ B v' (N ++ [some (.row [] true e)])) : CallsR P f args M B := by
  refine ⟨h.1, fun G w xs hi hx => (h.2 G w xs hi hx).mono fun r w' ⟨v, N, x, G', h1, h2, h3, h4, h5⟩ => ?_⟩
  rcases hab v N h1 with hb | ⟨v', hd, hb⟩
  · exact ⟨v, N, x, G', hb, h2, h3, h4, h5⟩
  have hno := h4.top N.length (Nat.le_refl _)
  have hxt : Ext G' (G'.put N.length ⟨0, 0, e, 0, true⟩) := Gh.put_ext hno
  have hat : (G'.put N.length ⟨0, 0, e, 0, true⟩) N.length = some ⟨0, 0, e, 0, true⟩ := by simp [Gh.put]
  refine ⟨v', _, x, G'.put N.length ⟨0, 0, e, 0, true⟩, hb, h2, VR.den hat (VR.ext hxt h3) hd, ⟨fun t b hl => ?_, fun t t' b b' γ γ' hne hl hl' ho hγ hγ' hv hv' => ?_, fun t ht => ?_⟩, ⟨fun t ht => ?_, by have := h5.len; simp; omega, h5.size, h5.os, h5.tape, h5.output, h5.keep, fun b hb => ?_, fun t b hl ho => ?_⟩⟩
  · rcases live_push hl with ⟨_, h6⟩ | ⟨rfl, rfl⟩
    · obtain ⟨γ, hγ, he⟩ := h4.emb t b h6
      exact ⟨γ, hxt _ _ hγ, he.ext hxt fun _ => rfl⟩
    · exact ⟨_, hat, rfl, .inl ⟨rfl, rfl⟩⟩
  · rcases live_push hl with ⟨hlt, h6⟩ | ⟨rfl, rfl⟩
    · rcases live_push hl' with ⟨hlt', h7⟩ | ⟨rfl, rfl⟩
      · unfold Gh.put at hγ hγ'
        rw [if_neg (by omega)] at hγ hγ'
        exact h4.sep t t' b b' γ γ' hne h6 h7 ho hγ hγ' hv hv'
      · rw [hat] at hγ'; cases hγ'; cases hv'
    · rw [hat] at hγ; cases hγ; cases hv
  · simp at ht
    unfold Gh.put
    rw [if_neg (by omega)]
    exact h4.top t (by omega)
  · have := h5.len
    unfold Gh.put
    rw [if_neg (by omega)]
    exact h5.gh t ht
  · refine h5.own b ?_
    obtain ⟨t, blk, γ, hl, ho, hγ, hv, hbb⟩ := hb
    rcases live_push hl with ⟨hlt, h6⟩ | ⟨rfl, rfl⟩
    · unfold Gh.put at hγ
      rw [if_neg (by omega)] at hγ
      exact ⟨t, blk, γ, h6, ho, hγ, hv, hbb⟩
    · rw [hat] at hγ; cases hγ; cases hv
  · rcases live_push hl with ⟨_, h6⟩ | ⟨rfl, rfl⟩
    · exact h5.ro t b h6 ho
    · cases ho
end Go.Ab

/- The abstract code of some functions (written by a program of mine from the translation, by way of prepF). -/
namespace Go.Ab.C
open Go.Ab
end Go.Ab.C

/- That the program has this code. -/
namespace Go.Ab.K
open Go Go.Ab
end Go.Ab.K

/- The abstract code of some functions (written by a program of mine from the translation, by way of prepF). -/
namespace Go.Ab.C
open Go.Ab
end Go.Ab.C

/- That the program has this code. -/
namespace Go.Ab.K
open Go Go.Ab
end Go.Ab.K

/- The abstract code of some functions (written by a program of mine from the translation, by way of prepF). -/
namespace Go.Ab.C
open Go.Ab
end Go.Ab.C

/- That the program has this code. -/
namespace Go.Ab.K
open Go Go.Ab
end Go.Ab.K

/- The abstract code of some functions (written by a program of mine from the translation, by way of prepF). -/
namespace Go.Ab.C
open Go.Ab
def spec_l1Cur_heap : AFn :=
 ⟨1, 56, [.cellN 2 4],
 .seq (.ops [(none, .alloc 2 [(.I 0), (.I 0), (.I 0), .nil])])
 (.seq (.ops [(none, .mv 8 (.t 0)),
 (none, .call (some 9) F.spec_l1Cur_sides [(.t 8)]),
 (none, .mv 7 (.t 9)),
 (none, .extract 10 (.t 7) 0),
 (none, .extract 11 (.t 7) 1),
 (none, .extract 12 (.t 7) 2),
 (none, .mv 3 (.t 10)),
 (none, .mv 4 (.t 11)),
 (none, .mv 5 (.t 12))])
 (.seq (.ops [(none, .mv 13 (.t 0)),
 (none, .mv 14 (.t 3)),
 (none, .mv 15 (.t 4)),
 (none, .mv 16 (.t 5)),
 (none, .call (some 17) F.spec_l1Cur_someHeap [(.t 13), (.t 14), (.t 15), (.t 16)]),
 (none, .alloc 6 [(.I 0), (.I 0), (.I 0), .nil]),
 (none, .store 4 (.t 6) (.t 17))])
 (.seq (.seq (.ops [(none, .mv 18 (.t 0)),
 (none, .call (some 19) F.spec_l1Cur_pick [(.t 18), (.c (.I 60))])])
 (.block 0 (.seq (.ops [(none, .bin 21 .eql (.t 19) (.c (.I 0))),
 (none, .mv 20 (.t 21))])
 (.cond (.t 20) (.ops [(none, .fieldAddr 22 (.t 6) 3),
 (none, .load1 23 (.t 22)),
 (none, .mv 24 (.t 3)),
 (none, .build 25 [(.I 0), (.I 0), (.I 0)] [(0, 1, (.t 24)), (1, 1, (.c (.I 0))), (2, 1, (.c (.I 0)))]),
 (none, .buildSl 26 1 3 [(.I 0), (.I 0), (.I 0)] [(0, 3, (.t 25))]),
 (none, .append 27 3 24 (.t 23) (.t 26)),
 (none, .fieldAddr 28 (.t 6) 3),
 (none, .store 1 (.t 28) (.t 27))])
 (.seq (.ops [(none, .bin 30 .eql (.t 19) (.c (.I 1))),
 (none, .mv 29 (.t 30))])
 (.cond (.t 29) (.ops [(none, .fieldAddr 31 (.t 6) 3),
 (none, .load1 32 (.t 31)),
 (none, .build 33 [(.I 0), (.I 0), (.I 0)] [(0, 1, (.c (.I (-1)))), (1, 1, (.c (.I 0))), (2, 1, (.c (.I 0)))]),
 (none, .buildSl 34 1 3 [(.I 0), (.I 0), (.I 0)] [(0, 3, (.t 33))]),
 (none, .append 35 3 24 (.t 32) (.t 34)),
 (none, .fieldAddr 36 (.t 6) 3),
 (none, .store 1 (.t 36) (.t 35))])
 (.seq (.ops [(none, .bin 38 .eql (.t 19) (.c (.I 2))),
 (none, .mv 37 (.t 38))])
 (.cond (.t 37) (.seq (.ops [(none, .fieldAddr 39 (.t 6) 3),
 (none, .load1 40 (.t 39)),
 (none, .len 41 (.t 40)),
 (none, .bin 42 .gtr (.t 41) (.c (.I 0)))])
 (.cond (.t 42) (.draw [⟨(none, .fieldAddr 43 (.t 6) 3), [], []⟩,
 ⟨(none, .load1 44 (.t 43)), [], []⟩,
 ⟨(none, .fieldAddr 45 (.t 6) 3), [], []⟩,
 ⟨(none, .load1 46 (.t 45)), [], []⟩,
 ⟨(none, .idxS 47 3 (.t 46) (.c (.I 0))), [], []⟩,
 ⟨(none, .loadN 48 3 (.t 47)), [], []⟩,
 ⟨(none, .buildSl 49 1 3 [(.I 0), (.I 0), (.I 0)] [(0, 3, (.t 48))]), [], []⟩,
 ⟨(none, .append 50 3 24 (.t 44) (.t 49)), [], []⟩,
 ⟨(none, .fieldAddr 51 (.t 6) 3), [], []⟩,
 ⟨(none, .store 1 (.t 51) (.t 50)), [], []⟩])
 (.skip)))
 (.seq (.ops [(none, .bin 53 .eql (.t 19) (.c (.I 3))),
 (none, .mv 52 (.t 53))])
 (.cond (.t 52) (.seq (.ops [(none, .build 54 [(.I 0), (.I 0), (.I 0), .nil] []),
 (none, .store 4 (.t 2) (.t 54))])
 (.ret))
 (.skip)))))))))))
 (.seq (.ops [(none, .loadN 55 4 (.t 6)),
 (none, .store 4 (.t 2) (.t 55))])
 (.ret)))))⟩
end Go.Ab.C

/- That the program has this code. -/
namespace Go.Ab.K
open Go Go.Ab
theorem spec_l1Cur_heap : prepF Go.Proofs.Try.prog F.spec_l1Cur_heap = some C.spec_l1Cur_heap := by kernel_rfl
end Go.Ab.K

/- The abstract code of some functions (written by a program of mine from the translation, by way of prepF). -/
namespace Go.Ab.C
open Go.Ab
def spec_l1Cur_sides : AFn :=
 ⟨1, 37, [.tmp 2, .tmp 3, .tmp 4],
 .seq (.ops [(none, .mv 2 (.c (.I 0))),
 (none, .mv 3 (.c (.I 0))),
 (none, .mv 4 (.c (.I 0)))])
 (.seq (.ops [(none, .mv 8 (.t 0)),
 (none, .buildSl 9 5 1 [(.I 0), (.I 0), (.I 0), (.I 0), (.I 0)] [(0, 1, (.c (.I 2))), (1, 1, (.c (.I 3))), (2, 1, (.c (.I 3))), (3, 1, (.c (.I 1))), (4, 1, (.c (.I 4)))]),
 (none, .call (some 10) F.spec_l1Cur_among [(.t 8), (.t 9)]),
 (none, .mv 11 (.t 0)),
 (none, .buildSl 12 5 1 [(.I 0), (.I 0), (.I 0), (.I 0), (.I 0)] [(0, 1, (.c (.I 2))), (1, 1, (.c (.I 3))), (2, 1, (.c (.I 2))), (3, 1, (.c (.I 1))), (4, 1, (.c (.I 4)))]),
 (none, .call (some 13) F.spec_l1Cur_among [(.t 11), (.t 12)]),
 (none, .mv 14 (.t 0)),
 (none, .buildSl 15 5 1 [(.I 0), (.I 0), (.I 0), (.I 0), (.I 0)] [(0, 1, (.c (.I 2))), (1, 1, (.c (.I 3))), (2, 1, (.c (.I 3))), (3, 1, (.c (.I 1))), (4, 1, (.c (.I 4)))]),
 (none, .call (some 16) F.spec_l1Cur_among [(.t 14), (.t 15)]),
 (none, .mv 5 (.t 10)),
 (none, .mv 6 (.t 13)),
 (none, .mv 7 (.t 16))])
 (.seq (.seq (.ops [(none, .mv 17 (.t 0)),
 (none, .call (some 18) F.spec_l1Cur_pick [(.t 17), (.c (.I 60))])])
 (.block 0 (.seq (.ops [(none, .bin 20 .eql (.t 18) (.c (.I 0))),
 (none, .mv 19 (.t 20))])
 (.cond (.t 19) (.ops [(none, .mv 21 (.t 0)),
 (none, .buildSl 22 4 1 [(.I 0), (.I 0), (.I 0), (.I 0)] [(0, 1, (.c (.I 0))), (1, 1, (.c (.I 5))), (2, 1, (.c (.I (-1)))), (3, 1, (.c (.I 4611686018427387904)))]),
 (none, .call (some 23) F.spec_l1Cur_among [(.t 21), (.t 22)]),
 (none, .mv 5 (.t 23))])
 (.seq (.ops [(none, .bin 25 .eql (.t 18) (.c (.I 1))),
 (none, .mv 24 (.t 25))])
 (.cond (.t 24) (.ops [(none, .mv 26 (.t 0)),
 (none, .buildSl 27 3 1 [(.I 0), (.I 0), (.I 0)] [(0, 1, (.c (.I 0))), (1, 1, (.c (.I 5))), (2, 1, (.c (.I (-1))))]),
 (none, .call (some 28) F.spec_l1Cur_among [(.t 26), (.t 27)]),
 (none, .mv 6 (.t 28))])
 (.seq (.ops [(none, .bin 30 .eql (.t 18) (.c (.I 2))),
 (none, .mv 29 (.t 30))])
 (.cond (.t 29) (.ops [(none, .mv 31 (.t 0)),
 (none, .buildSl 32 3 1 [(.I 0), (.I 0), (.I 0)] [(0, 1, (.c (.I 0))), (1, 1, (.c (.I 5))), (2, 1, (.c (.I (-1))))]),
 (none, .call (some 33) F.spec_l1Cur_among [(.t 31), (.t 32)]),
 (none, .mv 7 (.t 33))])
 (.skip)))))))))
 (.seq (.ops [(none, .mv 34 (.t 5)),
 (none, .mv 35 (.t 6)),
 (none, .mv 36 (.t 7)),
 (none, .mv 2 (.t 34)),
 (none, .mv 3 (.t 35)),
 (none, .mv 4 (.t 36))])
 (.ret))))⟩
def spec_l1Cur_someHeap : AFn :=
 ⟨4, 64, [.cellN 8 4],
 .seq (.ops [(none, .alloc 8 [(.I 0), (.I 0), (.I 0), .nil])])
 (.seq (.ops [(none, .mv 13 (.t 1)),
 (none, .mv 14 (.t 2)),
 (none, .mv 15 (.t 3)),
 (none, .call (some 16) F.spec_l2Empty [(.t 13), (.t 14), (.t 15)]),
 (none, .mv 17 (.t 0)),
 (none, .buildSl 18 4 1 [(.I 0), (.I 0), (.I 0), (.I 0)] [(0, 1, (.c (.I 2))), (1, 1, (.c (.I 3))), (2, 1, (.c (.I 2))), (3, 1, (.c (.I 4)))]),
 (none, .call (some 19) F.spec_l1Cur_among [(.t 17), (.t 18)]),
 (none, .alloc 9 [(.I 0), (.I 0), (.I 0), .nil]),
 (none, .store 4 (.t 9) (.t 16)),
 (none, .mv 10 (.t 19))])
 (.seq (.seq (.ops [(none, .mv 20 (.t 1)),
 (none, .mv 21 (.t 2)),
 (none, .mv 22 (.t 3)),
 (none, .call (some 23) F.spec_l2Sides [(.t 20), (.t 21), (.t 22)]),
 (none, .un 24 .not (.t 23))])
 (.cond (.t 24) (.seq (.ops [(none, .loadN 25 4 (.t 9)),
 (none, .store 4 (.t 8) (.t 25))])
 (.ret))
 (.skip)))
 (.seq (.ops [(none, .loadN 26 4 (.t 9)),
 (none, .call (some 27) F.spec_l2All [(.t 26)]),
 (none, .mv 11 (.t 27))])
 (.seq (.seq (.ops [(none, .mv 12 (.c (.I 0)))])
 (.block 0 (.loop (.seq (.seq (.ops [(none, .mv 28 (.t 12)),
 (none, .mv 29 (.t 11)),
 (none, .len 30 (.t 29)),
 (none, .bin 31 .lss (.t 28) (.t 30))])
 (.cond (.t 31) (.skip)
 (.exit 0)))
 (.seq (.block 1 (.seq (.ops [(none, .mv 34 (.t 0)),
 (none, .mv 35 (.t 10)),
 (none, .call (some 36) F.spec_l1Cur_one [(.t 34), (.t 35)])])
 (.cond (.t 36) (.draw [⟨(none, .fieldAddr 37 (.t 9) 3), [], []⟩,
 ⟨(none, .load1 38 (.t 37)), [], []⟩,
 ⟨(none, .mv 39 (.t 11)), [], []⟩,
 ⟨(none, .mv 40 (.t 12)), [], []⟩,
 ⟨(none, .idxS 41 3 (.t 39) (.t 40)), [], []⟩,
 ⟨(none, .loadN 42 3 (.t 41)), [], []⟩,
 ⟨(none, .buildSl 43 1 3 [(.I 0), (.I 0), (.I 0)] [(0, 3, (.t 42))]), [], []⟩,
 ⟨(none, .append 44 3 24 (.t 38) (.t 43)), [], []⟩,
 ⟨(none, .fieldAddr 45 (.t 9) 3), [], []⟩,
 ⟨(none, .store 1 (.t 45) (.t 44)), [], []⟩])
 (.skip))))
 (.ops [(none, .mv 32 (.t 12)),
 (none, .bin 33 .add (.t 32) (.c (.I 1))),
 (none, .mv 12 (.t 33))]))))))
 (.seq (.seq (.ops [(none, .mv 46 (.t 0)),
 (none, .call (some 47) F.spec_l1Cur_pick [(.t 46), (.c (.I 12))])])
 (.block 2 (.seq (.ops [(none, .bin 49 .eql (.t 47) (.c (.I 0))),
 (none, .mv 48 (.t 49))])
 (.cond (.t 48) (.ops [(none, .loadN 51 4 (.t 9)),
 (none, .call (some 52) F.spec_OtherCells [(.t 51)]),
 (none, .mv 50 (.t 52)),
 (none, .extract 53 (.t 50) 0),
 (none, .extract 54 (.t 50) 1),
 (none, .store 4 (.t 9) (.t 53))])
 (.seq (.ops [(none, .bin 56 .eql (.t 47) (.c (.I 1))),
 (none, .mv 55 (.t 56))])
 (.cond (.t 55) (.ops [(none, .mv 57 (.t 1)),
 (none, .mv 58 (.t 2)),
 (none, .mv 59 (.t 3)),
 (none, .loadN 60 4 (.t 9)),
 (none, .call (some 61) F.spec_l2Heights [(.t 60)]),
 (none, .call (some 62) F.spec_l2Stack [(.t 57), (.t 58), (.t 59), (.t 61)]),
 (none, .store 4 (.t 9) (.t 62))])
 (.skip)))))))
 (.seq (.ops [(none, .loadN 63 4 (.t 9)),
 (none, .store 4 (.t 8) (.t 63))])
 (.ret)))))))⟩
def spec_l2Heights : AFn :=
 ⟨1, 5, [.tmp 2],
 .seq (.ops [(none, .box 1 (.t 0)),
 (none, .mv 2 (.c .nil))])
 (.seq (.ops [(none, .loadN 3 4 (.t 1)),
 (none, .call (some 4) F.spec_l2View [(.t 3), (.c (.I 2))]),
 (none, .mv 2 (.t 4))])
 (.ret))⟩
end Go.Ab.C

/- That the program has this code. -/
namespace Go.Ab.K
open Go Go.Ab
theorem spec_l1Cur_sides : prepF Go.Proofs.Try.prog F.spec_l1Cur_sides = some C.spec_l1Cur_sides := by kernel_rfl
theorem spec_l1Cur_someHeap : prepF Go.Proofs.Try.prog F.spec_l1Cur_someHeap = some C.spec_l1Cur_someHeap := by kernel_rfl
theorem spec_l2Heights : prepF Go.Proofs.Try.prog F.spec_l2Heights = some C.spec_l2Heights := by kernel_rfl
end Go.Ab.K

/- The abstract code of some functions (written by a program of mine from the translation, by way of prepF). -/
namespace Go.Ab.C
open Go.Ab
def spec_OtherCells : AFn :=
 ⟨1, 43, [.cellN 2 4, .tmp 3],
 .seq (.ops [(none, .box 1 (.t 0)),
 (none, .alloc 2 [(.I 0), (.I 0), (.I 0), .nil]),
 (none, .mv 3 (.c (.B false)))])
 (.seq (.seq (.ops [(none, .loadN 7 4 (.t 1)),
 (none, .call (some 8) F.spec_l2Heap [(.t 7)]),
 (none, .un 9 .not (.t 8))])
 (.cond (.t 9) (.seq (.ops [(none, .build 10 [(.I 0), (.I 0), (.I 0), .nil] []),
 (none, .store 4 (.t 2) (.t 10)),
 (none, .mv 3 (.c (.B false)))])
 (.ret))
 (.skip)))
 (.seq (.draw [⟨(none, .fieldAddr 11 (.t 1) 0), [], []⟩,
 ⟨(none, .load1 12 (.t 11)), [], []⟩,
 ⟨(none, .fieldAddr 13 (.t 1) 1), [], []⟩,
 ⟨(none, .load1 14 (.t 13)), [], []⟩,
 ⟨(none, .fieldAddr 15 (.t 1) 2), [], []⟩,
 ⟨(none, .load1 16 (.t 15)), [], []⟩,
 ⟨(none, .loadN 18 4 (.t 1)), [], []⟩,
 ⟨(none, .alloc 4 [(.I 0), (.I 0), (.I 0), .nil]), [], []⟩,
 ⟨(none, .call (some 17) F.spec_l2Empty [(.t 12), (.t 14), (.t 16)]), [7], [6]⟩,
 ⟨(none, .call (some 19) F.spec_l2All [(.t 18)]), [7], []⟩,
 ⟨(none, .store 4 (.t 4) (.t 17)), [], []⟩,
 ⟨(none, .mv 5 (.t 19)), [], []⟩])
 (.seq (.seq (.ops [(none, .mv 6 (.c (.I 0)))])
 (.block 0 (.loop (.seq (.seq (.ops [(none, .mv 20 (.t 6)),
 (none, .mv 21 (.t 5)),
 (none, .len 22 (.t 21)),
 (none, .bin 23 .lss (.t 20) (.t 22))])
 (.cond (.t 23) (.skip)
 (.exit 0)))
 (.seq (.block 1 (.seq (.draw [⟨(none, .loadN 26 4 (.t 1)), [], []⟩,
 ⟨(none, .mv 27 (.t 5)), [], []⟩,
 ⟨(none, .mv 28 (.t 6)), [], []⟩,
 ⟨(none, .idxS 29 3 (.t 27) (.t 28)), [], []⟩,
 ⟨(none, .loadN 30 3 (.t 29)), [], []⟩,
 ⟨(none, .call (some 31) F.spec_l2Has [(.t 26), (.t 30)]), [], []⟩,
 ⟨(none, .un 32 .not (.t 31)), [], []⟩])
 (.cond (.t 32) (.draw [⟨(none, .fieldAddr 33 (.t 4) 3), [], []⟩,
 ⟨(none, .load1 34 (.t 33)), [], []⟩,
 ⟨(none, .mv 35 (.t 5)), [], []⟩,
 ⟨(none, .mv 36 (.t 6)), [], []⟩,
 ⟨(none, .idxS 37 3 (.t 35) (.t 36)), [], []⟩,
 ⟨(none, .loadN 38 3 (.t 37)), [], []⟩,
 ⟨(none, .buildSl 39 1 3 [(.I 0), (.I 0), (.I 0)] [(0, 3, (.t 38))]), [], []⟩,
 ⟨(none, .append 40 3 24 (.t 34) (.t 39)), [], []⟩,
 ⟨(none, .fieldAddr 41 (.t 4) 3), [], []⟩,
 ⟨(none, .store 1 (.t 41) (.t 40)), [], []⟩])
 (.skip))))
 (.ops [(none, .mv 24 (.t 6)),
 (none, .bin 25 .add (.t 24) (.c (.I 1))),
 (none, .mv 6 (.t 25))]))))))
 (.seq (.ops [(none, .loadN 42 4 (.t 4)),
 (none, .store 4 (.t 2) (.t 42)),
 (none, .mv 3 (.c (.B true)))])
 (.ret)))))⟩
def spec_l2Stack : AFn :=
 ⟨4, 56, [.cellN 8 4],
 .seq (.ops [(none, .alloc 8 [(.I 0), (.I 0), (.I 0), .nil])])
 (.seq (.ops [(none, .mv 12 (.t 0)),
 (none, .mv 13 (.t 1)),
 (none, .mv 14 (.t 2)),
 (none, .call (some 15) F.spec_l2Empty [(.t 12), (.t 13), (.t 14)]),
 (none, .alloc 9 [(.I 0), (.I 0), (.I 0), .nil]),
 (none, .store 4 (.t 9) (.t 15))])
 (.seq (.ops [(none, .loadN 16 4 (.t 9)),
 (none, .call (some 17) F.spec_l2All [(.t 16)]),
 (none, .mv 10 (.t 17))])
 (.seq (.seq (.ops [(none, .mv 11 (.c (.I 0)))])
 (.block 0 (.loop (.seq (.seq (.ops [(none, .mv 18 (.t 11)),
 (none, .mv 19 (.t 10)),
 (none, .len 20 (.t 19)),
 (none, .bin 21 .lss (.t 18) (.t 20))])
 (.cond (.t 21) (.skip)
 (.exit 0)))
 (.seq (.block 1 (.seq (.draw [⟨(none, .mv 24 (.t 10)), [], []⟩,
 ⟨(none, .mv 25 (.t 11)), [], []⟩,
 ⟨(none, .idxS 26 3 (.t 24) (.t 25)), [], []⟩,
 ⟨(none, .idxA 27 3 1 (.t 26) (.c (.I 2))), [], []⟩,
 ⟨(none, .load1 28 (.t 27)), [], []⟩,
 ⟨(none, .mv 29 (.t 3)), [], []⟩,
 ⟨(none, .mv 30 (.t 10)), [], []⟩,
 ⟨(none, .mv 31 (.t 11)), [], []⟩,
 ⟨(none, .idxS 32 3 (.t 30) (.t 31)), [], []⟩,
 ⟨(none, .idxA 33 3 1 (.t 32) (.c (.I 0))), [], []⟩,
 ⟨(none, .load1 34 (.t 33)), [], []⟩,
 ⟨(none, .mv 35 (.t 1)), [], []⟩,
 ⟨(none, .bin 36 .mul (.t 34) (.t 35)), [], []⟩,
 ⟨(none, .mv 37 (.t 10)), [], []⟩,
 ⟨(none, .mv 38 (.t 11)), [], []⟩,
 ⟨(none, .idxS 39 3 (.t 37) (.t 38)), [], []⟩,
 ⟨(none, .idxA 40 3 1 (.t 39) (.c (.I 1))), [], []⟩,
 ⟨(none, .load1 41 (.t 40)), [], []⟩,
 ⟨(none, .bin 42 .add (.t 36) (.t 41)), [], []⟩,
 ⟨(none, .idxS 43 1 (.t 29) (.t 42)), [], []⟩,
 ⟨(none, .load1 44 (.t 43)), [], []⟩,
 ⟨(none, .bin 45 .lss (.t 28) (.t 44)), [], []⟩])
 (.cond (.t 45) (.draw [⟨(none, .fieldAddr 46 (.t 9) 3), [], []⟩,
 ⟨(none, .load1 47 (.t 46)), [], []⟩,
 ⟨(none, .mv 48 (.t 10)), [], []⟩,
 ⟨(none, .mv 49 (.t 11)), [], []⟩,
 ⟨(none, .idxS 50 3 (.t 48) (.t 49)), [], []⟩,
 ⟨(none, .loadN 51 3 (.t 50)), [], []⟩,
 ⟨(none, .buildSl 52 1 3 [(.I 0), (.I 0), (.I 0)] [(0, 3, (.t 51))]), [], []⟩,
 ⟨(none, .append 53 3 24 (.t 47) (.t 52)), [], []⟩,
 ⟨(none, .fieldAddr 54 (.t 9) 3), [], []⟩,
 ⟨(none, .store 1 (.t 54) (.t 53)), [], []⟩])
 (.skip))))
 (.ops [(none, .mv 22 (.t 11)),
 (none, .bin 23 .add (.t 22) (.c (.I 1))),
 (none, .mv 11 (.t 23))]))))))
 (.seq (.ops [(none, .loadN 55 4 (.t 9)),
 (none, .store 4 (.t 8) (.t 55))])
 (.ret)))))⟩
end Go.Ab.C

/- That the program has this code. -/
namespace Go.Ab.K
open Go Go.Ab
theorem spec_OtherCells : prepF Go.Proofs.Try.prog F.spec_OtherCells = some C.spec_OtherCells := by kernel_rfl
theorem spec_l2Stack : prepF Go.Proofs.Try.prog F.spec_l2Stack = some C.spec_l2Stack := by kernel_rfl
end Go.Ab.K

/- The abstract code of some functions (written by a program of mine from the translation, by way of prepF). -/
namespace Go.Ab.C
open Go.Ab
def impl_parity : AFn :=
 ⟨1, 27, [.tmp 2],
 .seq (.ops [(none, .mv 2 (.c (.I 0)))])
 (.seq (.ops [(none, .mv 3 (.c (.I 0)))])
 (.seq (.seq (.ops [(none, .mv 6 (.t 0)),
 (none, .len 7 (.t 6)),
 (none, .mv 8 (.c (.I 0)))])
 (.block 0 (.loop (.seq (.ops [(none, .bin 9 .lss (.t 8) (.t 7))])
 (.seq (.cond (.t 9) (.skip)
 (.exit 0))
 (.seq (.block 1 (.seq (.ops [(none, .idxS 10 3 (.t 6) (.t 8)),
 (none, .loadN 11 3 (.t 10)),
 (none, .alloc 5 [(.I 0), (.I 0), (.I 0)]),
 (none, .store 3 (.t 5) (.t 11))])
 (.ops [(none, .mv 12 (.t 3)),
 (none, .idxA 13 3 1 (.t 5) (.c (.I 0))),
 (none, .load1 14 (.t 13)),
 (none, .idxA 15 3 1 (.t 5) (.c (.I 1))),
 (none, .load1 16 (.t 15)),
 (none, .bin 17 .add (.t 14) (.t 16)),
 (none, .idxA 18 3 1 (.t 5) (.c (.I 2))),
 (none, .load1 19 (.t 18)),
 (none, .bin 20 .add (.t 17) (.t 19)),
 (none, .bin 21 .rem (.t 20) (.c (.I 2))),
 (none, .bin 22 .mul (.c (.I 2)) (.t 21)),
 (none, .bin 23 .sub (.c (.I 1)) (.t 22)),
 (none, .bin 24 .add (.t 12) (.t 23)),
 (none, .mv 3 (.t 24))])))
 (.ops [(none, .bin 25 .add (.t 8) (.c (.I 1))),
 (none, .mv 8 (.t 25))])))))))
 (.seq (.ops [(none, .mv 26 (.t 3)),
 (none, .mv 2 (.t 26))])
 (.ret))))⟩
def spec_l9Free : AFn :=
 ⟨1, 38, [.cellN 2 4],
 .seq (.ops [(none, .box 1 (.t 0)),
 (none, .alloc 2 [(.I 0), (.I 0), (.I 0), .nil])])
 (.seq (.ops [(none, .fieldAddr 6 (.t 1) 0),
 (none, .load1 7 (.t 6)),
 (none, .fieldAddr 8 (.t 1) 1),
 (none, .load1 9 (.t 8)),
 (none, .fieldAddr 10 (.t 1) 2),
 (none, .load1 11 (.t 10)),
 (none, .call (some 12) F.spec_l2Empty [(.t 7), (.t 9), (.t 11)]),
 (none, .alloc 3 [(.I 0), (.I 0), (.I 0), .nil]),
 (none, .store 4 (.t 3) (.t 12))])
 (.seq (.ops [(none, .loadN 13 4 (.t 1)),
 (none, .call (some 14) F.spec_l2All [(.t 13)]),
 (none, .mv 4 (.t 14))])
 (.seq (.seq (.ops [(none, .mv 5 (.c (.I 0)))])
 (.block 0 (.loop (.seq (.seq (.ops [(none, .mv 15 (.t 5)),
 (none, .mv 16 (.t 4)),
 (none, .len 17 (.t 16)),
 (none, .bin 18 .lss (.t 15) (.t 17))])
 (.cond (.t 18) (.skip)
 (.exit 0)))
 (.seq (.block 1 (.seq (.draw [⟨(none, .loadN 21 4 (.t 1)), [], []⟩,
 ⟨(none, .mv 22 (.t 4)), [], []⟩,
 ⟨(none, .mv 23 (.t 5)), [], []⟩,
 ⟨(none, .idxS 24 3 (.t 22) (.t 23)), [], []⟩,
 ⟨(none, .loadN 25 3 (.t 24)), [], []⟩,
 ⟨(none, .call (some 26) F.spec_l2Has [(.t 21), (.t 25)]), [], []⟩,
 ⟨(none, .un 27 .not (.t 26)), [], []⟩])
 (.cond (.t 27) (.draw [⟨(none, .fieldAddr 28 (.t 3) 3), [], []⟩,
 ⟨(none, .load1 29 (.t 28)), [], []⟩,
 ⟨(none, .mv 30 (.t 4)), [], []⟩,
 ⟨(none, .mv 31 (.t 5)), [], []⟩,
 ⟨(none, .idxS 32 3 (.t 30) (.t 31)), [], []⟩,
 ⟨(none, .loadN 33 3 (.t 32)), [], []⟩,
 ⟨(none, .buildSl 34 1 3 [(.I 0), (.I 0), (.I 0)] [(0, 3, (.t 33))]), [], []⟩,
 ⟨(none, .append 35 3 24 (.t 29) (.t 34)), [], []⟩,
 ⟨(none, .fieldAddr 36 (.t 3) 3), [], []⟩,
 ⟨(none, .store 1 (.t 36) (.t 35)), [], []⟩])
 (.skip))))
 (.ops [(none, .mv 19 (.t 5)),
 (none, .bin 20 .add (.t 19) (.c (.I 1))),
 (none, .mv 5 (.t 20))]))))))
 (.seq (.ops [(none, .loadN 37 4 (.t 3)),
 (none, .store 4 (.t 2) (.t 37))])
 (.ret)))))⟩
def impl_Heap_free : AFn :=
 ⟨1, 9, [.tmp 2],
 .seq (.ops [(none, .box 1 (.t 0)),
 (none, .mv 2 (.c (.U 0)))])
 (.seq (.draw [⟨(none, .loadN 3 4 (.t 1)), [], []⟩,
 ⟨(none, .loadN 6 4 (.t 1)), [], []⟩,
 ⟨(none, .call (some 4) F.impl_Heap_box [(.t 3)]), [], [1]⟩,
 ⟨(none, .call (some 5) F.impl_box_full [(.t 4)]), [], [1]⟩,
 ⟨(none, .call (some 7) F.impl_Heap_cubes [(.t 6)]), [], []⟩,
 ⟨(none, .bin 8 .andNot (.t 5) (.t 7)), [], []⟩,
 ⟨(none, .mv 2 (.t 8)), [], []⟩])
 (.ret))⟩
end Go.Ab.C

/- That the program has this code. -/
namespace Go.Ab.K
open Go Go.Ab
theorem impl_parity : prepF Go.Proofs.Try.prog F.impl_parity = some C.impl_parity := by kernel_rfl
theorem spec_l9Free : prepF Go.Proofs.Try.prog F.spec_l9Free = some C.spec_l9Free := by kernel_rfl
theorem impl_Heap_free : prepF Go.Proofs.Try.prog F.impl_Heap_free = some C.impl_Heap_free := by kernel_rfl
end Go.Ab.K

/- The abstract code of some functions (written by a program of mine from the translation, by way of prepF). -/
namespace Go.Ab.C
open Go.Ab
end Go.Ab.C

/- That the program has this code. -/
namespace Go.Ab.K
open Go Go.Ab
end Go.Ab.K

/- The abstract code of some functions (written by a program of mine from the translation, by way of prepF). -/
namespace Go.Ab.C
open Go.Ab
end Go.Ab.C

/- That the program has this code. -/
namespace Go.Ab.K
open Go Go.Ab
end Go.Ab.K

/- From the abstract machine to a row: a law that is called with what came in. -/
namespace Go.Ab
open Go Go.RowKit

/-- A memory of which nothing is ours. -/
def NoOwn (M : Mem) : Prop := ∀ t b, Live M t b → b.isOwn = false

theorem law_callsR {P : Program} {f : FuncId} {args : List LV} {M : Mem} {b : Bool} {G : Gh} {w : World} {xs : List Value} (hc : CallsR P f args M fun v _ => v = .B b) (hi : Inv G M w) (hn : NoOwn M) (hx : All2 (VR G) args xs) :
    Calls P f xs.toArray w fun e w' => e = .returned (.bool b) ∧ Below w.heap.size w w' := by
  refine (hc.2 G w xs hi hx).mono ?_
  rintro e w' ⟨v, N, x, G', rfl, rfl, h1, h2, h3⟩
  refine ⟨by rw [(vr_val h1).1], h3.os, h3.tape, h3.output, h3.size, fun k hk => h3.keep k hk ?_⟩
  rintro ⟨t, blk, β, hl, ho, _⟩
  rw [hn t blk hl] at ho; cases ho
end Go.Ab

/- A heap that came in, opened. -/
namespace Go.Ab
open Go Go.RowKit

section
variable {H : Type} {enc : TypeId × Value → H} {P : Program} {w : World} {held : Bool}

/-- What the abstract machine is told of a slice of cells that came in. -/
def RowOf (w : World) (a : Option Addr) (len cap : Nat) (cs : List Cell) : Prop :=
  cs.length = len ∧ len ≤ cap ∧ cap ≤ maxLen ∧ (cap = 0 ∨ ∃ b o c e fz, a = some ⟨b, o, none⟩ ∧ w.heap[b]? = some (.cells c e fz) ∧ ∀ i, i < len → ∀ j v, (cs.getD i default).row[j]? = some (.I v) → c[o + (i * 3 + j)]? = some (.int .i64 v))

theorem cell_heap {a : Addr} {v : Value} (h : w.cell? a = some v) : ∃ b o c e fz, a = ⟨b, o, none⟩ ∧ w.heap[b]? = some (.cells c e fz) ∧ c[o]? = some v := by
  unfold World.cell? at h
  split at h
  · rename_i c e fz hh
    split at h
    · cases h
    · rename_i hs
      obtain ⟨b, o, s⟩ := a
      cases s with
      | some s => simp at hs
      | none => exact ⟨b, o, c, e, fz, rfl, hh, h⟩
  · cases h

end

/-- A row that came in is laid into the abstract memory, to be read. -/
theorem Inv.addRow {G : Gh} {M : Mem} {w : World} (hi : Inv G M w) (hno : NoOwn M) {a : Option Addr} {len cap esz : Nat} {ls : List LV} (hl : len ≤ cap) (hll : ls.length ≤ cap * esz)
    (h : (cap = 0 ∧ ls = []) ∨ ∃ b o c e fz, a = some ⟨b, o, none⟩ ∧ w.heap[b]? = some (.cells c e fz) ∧ ∀ j l, ls[j]? = some l → ∃ x, c[o + j]? = some x ∧ VR1 G l x) :
    ∃ G', Ext G G' ∧ Inv G' (M ++ [some (.row ls false esz)]) w ∧ NoOwn (M ++ [some (.row ls false esz)]) ∧ VR1 G' (.ref M.length 0 len) (.slice a len cap) := by
  obtain ⟨β, hβ, hv⟩ : ∃ β : Base, (∀ G' : Gh, Ext G G' → EmbB G' w (.row ls false esz) β) ∧ (∀ G' : Gh, G' M.length = some β → VR1 G' (.ref M.length 0 len) (.slice a len cap)) := by
    rcases h with ⟨rfl, rfl⟩ | ⟨b, o, c, e, fz, rfl, hh, hc⟩
    · refine ⟨⟨0, 0, esz, 0, true⟩, fun G' _ => ⟨rfl, .inl ⟨rfl, rfl⟩⟩, fun G' hg => ⟨_, hg, a, 0, rfl, .inl ⟨by omega, rfl⟩⟩⟩
    · refine ⟨⟨b, o, esz, cap * esz, false⟩, fun G' hx => ⟨rfl, .inr ⟨rfl, c, e, fz, hh, (fun h => by cases h), hll, fun j l hj => ?_⟩⟩, fun G' hg => ⟨_, hg, _, cap, rfl, .inr ⟨rfl, rfl, hl, by simp⟩⟩⟩
      obtain ⟨x, h1, h2⟩ := hc j l hj
      exact ⟨x, h1, h2.ext hx⟩
  have hx : Ext G (G.put M.length β) := Gh.put_ext (hi.top _ (Nat.le_refl _))
  have hat : (G.put M.length β) M.length = some β := by simp [Gh.put]
  have hno' : NoOwn (M ++ [some (.row ls false esz)]) := fun t b hb => by
    rcases live_push hb with ⟨_, h1⟩ | ⟨_, rfl⟩
    · exact hno t b h1
    · rfl
  refine ⟨G.put M.length β, hx, ⟨fun t b hb => ?_, fun t t' b b' γ γ' _ hb _ ho => ?_, fun t ht => ?_⟩, hno', hv _ hat⟩
  · rcases live_push hb with ⟨hlt, h1⟩ | ⟨rfl, rfl⟩
    · obtain ⟨γ, hg, he⟩ := hi.emb t b h1
      exact ⟨γ, hx _ _ hg, he.ext hx fun _ => rfl⟩
    · exact ⟨β, hat, hβ _ hx⟩
  · rw [hno' t b hb] at ho; cases ho
  · simp at ht
    unfold Gh.put
    rw [if_neg (by omega)]
    exact hi.top t (by omega)

theorem Inv.none (w : World) : Inv (fun _ => Option.none) [] w := ⟨fun t b h => by unfold Live at h; simp at h, fun t t' b b' _ _ _ h => by unfold Live at h; simp at h, fun _ _ => rfl⟩
theorem NoOwn.none : NoOwn [] := fun t b h => by unfold Live at h; simp at h

end Go.Ab

/- A list of numbers that came in, opened. -/
namespace Go.Ab
open Go Go.RowKit Go.Joins Go.ChangeShapes Go.WideShapes Go.Deep Go.WideElems Go.Maps

/-- What the abstract machine is told of a slice of numbers that came in. -/
def RowOfI (w : World) (a : Option Addr) (len cap : Nat) (xs : List Int) : Prop :=
  xs.length = len ∧ len ≤ cap ∧ cap ≤ maxLen ∧ (cap = 0 ∨ ∃ b o c e fz, a = some ⟨b, o, none⟩ ∧ w.heap[b]? = some (.cells c e fz) ∧ ∀ i, i < len → c[o + i]? = some (.int .i64 (xs.getD i 0)))

section
variable {H : Type} {enc : TypeId × Value → H} {P : Program} {w : World} {held : Bool}
end

section
variable {H : Type} {enc : TypeId × Value → H} {P : Program} {w : World} {base : Nat} {spare : Nat → Bool} {held : Bool}
end
end Go.Ab

/- A list of lists of cells that came in, opened. -/
namespace Go.Ab
open Go Go.RowKit Go.Joins Go.ChangeShapes Go.WideShapes Go.Deep Go.WideElems Go.Maps
set_option linter.unusedVariables false

/-- Lists of cells in memory, to be read. -/
def Pcs (M : Mem) (t : Nat) (L : List (List Cell)) : Prop := ∃ refs, Has M t 0 refs ∧ refs.length = L.length ∧ ∀ i, i < L.length → ∃ u o, refs[i]? = some (.ref u o (L.getD i []).length) ∧ Tri M u o (L.getD i [])
theorem Pcs.pre {M N : Mem} {t : Nat} {L : List (List Cell)} (h : Pcs M t L) (hp : Pre M N) : Pcs N t L := by
  obtain ⟨refs, h1, h2, h3⟩ := h
  exact ⟨refs, h1.pre hp, h2, fun i hi => by obtain ⟨u, o, a, b⟩ := h3 i hi; exact ⟨u, o, a, b.pre hp⟩⟩
theorem Pcs.app {M K : Mem} {t : Nat} {L : List (List Cell)} (h : Pcs M t L) : Pcs (M ++ K) t L := h.pre (Pre.app _ _)
theorem Pcs.lt {M : Mem} {t : Nat} {L : List (List Cell)} (h : Pcs M t L) : t < M.length := by obtain ⟨refs, h1, _⟩ := h; exact h1.lt
theorem Pcs.get {M : Mem} {t i : Nat} {L : List (List Cell)} (h : Pcs M t L) (hi : i < L.length) : ∃ u o, getCell M t i = some (.ref u o (L.getD i []).length) ∧ Tri M u o (L.getD i []) := by
  obtain ⟨refs, h1, h2, h3⟩ := h
  obtain ⟨u, o, a, b⟩ := h3 i hi
  refine ⟨u, o, ?_, b⟩
  have := h1.get (k := i) (by omega)
  rw [Nat.zero_add] at this
  rw [this, a]

/-- What the abstract machine is told of a slice of slices of cells that came in. -/
def RowOfSS (w : World) (a : Option Addr) (len cap : Nat) (L : List (List Cell)) : Prop :=
  L.length = len ∧ len ≤ cap ∧ cap ≤ maxLen ∧ (cap = 0 ∨ ∃ b o c e fz, a = some ⟨b, o, none⟩ ∧ w.heap[b]? = some (.cells c e fz) ∧ ∀ i, i < len → ∃ a' len' cap', c[o + i]? = some (.slice a' len' cap') ∧ RowOf w a' len' cap' (L.getD i []))
section
variable {H : Type} {enc : TypeId × Value → H} {P : Program} {w : World} {held : Bool}
end
end Go.Ab
namespace Go.Ab
open Go
set_option linter.unusedVariables false
theorem max63 : maxLen ≤ 9223372036854775807 := by unfold maxLen; omega
theorem RowOf.le {w : World} {a : Option Addr} {len cap : Nat} {cs : List Cell} (h : RowOf w a len cap cs) : cs.length ≤ 9223372036854775807 := by
  obtain ⟨h0, h1, h2, _⟩ := h
  have := max63; omega
theorem RowOfI.le {w : World} {a : Option Addr} {len cap : Nat} {cs : List Int} (h : RowOfI w a len cap cs) : cs.length ≤ 9223372036854775807 := by
  obtain ⟨h0, h1, h2, _⟩ := h
  have := max63; omega
theorem RowOfSS.le {w : World} {a : Option Addr} {len cap : Nat} {L : List (List Cell)} (h : RowOfSS w a len cap L) : L.length ≤ 9223372036854775807 ∧ ∀ l ∈ L, l.length ≤ 9223372036854775807 := by
  obtain ⟨h0, h1, h2, h3⟩ := h
  have := max63
  refine ⟨by omega, fun l hl => ?_⟩
  obtain ⟨i, hi, rfl⟩ := List.getElem_of_mem hl
  rcases h3 with h3 | ⟨b, o, c, e, fz, _, _, h3⟩
  · omega
  · obtain ⟨a', l', c', _, h4⟩ := h3 i (by omega)
    have := h4.le
    simpa [hi] using this
end Go.Ab

/- The abstract code of some functions (written by a program of mine from the translation, by way of prepF). -/
namespace Go.Ab.C
open Go.Ab
end Go.Ab.C

/- That the program has this code. -/
namespace Go.Ab.K
open Go Go.Ab
end Go.Ab.K

/- The abstract code of some functions (written by a program of mine from the translation, by way of prepF). -/
namespace Go.Ab.C
open Go.Ab
def spec_l2Long : AFn :=
 ⟨2, 14, [.tmp 4],
 .seq (.ops [(none, .box 2 (.t 0)),
 (none, .mv 4 (.c (.I 0)))])
 (.seq (.ops [(none, .fieldAddr 5 (.t 2) 0),
 (none, .load1 6 (.t 5)),
 (none, .fieldAddr 7 (.t 2) 1),
 (none, .load1 8 (.t 7)),
 (none, .fieldAddr 9 (.t 2) 2),
 (none, .load1 10 (.t 9)),
 (none, .build 11 [(.I 0), (.I 0), (.I 0)] [(0, 1, (.t 6)), (1, 1, (.t 8)), (2, 1, (.t 10))]),
 (none, .mv 12 (.t 1)),
 (none, .index 13 3 1 false (.t 11) (.t 12)),
 (none, .mv 4 (.t 13))])
 (.ret))⟩
end Go.Ab.C

/- That the program has this code. -/
namespace Go.Ab.K
open Go Go.Ab
theorem spec_l2Long : prepF Go.Proofs.Try.prog F.spec_l2Long = some C.spec_l2Long := by kernel_rfl
end Go.Ab.K

/- What laws are told of heaps as results. -/
namespace Go.Ab
open Go

structure Hp where
  x : Int
  y : Int
  z : Int
  cs : List Cell
def Hp.none : Hp := ⟨0, 0, 0, []⟩
abbrev Hp.row (r : Hp) (w : LV) : Blk := .row [.I r.x, .I r.y, .I r.z, w] true 0
/-- A heap, or the one of all zeros, what else there is, and whether there is one. -/
def HeapRes (M : Mem) (r : Option Hp) (ext : List LV) (v : LV) (N : Mem) : Prop :=
  ∃ w, v = .tup (.agg [.I (r.getD Hp.none).x, .I (r.getD Hp.none).y, .I (r.getD Hp.none).z, w] :: (ext ++ [.B r.isSome])) ∧ SlC N w (r.getD Hp.none).cs ∧ Newer M w ∧ Pre M N
theorem Older.off {M : Mem} {v : LV} {u : Nat} (h : Older M v) (hu : M.length ≤ u) : Off v u := by
  cases v with
  | ref t o n => have := h t o n rfl; show u ≠ t; omega
  | _ => trivial
end Go.Ab

/- Plain words: the 24 turns of a box. -/
namespace Go.Ab
open Go

def Cell.at (c : Cell) (d : Int) : Int := if d = 0 then c.a else if d = 1 then c.b else c.c
def Dir (d : Int) : Prop := d = 0 ∨ d = 1 ∨ d = 2
/-- How many pairs are out of order, modulo 2. -/
def oddOf (c : Cell) : Int := ((if c.a > c.b then 1 else 0) + (if c.a > c.c then 1 else 0) + (if c.b > c.c then 1 else 0)) % 2
structure Turn where
  fr : Cell
  fl : Cell
deriving DecidableEq
def Turn.row (t : Turn) : List LV := t.fr.row ++ t.fl.row
def sixL (l : List Turn) : List LV := l.flatMap Turn.row
/-- The turn that the n-th attempt finds. -/
def turnAt (n : Nat) : Option Turn :=
  if n / 24 ≠ n / 8 % 3 ∧ oddOf ⟨n / 24, n / 8 % 3, 3 - n / 24 - n / 8 % 3⟩ = (n % 8 / 4 + n % 8 / 2 % 2 + n % 8 % 2) % 2 then
    some ⟨⟨n / 24, n / 8 % 3, 3 - n / 24 - n / 8 % 3⟩, ⟨n % 8 / 4, n % 8 / 2 % 2, n % 8 % 2⟩⟩ else none
def turnsU (n : Nat) : List Turn := (List.range n).filterMap turnAt
def turns : List Turn := turnsU 72
theorem sixL_len (l : List Turn) : (sixL l).length = l.length * 6 := by
  induction l with
  | nil => rfl
  | cons t l ih => rw [show sixL (t :: l) = t.row ++ sixL l from rfl, List.length_append, ih, List.length_cons]; simp [Turn.row, Cell.row]; omega
theorem sixL_at {l : List Turn} : ∀ {k : Nat}, (hk : k < l.length) → ((sixL l).drop (k * 6)).take 6 = l[k].row := by
  induction l with
  | nil => intro k hk; simp at hk
  | cons t l ih =>
    intro k hk
    have e : sixL (t :: l) = t.row ++ sixL l := rfl
    have hr : t.row.length = 6 := rfl
    cases k with
    | zero => rw [e, Nat.zero_mul, List.drop_zero, List.take_append_of_le_length (by omega), List.take_of_length_le (by omega)]; rfl
    | succ k =>
      rw [e, List.drop_append, List.drop_eq_nil_of_le (by omega), List.nil_append, hr, show (k + 1) * 6 - 6 = k * 6 by omega, ih (by simpa using hk)]
      rfl

def sideOf (x y z d : Int) : Int := if d = 0 then x else if d = 1 then y else z
/-- A coordinate of a cell behind a turn: taken from direction s, mirrored or not. -/
def turnC (x y z : Int) (c : Cell) (s f : Int) : Int := if f = 1 then sideOf x y z s - 1 - c.at s else c.at s
def mapT (x y z : Int) (t : Turn) (c : Cell) : Cell := ⟨turnC x y z c t.fr.a t.fl.a, turnC x y z c t.fr.b t.fl.b, turnC x y z c t.fr.c t.fl.c⟩
/-- The three directions, in any order. -/
def OkT (t : Turn) : Prop := Dir t.fr.a ∧ Dir t.fr.b ∧ Dir t.fr.c
instance (d : Int) : Decidable (Dir d) := by unfold Dir; exact inferInstance
instance (t : Turn) : Decidable (OkT t) := by unfold OkT; exact inferInstance
def turnHp (x y z : Int) (t : Turn) (cs : List Cell) : Hp := ⟨sideOf x y z t.fr.a, sideOf x y z t.fr.b, sideOf x y z t.fr.c, pick (sideOf x y z t.fr.a) (sideOf x y z t.fr.b) (sideOf x y z t.fr.c) fun d => decide (d ∈ cs.map (mapT x y z t))⟩
section
variable {x y z : Int}
theorem sideOf_in (hS : Sides x y z) (d : Int) : 1 ≤ sideOf x y z d ∧ sideOf x y z d ≤ 4 := by
  obtain ⟨hx, hy, hz⟩ := hS
  unfold sideOf; split <;> (try split) <;> omega
theorem at_in {c : Cell} (hc : c.inBox x y z) (d : Int) : 0 ≤ c.at d ∧ c.at d < sideOf x y z d := by
  obtain ⟨⟨_, _⟩, ⟨_, _⟩, ⟨_, _⟩⟩ := hc
  unfold Cell.at sideOf; split <;> (try split) <;> omega
end
end Go.Ab

/- Contracts: the reference's turns. -/
namespace Go.Ab
open Go
set_option linter.unusedSimpArgs false
set_option linter.unusedVariables false

theorem h_l2Long {x y z d : Int} {v : LV} {M : Mem} (hd : Dir d) : CallsTo PG F.spec_l2Long [.agg [.I x, .I y, .I z, v], .I d] M (.I (sideOf x y z d)) M := by
  refine calls_run K.spec_l2Long rfl ?_
  rcases hd with rfl | rfl | rfl
  all_goals
    simp (disch := omega) only [C.spec_l2Long, splice, ↓SXd, SXu, slBounds, ↓sop, ↓aop, ↓reduceIte, LV.cells, AOp.dst, LV.I, LV.B, LV.U, LV.S, LV.nil, Nat.reduceEqDiff, Nat.reduceAdd, Nat.reduceMul, Nat.reduceSub, Nat.reduceLeDiff, Nat.reduceBEq, Nat.reduceDiv, Nat.reduceMod, Int.reduceToNat, Int.reduceLT, Int.reduceLE, Int.reduceAdd, Int.reduceSub, Int.reduceMul, Int.reduceEq, Int.reduceNeg, reduceCtorEq, resV, resAll, ARes.ev, LV.flat, ite_true, ite_false, exists_eq_left', exists_eq_left, keyOf, implies_true, fillC, capOf]
    exact cmp_drop rfl

/-- How many pairs are out of order whose greater place is before i, or i with the other one before k. -/
def oddK (c : Cell) (i k : Nat) : Int := (if (1 < i ∨ (i = 1 ∧ 0 < k)) ∧ c.a > c.b then 1 else 0) + (if (2 < i ∨ (i = 2 ∧ 0 < k)) ∧ c.a > c.c then 1 else 0) + (if (2 < i ∨ (i = 2 ∧ 1 < k)) ∧ c.b > c.c then 1 else 0)
end Go.Ab

/- Contracts: the reference's turned heaps. -/
namespace Go.Ab
open Go
set_option linter.unusedSimpArgs false
set_option linter.unusedVariables false

theorem Tri.gets_at {M : Mem} {t o k : Nat} {cs : List Cell} {s : Int} (h : Tri M t o cs) (hk : k < cs.length) (hs : Dir s) : getCell M t (o + k * 3 + s.toNat) = some (.I ((cs.getD k default).at s)) := by
  rcases hs with rfl | rfl | rfl
  · exact Tri.get_a h hk
  · exact Tri.get_b h hk
  · exact Tri.get_c h hk

theorem memK_at {M : Mem} {t j e : Nat} {old : List LV} {v : LV} {A : Mem → Prop} (ht : Live M t (.row old true e)) (hj : j < old.length)
    (hA : ∀ M', M'.length = M.length → Live M' t (.row (old.set j v) true e) → (∀ u, u ≠ t → u < M.length → M'[u]? = M[u]?) → A M') : memK (setCells M t j [v]) A := by
  rw [ht.setC, if_pos (by simp; omega), splice_1 hj]
  exact hA _ (by simp) ht.set_eq fun u hu _ => List.getElem?_set_ne (fun e => hu e.symm)
/-- A cell of which the first d coordinates are there. -/
def partC (c : Cell) (d : Nat) : Cell := ⟨if 0 < d then c.a else 0, if 1 < d then c.b else 0, if 2 < d then c.c else 0⟩
theorem OkT.dir {T : Turn} (h : OkT T) {d : Nat} (hd : d < 3) : Dir (T.fr.at d) := by
  rcases (show d = 0 ∨ d = 1 ∨ d = 2 by omega) with rfl | rfl | rfl
  · exact h.1
  · exact h.2.1
  · exact h.2.2
end Go.Ab

/- The abstract code of some functions (written by a program of mine from the translation, by way of prepF). -/
namespace Go.Ab.C
open Go.Ab
def spec_l1Least : AFn :=
 ⟨2, 10, [.tmp 4],
 .seq (.ops [(none, .mv 4 (.c (.I 0)))])
 (.seq (.seq (.ops [(none, .mv 5 (.t 0)),
 (none, .mv 6 (.t 1)),
 (none, .bin 7 .lss (.t 5) (.t 6))])
 (.cond (.t 7) (.seq (.ops [(none, .mv 8 (.t 0)),
 (none, .mv 4 (.t 8))])
 (.ret))
 (.skip)))
 (.seq (.ops [(none, .mv 9 (.t 1)),
 (none, .mv 4 (.t 9))])
 (.ret)))⟩
end Go.Ab.C

/- That the program has this code. -/
namespace Go.Ab.K
open Go Go.Ab
theorem spec_l1Least : prepF Go.Proofs.Try.prog F.spec_l1Least = some C.spec_l1Least := by kernel_rfl
end Go.Ab.K

/- Contracts: the reference's least boxes. -/
namespace Go.Ab
open Go
set_option linter.unusedSimpArgs false
set_option linter.unusedVariables false

def Small (c : Cell) : Prop := (-100 ≤ c.a ∧ c.a ≤ 100) ∧ (-100 ≤ c.b ∧ c.b ≤ 100) ∧ (-100 ≤ c.c ∧ c.c ≤ 100)
def shift (p c : Cell) : Cell := ⟨c.a + p.a, c.b + p.b, c.c + p.c⟩
def loC (c d : Cell) : Cell := ⟨min c.a d.a, min c.b d.b, min c.c d.c⟩
def hiC (c d : Cell) : Cell := ⟨max c.a d.a, max c.b d.b, max c.c d.c⟩
def lowOf (cs : List Cell) : Cell := cs.foldl loC (cs.getD 0 default)
def highOf (cs : List Cell) : Cell := cs.foldl hiC (cs.getD 0 default)
def cropHp (cs : List Cell) : Hp := ⟨(highOf cs).a - (lowOf cs).a + 1, (highOf cs).b - (lowOf cs).b + 1, (highOf cs).c - (lowOf cs).c + 1, cs.map (shift ⟨0 - (lowOf cs).a, 0 - (lowOf cs).b, 0 - (lowOf cs).c⟩)⟩
/-- The first d coordinates of one cell, the others of another one. -/
def mixC (c e : Cell) (d : Nat) : Cell := ⟨if 0 < d then e.a else c.a, if 1 < d then e.b else c.b, if 2 < d then e.c else c.c⟩
theorem h_l1Least {a b : Int} {M : Mem} : CallsTo PG F.spec_l1Least [.I a, .I b] M (.I (min a b)) M := by
  refine calls_run K.spec_l1Least rfl ?_
  simp (disch := omega) only [C.spec_l1Least, ↓SXd, SXu, slBounds, ↓sop, ↓aop, ↓reduceIte, LV.cells, AOp.dst, LV.I, LV.B, LV.U, LV.S, LV.nil, Nat.reduceEqDiff, Nat.reduceAdd, Nat.reduceMul, Nat.reduceSub, Nat.reduceLeDiff, Nat.reduceBEq, Nat.reduceDiv, Nat.reduceMod, Int.reduceToNat, Int.reduceLT, Int.reduceLE, Int.reduceAdd, Int.reduceSub, Int.reduceMul, Int.reduceEq, Int.reduceNeg, reduceCtorEq, resV, resAll, ARes.ev, LV.flat, ite_true, ite_false, exists_eq_left', exists_eq_left, keyOf, implies_true, fillC, capOf]
  refine condC_dec (fun h => ?_) (fun h => ?_)
  all_goals
    simp (disch := omega) only [↓SXd, SXu, slBounds, ↓sop, ↓aop, ↓reduceIte, LV.cells, AOp.dst, LV.I, LV.B, LV.U, LV.S, LV.nil, Nat.reduceEqDiff, Nat.reduceAdd, Nat.reduceMul, Nat.reduceSub, Nat.reduceLeDiff, Nat.reduceBEq, Nat.reduceDiv, Nat.reduceMod, Int.reduceToNat, Int.reduceLT, Int.reduceLE, Int.reduceAdd, Int.reduceSub, Int.reduceMul, Int.reduceEq, Int.reduceNeg, reduceCtorEq, resV, resAll, ARes.ev, LV.flat, ite_true, ite_false, exists_eq_left', exists_eq_left, keyOf, implies_true, fillC, capOf]
  · rw [show min a b = a by omega]; exact cmp_drop0 rfl
  · rw [show min a b = b by omega]; exact cmp_drop0 rfl

end Go.Ab

/- Contracts: pieces, both sides. -/
namespace Go.Ab
open Go
set_option linter.unusedSimpArgs false
set_option linter.unusedVariables false
set_option maxRecDepth 20000

def minC (s c : Cell) : Cell := ⟨min s.a c.a, min s.b c.b, min s.c c.c⟩
def lowC (s : Cell) (l : List Cell) : Cell := l.foldl minC s
/-- A piece. -/
def PieceOK (l : List Cell) : Prop := (1 ≤ l.length ∧ l.length ≤ 5) ∧ HeapOK 4 4 4 l ∧ lowC ⟨4, 4, 4⟩ l = ⟨0, 0, 0⟩
noncomputable instance (l : List Cell) : Decidable (PieceOK l) := Classical.propDecidable _
def minTo (s c : Cell) : Nat → Cell
  | 0 => s
  | 1 => ⟨min s.a c.a, s.b, s.c⟩
  | 2 => ⟨min s.a c.a, min s.b c.b, s.c⟩
  | _ => minC s c
end Go.Ab

/- Contracts: pieces and lists of them, the program's side; lists, the reference's side. -/
namespace Go.Ab
open Go
set_option linter.unusedSimpArgs false
set_option linter.unusedVariables false
set_option maxRecDepth 20000

/-- A valid heap and a valid list of pieces. -/
def PcsOK (L : List (List Cell)) : Prop := ∀ l ∈ L, PieceOK l
def AskOK (x y z : Int) (cs : List Cell) (L : List (List Cell)) : Prop := PcsOK L ∧ HeapOK x y z cs ∧ L.length ≤ 8
noncomputable instance (L : List (List Cell)) : Decidable (PcsOK L) := Classical.propDecidable _
noncomputable instance (x y z : Int) (cs : List Cell) (L : List (List Cell)) : Decidable (AskOK x y z cs L) := Classical.propDecidable _
section
variable {x y z : Int} {t o u : Nat} {cs : List Cell} {L : List (List Cell)} {M : Mem} (hP : Pcs M u L) (hL : L.length ≤ 1000000000) (hLs : ∀ l ∈ L, l.length ≤ 1000000000)
include hP hL hLs
end
end Go.Ab

/- A number's bits, as the programs read them. -/
namespace Go.Ab
open Go
set_option linter.unusedSimpArgs false
set_option linter.unusedVariables false

end Go.Ab

/- Contracts: parities, both sides; ParityBars. -/
namespace Go.Ab
open Go
set_option linter.unusedSimpArgs false
set_option linter.unusedVariables false
set_option maxRecDepth 20000

def par1 (c : Cell) : Int := 1 - 2 * ((c.a + c.b + c.c).tmod 2)
def parL : List Cell → Int
  | [] => 0
  | c :: l => par1 c + parL l
theorem parL_append : ∀ {l m : List Cell}, parL (l ++ m) = parL l + parL m
  | [], m => by simp [parL]
  | c :: l, m => by rw [List.cons_append, parL, parL, parL_append]; omega
theorem parL_take {l : List Cell} {i : Nat} (h : i < l.length) : parL (l.take (i + 1)) = parL (l.take i) + par1 (l.getD i default) := by
  have e : l.getD i default = l[i] := by simp [h]
  rw [List.take_succ, List.getElem?_eq_getElem h, Option.toList_some, parL_append, e]
  simp [parL]
theorem par1_le {c : Cell} (hc : c.inBox 4 4 4) : -1 ≤ par1 c ∧ par1 c ≤ 1 ∧ 0 ≤ (c.a + c.b + c.c).tmod 2 ∧ (c.a + c.b + c.c).tmod 2 ≤ 1 := by
  obtain ⟨⟨_, _⟩, ⟨_, _⟩, ⟨_, _⟩⟩ := hc
  have h := Int.tmod_eq_emod_of_nonneg (a := c.a + c.b + c.c) (b := 2) (by omega)
  unfold par1
  omega
theorem parL_le : ∀ {l : List Cell}, (∀ c ∈ l, c.inBox 4 4 4) → -(l.length : Int) ≤ parL l ∧ parL l ≤ l.length
  | [], _ => by simp [parL]
  | c :: l, h => by
    have h1 := par1_le (h c (by simp))
    have h2 := parL_le (l := l) fun d hd => h d (by simp [hd])
    simp only [parL, List.length_cons]; omega
section
variable {l : List Cell} {t o : Nat} {M : Mem} (h : Tri M t o l) (hn : l.length ≤ 64) (hin : ∀ c ∈ l, c.inBox 4 4 4)
include h hn hin
theorem g_parity : CallsTo PG F.impl_parity [.ref t o l.length] M (.I (parL l)) M := by
  refine calls_run K.impl_parity rfl ?_
  simp (disch := omega) only [C.impl_parity, ↓SXd, SXu, slBounds, ↓sop, ↓aop, ↓reduceIte, LV.cells, AOp.dst, LV.I, LV.B, LV.U, LV.S, LV.nil, Nat.reduceEqDiff, Nat.reduceAdd, Nat.reduceMul, Nat.reduceSub, Nat.reduceLeDiff, Nat.reduceBEq, Nat.reduceDiv, Nat.reduceMod, Int.reduceToNat, Int.reduceLT, Int.reduceLE, Int.reduceAdd, Int.reduceSub, Int.reduceMul, Int.reduceEq, Int.reduceNeg, reduceCtorEq, resV, resAll, ARes.ev, LV.flat, ite_true, ite_false, exists_eq_left', exists_eq_left, keyOf, implies_true, fillC, capOf]
  refine ev_loop (fun m fr M' => ∃ i : Nat, i + m = l.length ∧ Pre M M' ∧ fr 3 = .I (parL (l.take i)) ∧ fr 6 = .ref t o l.length ∧ fr 7 = .I l.length ∧ fr 8 = .I i) l.length
    ⟨0, by omega, Pre.refl _, rfl, rfl, rfl, rfl⟩ ?_
  rintro m fr M' ⟨i, hi, hpre, f3, f6, f7, f8⟩
  simp (disch := omega) only [f3, f6, f7, f8, ↓SXd, SXu, slBounds, ↓sop, ↓aop, ↓reduceIte, LV.cells, AOp.dst, LV.I, LV.B, LV.U, LV.S, LV.nil, Nat.reduceEqDiff, Nat.reduceAdd, Nat.reduceMul, Nat.reduceSub, Nat.reduceLeDiff, Nat.reduceBEq, Nat.reduceDiv, Nat.reduceMod, Int.reduceToNat, Int.reduceLT, Int.reduceLE, Int.reduceAdd, Int.reduceSub, Int.reduceMul, Int.reduceEq, Int.reduceNeg, reduceCtorEq, resV, resAll, ARes.ev, LV.flat, ite_true, ite_false, exists_eq_left', exists_eq_left, keyOf, implies_true, fillC, capOf]
  refine condC_dec (fun hlt => ?_) (fun hlt => ?_)
  · have hil : i < l.length := by omega
    have hg := Tri.get (h.pre hpre) hil
    have hc := hin _ (getD_mem' (d := default) hil)
    have hp := par1_le hc
    have hts := parL_take hil
    have hb := parL_le (l := l.take i) fun d hd => hin d (List.mem_of_mem_take hd)
    have htl := List.length_take_le i l
    generalize l.getD i default = c at hg hc hp hts
    obtain ⟨⟨_, _⟩, ⟨_, _⟩, ⟨_, _⟩⟩ := id hc
    have h20 : ¬ ((2 : Int) = 0) := by omega
    have e : parL (l.take i) + (1 - 2 * (c.a + c.b + c.c).tmod 2) = parL (l.take (i + 1)) := by rw [hts]; rfl
    have hpu : par1 c = 1 - 2 * (c.a + c.b + c.c).tmod 2 := rfl
    simp (disch := omega) only [f3, f6, f7, f8, hg, Cell.row, splice, ne_eq, h20, not_false_eq_true, ↓SXd, SXu, slBounds, ↓sop, ↓aop, ↓reduceIte, LV.cells, AOp.dst, LV.I, LV.B, LV.U, LV.S, LV.nil, Nat.reduceEqDiff, Nat.reduceAdd, Nat.reduceMul, Nat.reduceSub, Nat.reduceLeDiff, Nat.reduceBEq, Nat.reduceDiv, Nat.reduceMod, Int.reduceToNat, Int.reduceLT, Int.reduceLE, Int.reduceAdd, Int.reduceSub, Int.reduceMul, Int.reduceEq, Int.reduceNeg, reduceCtorEq, resV, resAll, ARes.ev, LV.flat, ite_true, ite_false, exists_eq_left', exists_eq_left, keyOf, implies_true, fillC, capOf]
    exact ⟨m - 1, by omega, i + 1, by omega, hpre.app', by rw [← e]; rfl, f6, f7, eqI (natI _)⟩
  · simp (disch := omega) only [f3, f6, f7, f8, ↓SXd, SXu, slBounds, ↓sop, ↓aop, ↓reduceIte, LV.cells, AOp.dst, LV.I, LV.B, LV.U, LV.S, LV.nil, Nat.reduceEqDiff, Nat.reduceAdd, Nat.reduceMul, Nat.reduceSub, Nat.reduceLeDiff, Nat.reduceBEq, Nat.reduceDiv, Nat.reduceMod, Int.reduceToNat, Int.reduceLT, Int.reduceLE, Int.reduceAdd, Int.reduceSub, Int.reduceMul, Int.reduceEq, Int.reduceNeg, reduceCtorEq, resV, resAll, ARes.ev, LV.flat, ite_true, ite_false, exists_eq_left', exists_eq_left, keyOf, implies_true, fillC, capOf]
    have : i = l.length := by omega
    subst this
    rw [List.take_length]
    exact cmp_pre hpre rfl
end
/-- The cells without cubes. -/
def freeP (cs : List Cell) (c : Cell) : Bool := !decide (c ∈ cs)
theorem box4 {x y z : Int} (hS : Sides x y z) {c : Cell} (hc : c.inBox x y z) : c.inBox 4 4 4 := by
  obtain ⟨hx, hy, hz⟩ := hS
  obtain ⟨⟨_, _⟩, ⟨_, _⟩, ⟨_, _⟩⟩ := hc
  unfold Cell.inBox; omega
section
variable {x y z : Int} {t o : Nat} {cs : List Cell} {M : Mem} (h : Tri M t o cs) (hH : HeapOK x y z cs)
include h hH
theorem g_free : CallsTo PG F.impl_Heap_free [.agg [.I x, .I y, .I z, .ref t o cs.length]] M (.W (bs x y z (freeP cs))) M := by
  have hlen := hH.len
  refine calls_run K.impl_Heap_free rfl ?_
  simp (disch := omega) only [C.impl_Heap_free, ↓SXd, SXu, slBounds, ↓sop, ↓aop, ↓reduceIte, LV.cells, AOp.dst, LV.I, LV.B, LV.U, LV.S, LV.nil, Nat.reduceEqDiff, Nat.reduceAdd, Nat.reduceMul, Nat.reduceSub, Nat.reduceLeDiff, Nat.reduceBEq, Nat.reduceDiv, Nat.reduceMod, Int.reduceToNat, Int.reduceLT, Int.reduceLE, Int.reduceAdd, Int.reduceSub, Int.reduceMul, Int.reduceEq, Int.reduceNeg, reduceCtorEq, resV, resAll, ARes.ev, LV.flat, ite_true, ite_false, exists_eq_left', exists_eq_left, keyOf, implies_true, fillC, capOf]
  refine callK_of (g_box) ?_
  simp (disch := omega) only [↓SXd, SXu, slBounds, ↓sop, ↓aop, ↓reduceIte, LV.cells, AOp.dst, LV.I, LV.B, LV.U, LV.S, LV.nil, Nat.reduceEqDiff, Nat.reduceAdd, Nat.reduceMul, Nat.reduceSub, Nat.reduceLeDiff, Nat.reduceBEq, Nat.reduceDiv, Nat.reduceMod, Int.reduceToNat, Int.reduceLT, Int.reduceLE, Int.reduceAdd, Int.reduceSub, Int.reduceMul, Int.reduceEq, Int.reduceNeg, reduceCtorEq, resV, resAll, ARes.ev, LV.flat, ite_true, ite_false, exists_eq_left', exists_eq_left, keyOf, implies_true, fillC, capOf]
  refine callK_of (g_full hH.1) ?_
  simp (disch := omega) only [↓SXd, SXu, slBounds, ↓sop, ↓aop, ↓reduceIte, LV.cells, AOp.dst, LV.I, LV.B, LV.U, LV.S, LV.nil, Nat.reduceEqDiff, Nat.reduceAdd, Nat.reduceMul, Nat.reduceSub, Nat.reduceLeDiff, Nat.reduceBEq, Nat.reduceDiv, Nat.reduceMod, Int.reduceToNat, Int.reduceLT, Int.reduceLE, Int.reduceAdd, Int.reduceSub, Int.reduceMul, Int.reduceEq, Int.reduceNeg, reduceCtorEq, resV, resAll, ARes.ev, LV.flat, ite_true, ite_false, exists_eq_left', exists_eq_left, keyOf, implies_true, fillC, capOf]
  refine callK_of (g_cubes h.app (by omega) hH.1 (fun c hc => hH.mem hc)) ?_
  simp (disch := omega) only [↓SXd, SXu, slBounds, ↓sop, ↓aop, ↓reduceIte, LV.cells, AOp.dst, LV.I, LV.B, LV.U, LV.S, LV.nil, Nat.reduceEqDiff, Nat.reduceAdd, Nat.reduceMul, Nat.reduceSub, Nat.reduceLeDiff, Nat.reduceBEq, Nat.reduceDiv, Nat.reduceMod, Int.reduceToNat, Int.reduceLT, Int.reduceLE, Int.reduceAdd, Int.reduceSub, Int.reduceMul, Int.reduceEq, Int.reduceNeg, reduceCtorEq, resV, resAll, ARes.ev, LV.flat, ite_true, ite_false, exists_eq_left', exists_eq_left, keyOf, implies_true, fillC, capOf]
  rw [bs_diff hH.1, (bs_eq hH.1).2 fun c _ => show (true && !decide (c ∈ cs)) = freeP cs c by simp [freeP]]
  exact cmp_drop rfl
theorem h_l9Free : CallsTo PG F.spec_l9Free [.agg [.I x, .I y, .I z, .ref t o cs.length]] M (.agg [.I x, .I y, .I z, .ref M.length 0 (pick x y z (freeP cs)).length]) (M ++ [some (.row (triL (pick x y z (freeP cs))) true 3)]) := by
  have hS := hH.1
  have hlen := hH.len
  have hv := vol_cast hS
  have ht := h.lt
  have hcl : (cellsOf x y z).length = vol x y z := by simp [cellsOf]
  refine calls_run K.spec_l9Free rfl ?_
  simp (disch := omega) only [C.spec_l9Free, ↓SXd, SXu, slBounds, ↓sop, ↓aop, ↓reduceIte, LV.cells, AOp.dst, LV.I, LV.B, LV.U, LV.S, LV.nil, Nat.reduceEqDiff, Nat.reduceAdd, Nat.reduceMul, Nat.reduceSub, Nat.reduceLeDiff, Nat.reduceBEq, Nat.reduceDiv, Nat.reduceMod, Int.reduceToNat, Int.reduceLT, Int.reduceLE, Int.reduceAdd, Int.reduceSub, Int.reduceMul, Int.reduceEq, Int.reduceNeg, reduceCtorEq, resV, resAll, ARes.ev, LV.flat, ite_true, ite_false, exists_eq_left', exists_eq_left, keyOf, implies_true, fillC, capOf]
  refine callK_of (h_l2Empty) ?_
  simp (disch := omega) only [splice, ↓SXd, SXu, slBounds, ↓sop, ↓aop, ↓reduceIte, LV.cells, AOp.dst, LV.I, LV.B, LV.U, LV.S, LV.nil, Nat.reduceEqDiff, Nat.reduceAdd, Nat.reduceMul, Nat.reduceSub, Nat.reduceLeDiff, Nat.reduceBEq, Nat.reduceDiv, Nat.reduceMod, Int.reduceToNat, Int.reduceLT, Int.reduceLE, Int.reduceAdd, Int.reduceSub, Int.reduceMul, Int.reduceEq, Int.reduceNeg, reduceCtorEq, resV, resAll, ARes.ev, LV.flat, ite_true, ite_false, exists_eq_left', exists_eq_left, keyOf, implies_true, fillC, capOf]
  refine callK_of (h_l2All hS) ?_
  simp (disch := omega) only [↓SXd, SXu, slBounds, ↓sop, ↓aop, ↓reduceIte, LV.cells, AOp.dst, LV.I, LV.B, LV.U, LV.S, LV.nil, Nat.reduceEqDiff, Nat.reduceAdd, Nat.reduceMul, Nat.reduceSub, Nat.reduceLeDiff, Nat.reduceBEq, Nat.reduceDiv, Nat.reduceMod, Int.reduceToNat, Int.reduceLT, Int.reduceLE, Int.reduceAdd, Int.reduceSub, Int.reduceMul, Int.reduceEq, Int.reduceNeg, reduceCtorEq, resV, resAll, ARes.ev, LV.flat, ite_true, ite_false, exists_eq_left', exists_eq_left, keyOf, implies_true, fillC, capOf]
  refine ev_loop (fun m fr1 M' => ∃ i u : Nat, i + m = (cellsOf x y z).length ∧ Pre M M' ∧ Live M' M.length (.row [.I x, .I y, .I z, .ref t o cs.length] true 0) ∧ Live M' (M.length + 1) (.row [.I 0, .I 0, .I 0, .nil] true 0) ∧
    Live M' (M.length + 3) (.row [.I x, .I y, .I z, .ref u 0 (((cellsOf x y z).take i).filter (freeP cs)).length] true 0) ∧ Live M' (M.length + 4) (.row (triL (cellsOf x y z)) true 3) ∧ Live M' u (.row (triL (((cellsOf x y z).take i).filter (freeP cs))) true 3) ∧ (u = M.length + 2 ∨ M.length + 4 < u) ∧
    fr1 1 = .ptr M.length 0 ∧ fr1 2 = .ptr (M.length + 1) 0 ∧ fr1 3 = .ptr (M.length + 3) 0 ∧ fr1 4 = .ref (M.length + 4) 0 (cellsOf x y z).length ∧ fr1 5 = .I i) (cellsOf x y z).length
    ⟨0, M.length + 2, by omega, Pre.app _ _, Live.new, Live.newj rfl, Live.newj rfl, Live.newj rfl, Live.newj rfl, .inl rfl, rfl, rfl, rfl, rfl, rfl⟩ ?_
  rintro m fr1 M' ⟨i, u, hi, hpre, b1, b2, b3, b4, bu, hu, f1, f2, f3, f4, f5⟩
  simp (disch := omega) only [f1, f2, f3, f4, f5, ↓SXd, SXu, slBounds, ↓sop, ↓aop, ↓reduceIte, LV.cells, AOp.dst, LV.I, LV.B, LV.U, LV.S, LV.nil, Nat.reduceEqDiff, Nat.reduceAdd, Nat.reduceMul, Nat.reduceSub, Nat.reduceLeDiff, Nat.reduceBEq, Nat.reduceDiv, Nat.reduceMod, Int.reduceToNat, Int.reduceLT, Int.reduceLE, Int.reduceAdd, Int.reduceSub, Int.reduceMul, Int.reduceEq, Int.reduceNeg, reduceCtorEq, resV, resAll, ARes.ev, LV.flat, ite_true, ite_false, exists_eq_left', exists_eq_left, keyOf, implies_true, fillC, capOf]
  refine condC_dec (fun hlt => ?_) (fun hlt => ?_)
  · have hil : i < (cellsOf x y z).length := by omega
    have hci := b4.tri0 hil
    have hts : (cellsOf x y z).take (i + 1) = (cellsOf x y z).take i ++ [(cellsOf x y z).getD i default] := by
      rw [List.take_succ, List.getElem?_eq_getElem hil]; simp [hil]
    have hal : (((cellsOf x y z).take i).filter (freeP cs)).length ≤ 64 := by
      have q1 := List.length_filter_le (freeP cs) ((cellsOf x y z).take i)
      have q2 := List.length_take_le i (cellsOf x y z)
      omega
    generalize (cellsOf x y z).getD i default = c at hci hts
    have hstep : ((cellsOf x y z).take (i + 1)).filter (freeP cs) = ((cellsOf x y z).take i).filter (freeP cs) ++ (if freeP cs c then [c] else []) := by
      rw [hts, List.filter_append, List.filter_cons, List.filter_nil]
    simp (disch := omega) only [f1, f2, f3, f4, f5, b1.cells, hci, Cell.row, ↓SXd, SXu, slBounds, ↓sop, ↓aop, ↓reduceIte, LV.cells, AOp.dst, LV.I, LV.B, LV.U, LV.S, LV.nil, Nat.reduceEqDiff, Nat.reduceAdd, Nat.reduceMul, Nat.reduceSub, Nat.reduceLeDiff, Nat.reduceBEq, Nat.reduceDiv, Nat.reduceMod, Int.reduceToNat, Int.reduceLT, Int.reduceLE, Int.reduceAdd, Int.reduceSub, Int.reduceMul, Int.reduceEq, Int.reduceNeg, reduceCtorEq, resV, resAll, ARes.ev, LV.flat, ite_true, ite_false, exists_eq_left', exists_eq_left, keyOf, implies_true, fillC, capOf]
    refine callK_of (h_l2Has (h.pre hpre) (by omega)) ?_
    simp (disch := omega) only [f1, f2, f3, f4, f5, ↓SXd, SXu, slBounds, ↓sop, ↓aop, ↓reduceIte, LV.cells, AOp.dst, LV.I, LV.B, LV.U, LV.S, LV.nil, Nat.reduceEqDiff, Nat.reduceAdd, Nat.reduceMul, Nat.reduceSub, Nat.reduceLeDiff, Nat.reduceBEq, Nat.reduceDiv, Nat.reduceMod, Int.reduceToNat, Int.reduceLT, Int.reduceLE, Int.reduceAdd, Int.reduceSub, Int.reduceMul, Int.reduceEq, Int.reduceNeg, reduceCtorEq, resV, resAll, ARes.ev, LV.flat, ite_true, ite_false, exists_eq_left', exists_eq_left, keyOf, implies_true, fillC, capOf]
    rw [cell_eta]
    have hfp : freeP cs c = !decide (c ∈ cs) := rfl
    by_cases hm : c ∈ cs
    · rw [decide_eq_true hm] at hfp ⊢
      simp (disch := omega) only [f1, f2, f3, f4, f5, ↓SXd, SXu, slBounds, ↓sop, ↓aop, ↓reduceIte, LV.cells, AOp.dst, LV.I, LV.B, LV.U, LV.S, LV.nil, Nat.reduceEqDiff, Nat.reduceAdd, Nat.reduceMul, Nat.reduceSub, Nat.reduceLeDiff, Nat.reduceBEq, Nat.reduceDiv, Nat.reduceMod, Int.reduceToNat, Int.reduceLT, Int.reduceLE, Int.reduceAdd, Int.reduceSub, Int.reduceMul, Int.reduceEq, Int.reduceNeg, reduceCtorEq, resV, resAll, ARes.ev, LV.flat, ite_true, ite_false, exists_eq_left', exists_eq_left, keyOf, implies_true, fillC, capOf]
      rw [hfp, if_neg (by simp), List.append_nil] at hstep
      rw [← hstep] at b3 bu
      exact ⟨m - 1, by omega, i + 1, u, by omega, hpre, b1, b2, b3, b4, bu, hu, f1, f2, f3, f4, eqI (natI _)⟩
    · rw [decide_eq_false hm] at hfp ⊢
      simp (disch := omega) only [f1, f2, f3, f4, f5, b3.cell, hci, Cell.row, splice, ↓SXd, SXu, slBounds, ↓sop, ↓aop, ↓reduceIte, LV.cells, AOp.dst, LV.I, LV.B, LV.U, LV.S, LV.nil, Nat.reduceEqDiff, Nat.reduceAdd, Nat.reduceMul, Nat.reduceSub, Nat.reduceLeDiff, Nat.reduceBEq, Nat.reduceDiv, Nat.reduceMod, Int.reduceToNat, Int.reduceLT, Int.reduceLE, Int.reduceAdd, Int.reduceSub, Int.reduceMul, Int.reduceEq, Int.reduceNeg, reduceCtorEq, resV, resAll, ARes.ev, LV.flat, ite_true, ite_false, exists_eq_left', exists_eq_left, keyOf, implies_true, fillC, capOf]
      rw [hfp, if_pos (by rfl)] at hstep
      refine appendK_cell bu (by omega) fun N' l1 l2 l3 => ?_
      have hl4 := b4.lt
      have d3 := live_step b3 (by omega) l3
      simp (disch := omega) only [f1, f2, f3, f4, f5, ↓SXd, SXu, slBounds, ↓sop, ↓aop, ↓reduceIte, LV.cells, AOp.dst, LV.I, LV.B, LV.U, LV.S, LV.nil, Nat.reduceEqDiff, Nat.reduceAdd, Nat.reduceMul, Nat.reduceSub, Nat.reduceLeDiff, Nat.reduceBEq, Nat.reduceDiv, Nat.reduceMod, Int.reduceToNat, Int.reduceLT, Int.reduceLE, Int.reduceAdd, Int.reduceSub, Int.reduceMul, Int.reduceEq, Int.reduceNeg, reduceCtorEq, resV, resAll, ARes.ev, LV.flat, ite_true, ite_false, exists_eq_left', exists_eq_left, keyOf, implies_true, fillC, capOf]
      refine memK_one d3 (by simp) fun N3 j1 j2 j3 => ?_
      simp (disch := omega) only [f1, f2, f3, f4, f5, ↓SXd, SXu, slBounds, ↓sop, ↓aop, ↓reduceIte, LV.cells, AOp.dst, LV.I, LV.B, LV.U, LV.S, LV.nil, Nat.reduceEqDiff, Nat.reduceAdd, Nat.reduceMul, Nat.reduceSub, Nat.reduceLeDiff, Nat.reduceBEq, Nat.reduceDiv, Nat.reduceMod, Int.reduceToNat, Int.reduceLT, Int.reduceLE, Int.reduceAdd, Int.reduceSub, Int.reduceMul, Int.reduceEq, Int.reduceNeg, reduceCtorEq, resV, resAll, ARes.ev, LV.flat, ite_true, ite_false, exists_eq_left', exists_eq_left, keyOf, implies_true, fillC, capOf]
      rw [cell_eta, ← hstep] at l2 j2
      exact ⟨m - 1, by omega, i + 1, M'.length + 1, by omega, pre_step (pre_step hpre (by omega) l1 l3) (by omega) (j := 0) j1 j3, live_step (live_step b1 (by omega) l3) (by omega) j3, live_step (live_step b2 (by omega) l3) (by omega) j3, j2, live_step (live_step b4 (by omega) l3) (by omega) j3, live_step l2 (by omega) j3, by omega, f1, f2, f3, f4, eqI (natI _)⟩
  · simp (disch := omega) only [f1, f2, f3, f4, f5, b3.cells, ↓SXd, SXu, slBounds, ↓sop, ↓aop, ↓reduceIte, LV.cells, AOp.dst, LV.I, LV.B, LV.U, LV.S, LV.nil, Nat.reduceEqDiff, Nat.reduceAdd, Nat.reduceMul, Nat.reduceSub, Nat.reduceLeDiff, Nat.reduceBEq, Nat.reduceDiv, Nat.reduceMod, Int.reduceToNat, Int.reduceLT, Int.reduceLE, Int.reduceAdd, Int.reduceSub, Int.reduceMul, Int.reduceEq, Int.reduceNeg, reduceCtorEq, resV, resAll, ARes.ev, LV.flat, ite_true, ite_false, exists_eq_left', exists_eq_left, keyOf, implies_true, fillC, capOf]
    have : i = (cellsOf x y z).length := by omega
    subst this
    rw [List.take_length] at b3 bu
    change Live M' u (.row (triL (pick x y z (freeP cs))) true 3) at bu
    refine memK_box b2 (by simp) fun N3 k1 k2 k3 => ?_
    simp (disch := omega) only [f1, f2, f3, f4, f5, k2.cells, ↓SXd, SXu, slBounds, ↓sop, ↓aop, ↓reduceIte, LV.cells, AOp.dst, LV.I, LV.B, LV.U, LV.S, LV.nil, Nat.reduceEqDiff, Nat.reduceAdd, Nat.reduceMul, Nat.reduceSub, Nat.reduceLeDiff, Nat.reduceBEq, Nat.reduceDiv, Nat.reduceMod, Int.reduceToNat, Int.reduceLT, Int.reduceLE, Int.reduceAdd, Int.reduceSub, Int.reduceMul, Int.reduceEq, Int.reduceNeg, reduceCtorEq, resV, resAll, ARes.ev, LV.flat, ite_true, ite_false, exists_eq_left', exists_eq_left, keyOf, implies_true, fillC, capOf]
    exact cmp_keepL (pre_step hpre (by omega) (j := 0) k1 k3) (by omega) (live_step bu (by omega) k3) (triL_lo _) (by simp [rn, rn0, rn1, pick])
end
end Go.Ab

/- The abstract code of some functions (written by a program of mine from the translation, by way of prepF). -/
namespace Go.Ab.C
open Go.Ab
def spec_l2Others : AFn :=
 ⟨1, 9, [.tmp 2, .tmp 3],
 .seq (.ops [(none, .mv 2 (.c (.I 0))),
 (none, .mv 3 (.c (.I 0)))])
 (.seq (.seq (.ops [(none, .mv 4 (.t 0))])
 (.block 0 (.seq (.ops [(none, .bin 6 .eql (.t 4) (.c (.I 0))),
 (none, .mv 5 (.t 6))])
 (.cond (.t 5) (.seq (.ops [(none, .mv 2 (.c (.I 1))),
 (none, .mv 3 (.c (.I 2)))])
 (.ret))
 (.seq (.ops [(none, .bin 8 .eql (.t 4) (.c (.I 1))),
 (none, .mv 7 (.t 8))])
 (.cond (.t 7) (.seq (.ops [(none, .mv 2 (.c (.I 0))),
 (none, .mv 3 (.c (.I 2)))])
 (.ret))
 (.skip)))))))
 (.seq (.ops [(none, .mv 2 (.c (.I 0))),
 (none, .mv 3 (.c (.I 1)))])
 (.ret)))⟩
def spec_l2View : AFn :=
 ⟨2, 54, [.tmp 4],
 .seq (.ops [(none, .box 2 (.t 0)),
 (none, .mv 4 (.c .nil))])
 (.seq (.ops [(none, .mv 10 (.t 1)),
 (none, .call (some 11) F.spec_l2Others [(.t 10)]),
 (none, .mv 9 (.t 11)),
 (none, .extract 12 (.t 9) 0),
 (none, .extract 13 (.t 9) 1),
 (none, .mv 5 (.t 12)),
 (none, .mv 6 (.t 13))])
 (.seq (.draw [⟨(none, .loadN 14 4 (.t 2)), [], []⟩,
 ⟨(none, .mv 15 (.t 5)), [], []⟩,
 ⟨(none, .loadN 17 4 (.t 2)), [], []⟩,
 ⟨(none, .mv 18 (.t 6)), [], []⟩,
 ⟨(none, .call (some 16) F.spec_l2Long [(.t 14), (.t 15)]), [], [2, 3]⟩,
 ⟨(none, .call (some 19) F.spec_l2Long [(.t 17), (.t 18)]), [], []⟩,
 ⟨(none, .bin 20 .mul (.t 16) (.t 19)), [], []⟩,
 ⟨(none, .mksl 21 1 8 [(.I 0)] (.t 20) (.t 20)), [], []⟩,
 ⟨(none, .mv 7 (.t 21)), [], []⟩])
 (.seq (.seq (.ops [(none, .mv 8 (.c (.I 0)))])
 (.block 0 (.loop (.seq (.seq (.ops [(none, .mv 22 (.t 8)),
 (none, .fieldAddr 23 (.t 2) 3),
 (none, .load1 24 (.t 23)),
 (none, .len 25 (.t 24)),
 (none, .bin 26 .lss (.t 22) (.t 25))])
 (.cond (.t 26) (.skip)
 (.exit 0)))
 (.seq (.block 1 (.draw [⟨(none, .mv 29 (.t 7)), [], []⟩,
 ⟨(none, .fieldAddr 30 (.t 2) 3), [], []⟩,
 ⟨(none, .load1 31 (.t 30)), [], []⟩,
 ⟨(none, .mv 32 (.t 8)), [], []⟩,
 ⟨(none, .mv 33 (.t 5)), [], []⟩,
 ⟨(none, .idxS 34 3 (.t 31) (.t 32)), [], []⟩,
 ⟨(none, .idxA 35 3 1 (.t 34) (.t 33)), [], []⟩,
 ⟨(none, .load1 36 (.t 35)), [], []⟩,
 ⟨(none, .loadN 37 4 (.t 2)), [], []⟩,
 ⟨(none, .mv 38 (.t 6)), [], []⟩,
 ⟨(none, .fieldAddr 41 (.t 2) 3), [], []⟩,
 ⟨(none, .load1 42 (.t 41)), [], []⟩,
 ⟨(none, .mv 43 (.t 8)), [], []⟩,
 ⟨(none, .mv 44 (.t 6)), [], []⟩,
 ⟨(none, .idxS 45 3 (.t 42) (.t 43)), [], []⟩,
 ⟨(none, .idxA 46 3 1 (.t 45) (.t 44)), [], []⟩,
 ⟨(none, .load1 47 (.t 46)), [], []⟩,
 ⟨(none, .call (some 39) F.spec_l2Long [(.t 37), (.t 38)]), [], [0, 1, 2, 3, 4, 5, 6, 7, 10, 11, 12, 13, 14, 15, 16]⟩,
 ⟨(none, .bin 40 .mul (.t 36) (.t 39)), [], []⟩,
 ⟨(none, .bin 48 .add (.t 40) (.t 47)), [], []⟩,
 ⟨(none, .idxS 49 1 (.t 29) (.t 48)), [], []⟩,
 ⟨(none, .load1 50 (.t 49)), [], []⟩,
 ⟨(none, .bin 51 .add (.t 50) (.c (.I 1))), [], []⟩,
 ⟨(none, .idxS 52 1 (.t 29) (.t 48)), [], []⟩,
 ⟨(none, .store 1 (.t 52) (.t 51)), [], []⟩]))
 (.ops [(none, .mv 27 (.t 8)),
 (none, .bin 28 .add (.t 27) (.c (.I 1))),
 (none, .mv 8 (.t 28))]))))))
 (.seq (.ops [(none, .mv 53 (.t 7)),
 (none, .mv 4 (.t 53))])
 (.ret)))))⟩
end Go.Ab.C

/- That the program has this code. -/
namespace Go.Ab.K
open Go Go.Ab
theorem spec_l2Others : prepF Go.Proofs.Try.prog F.spec_l2Others = some C.spec_l2Others := by kernel_rfl
theorem spec_l2View : prepF Go.Proofs.Try.prog F.spec_l2View = some C.spec_l2View := by kernel_rfl
end Go.Ab.K

/- The abstract code of some functions (written by a program of mine from the translation, by way of prepF). -/
namespace Go.Ab.C
open Go.Ab
end Go.Ab.C

/- That the program has this code. -/
namespace Go.Ab.K
open Go Go.Ab
end Go.Ab.K

/- Contracts: views, the program's side. -/
namespace Go.Ab
open Go
set_option linter.unusedSimpArgs false
set_option linter.unusedVariables false

/-- One more cube in a view. -/
def viewStep (y z : Int) (d : Nat) (v : List Int) (c : Cell) : List Int := v.set (lineOf y z c d).toNat (v.getD (lineOf y z c d).toNat 0 + 1)
def viewL (x y z : Int) (d : Nat) (cs : List Cell) : List Int := cs.foldl (viewStep y z d) (List.replicate (linesOf x y z d).toNat 0)
theorem foldl_len {y z : Int} {d : Nat} : ∀ {cs : List Cell} {v : List Int}, (cs.foldl (viewStep y z d) v).length = v.length
  | [], _ => rfl
  | c :: cs, v => by rw [List.foldl_cons, foldl_len]; simp [viewStep]
theorem viewL_len {x y z : Int} {d : Nat} {cs : List Cell} : (viewL x y z d cs).length = (linesOf x y z d).toNat := by unfold viewL; rw [foldl_len]; simp
theorem fold_bound {y z : Int} {d : Nat} : ∀ {cs : List Cell} {v : List Int} {n : Int}, (∀ j, 0 ≤ v.getD j 0 ∧ v.getD j 0 ≤ n) → ∀ j, 0 ≤ (cs.foldl (viewStep y z d) v).getD j 0 ∧ (cs.foldl (viewStep y z d) v).getD j 0 ≤ n + cs.length
  | [], v, n, h, j => by have := h j; simp only [List.foldl_nil, List.length_nil]; omega
  | c :: cs, v, n, h, j => by
    rw [List.foldl_cons]
    have := fold_bound (y := y) (z := z) (d := d) (cs := cs) (v := viewStep y z d v c) (n := n + 1) (fun i => by
      have h1 := h i
      have h2 := h (lineOf y z c d).toNat
      unfold viewStep
      rw [List.getD_eq_getElem?_getD, List.getElem?_set]
      split
      · split
        · simp only [Option.getD_some]; omega
        · simp; omega
      · rw [← List.getD_eq_getElem?_getD]; omega) j
    simp only [List.length_cons]; omega
theorem take_foldl {y z : Int} {d i : Nat} {cs : List Cell} {v : List Int} (h : i < cs.length) : (cs.take (i + 1)).foldl (viewStep y z d) v = viewStep y z d ((cs.take i).foldl (viewStep y z d) v) (cs.getD i default) := by
  rw [List.take_succ, List.getElem?_eq_getElem h, Option.toList_some, List.foldl_append]
  have e : cs.getD i default = cs[i] := by simp [h]
  rw [e]; rfl

end Go.Ab
