/- Parts of the proof of FnTopWalksSaid: Ec Ed Ee Ef C_Dh K_Dh C_Dg K_Dg C_Df K_Df C_De2 K_De2 C_De K_De C_Dd K_Dd C_Dc K_Dc C_Db K_Db Db Dc Dd De C_Dd2 K_Dd2 Dd2 De2 C_Dc2 K_Dc2 Dc2. -/
import Derived.Test.YthgljdbfkojpeaaA5
import Derived.Test.YthgljdbfkojpeaaA4
import Derived.Laws.Bits64
import Derived.Test.YthgljdbfkojpeaaA3
import Derived.Test.YthgljdbfkojpeaaProg
import Derived.KernelRfl
set_option linter.all false
/- Contracts: the program's steps between columns. -/
namespace Go.Ab
open Go
set_option linter.unusedSimpArgs false
set_option linter.unusedVariables false

theorem g_near {t o : Nat} {y p c : Int} {n : Nat} {M : Mem} (hy : 1 ≤ y ∧ y ≤ 4) (hc : 0 ≤ c ∧ c ≤ 16) (hn : (n : Int) = c) (hp : 0 ≤ p ∧ p < c) :
    CallsTo PG F.impl_top_near [.agg [.ref t o n, .I y], .I p] M (.ref M.length 0 (nearL y c p).length) (M ++ [some (.row (intL (nearL y c p)) true 1)]) := by
  have hy0 : y ≠ 0 := by omega
  have hd := div_bound hy (p := p) (by omega)
  refine calls_run K.impl_top_near rfl ?_
  simp (disch := omega) only [C.impl_top_near, ↓SXd, SXu, slBounds, ↓sop, ↓aop, ↓reduceIte, LV.cells, AOp.dst, LV.I, LV.B, LV.U, LV.S, LV.nil, Nat.reduceEqDiff, Nat.reduceAdd, Nat.reduceMul, Nat.reduceSub, Nat.reduceLeDiff, Nat.reduceBEq, Nat.reduceDiv, Nat.reduceMod, Int.reduceToNat, Int.reduceLT, Int.reduceLE, Int.reduceAdd, Int.reduceSub, Int.reduceMul, Int.reduceEq, Int.reduceNeg, reduceCtorEq, resV, resAll, ARes.ev, LV.flat, ite_true, ite_false, exists_eq_left', exists_eq_left, keyOf, implies_true, fillC, capOf]
  have hpre0 : Pre M (M ++ [some (Blk.row [.ref t o n, .I y] true 0), some (Blk.row [] true 1)]) := Pre.app _ _
  have hbox0 : Live (M ++ [some (Blk.row [.ref t o n, .I y] true 0), some (Blk.row [] true 1)]) M.length (.row [.ref t o n, .I y] true 0) := Live.new
  have hout0 : Live (M ++ [some (Blk.row [.ref t o n, .I y] true 0), some (Blk.row [] true 1)]) (M.length + 1) (.row (intL []) true 1) := Live.newj rfl
  generalize M ++ [some (Blk.row [.ref t o n, .I y] true 0), some (Blk.row [] true 1)] = M0 at hpre0 hbox0 hout0 ⊢
  refine condC_cut (fun fr M' => ∃ u, Pre M M' ∧ Live M' M.length (.row [.ref t o n, .I y] true 0) ∧ M.length < u ∧ Live M' u (.row (intL (if y ≤ p then [p - y] else [])) true 1) ∧ fr 1 = .I p ∧ fr 2 = .ptr M.length 0 ∧ fr 5 = .ref u 0 (if y ≤ p then [p - y] else []).length) ?_ ?_
  · refine condC_dec (fun h => ?_) (fun h => ?_)
    · simp (disch := omega) only [hbox0.cell, ↓SXd, SXu, slBounds, ↓sop, ↓aop, ↓reduceIte, LV.cells, AOp.dst, LV.I, LV.B, LV.U, LV.S, LV.nil, Nat.reduceEqDiff, Nat.reduceAdd, Nat.reduceMul, Nat.reduceSub, Nat.reduceLeDiff, Nat.reduceBEq, Nat.reduceDiv, Nat.reduceMod, Int.reduceToNat, Int.reduceLT, Int.reduceLE, Int.reduceAdd, Int.reduceSub, Int.reduceMul, Int.reduceEq, Int.reduceNeg, reduceCtorEq, resV, resAll, ARes.ev, LV.flat, ite_true, ite_false, exists_eq_left', exists_eq_left, keyOf, implies_true, fillC, capOf]
      refine appendK_int (acc := []) hout0 (by simp) fun M' l1 l2 l3 => ?_
      simp (disch := omega) only [↓SXd, SXu, slBounds, ↓sop, ↓aop, ↓reduceIte, LV.cells, AOp.dst, LV.I, LV.B, LV.U, LV.S, LV.nil, Nat.reduceEqDiff, Nat.reduceAdd, Nat.reduceMul, Nat.reduceSub, Nat.reduceLeDiff, Nat.reduceBEq, Nat.reduceDiv, Nat.reduceMod, Int.reduceToNat, Int.reduceLT, Int.reduceLE, Int.reduceAdd, Int.reduceSub, Int.reduceMul, Int.reduceEq, Int.reduceNeg, reduceCtorEq, resV, resAll, ARes.ev, LV.flat, ite_true, ite_false, exists_eq_left', exists_eq_left, keyOf, implies_true, fillC, capOf]
      simp only [if_pos h]
      exact ⟨_, pre_step hpre0 (by omega) l1 l3, live_step hbox0 (by omega) l3, by have := hpre0.1; omega, l2, rfl, rfl, rfl⟩
    · simp (disch := omega) only [↓SXd, SXu, slBounds, ↓sop, ↓aop, ↓reduceIte, LV.cells, AOp.dst, LV.I, LV.B, LV.U, LV.S, LV.nil, Nat.reduceEqDiff, Nat.reduceAdd, Nat.reduceMul, Nat.reduceSub, Nat.reduceLeDiff, Nat.reduceBEq, Nat.reduceDiv, Nat.reduceMod, Int.reduceToNat, Int.reduceLT, Int.reduceLE, Int.reduceAdd, Int.reduceSub, Int.reduceMul, Int.reduceEq, Int.reduceNeg, reduceCtorEq, resV, resAll, ARes.ev, LV.flat, ite_true, ite_false, exists_eq_left', exists_eq_left, keyOf, implies_true, fillC, capOf]
      simp only [if_neg h]
      exact ⟨M.length + 1, hpre0, hbox0, by omega, hout0, rfl, rfl, rfl⟩
  generalize hA1 : (if y ≤ p then [p - y] else []) = A1
  have hA1l : A1.length ≤ 1 := by rw [← hA1]; split <;> simp
  rintro fr M1 ⟨u, hpre, hbox, hu, hout, h1, h2, h5⟩
  simp (disch := omega) only [h1, h2, h5, hbox.cell, hy0, not_false_eq_true, ne_eq, ↓SXd, SXu, slBounds, ↓sop, ↓aop, ↓reduceIte, LV.cells, AOp.dst, LV.I, LV.B, LV.U, LV.S, LV.nil, Nat.reduceEqDiff, Nat.reduceAdd, Nat.reduceMul, Nat.reduceSub, Nat.reduceLeDiff, Nat.reduceBEq, Nat.reduceDiv, Nat.reduceMod, Int.reduceToNat, Int.reduceLT, Int.reduceLE, Int.reduceAdd, Int.reduceSub, Int.reduceMul, Int.reduceEq, Int.reduceNeg, reduceCtorEq, resV, resAll, ARes.ev, LV.flat, ite_true, ite_false, exists_eq_left', exists_eq_left, keyOf, implies_true, fillC, capOf]
  refine condC_cut (fun fr M' => ∃ u, Pre M M' ∧ Live M' M.length (.row [.ref t o n, .I y] true 0) ∧ M.length < u ∧ Live M' u (.row (intL (A1 ++ (if 0 < p.tmod y then [p - 1] else []))) true 1) ∧ fr 1 = .I p ∧ fr 2 = .ptr M.length 0 ∧ fr 5 = .ref u 0 (A1 ++ (if 0 < p.tmod y then [p - 1] else [])).length) ?_ ?_
  · refine condC_dec (fun h => ?_) (fun h => ?_)
    · simp (disch := omega) only [h1, h2, h5, hbox.cell, ↓SXd, SXu, slBounds, ↓sop, ↓aop, ↓reduceIte, LV.cells, AOp.dst, LV.I, LV.B, LV.U, LV.S, LV.nil, Nat.reduceEqDiff, Nat.reduceAdd, Nat.reduceMul, Nat.reduceSub, Nat.reduceLeDiff, Nat.reduceBEq, Nat.reduceDiv, Nat.reduceMod, Int.reduceToNat, Int.reduceLT, Int.reduceLE, Int.reduceAdd, Int.reduceSub, Int.reduceMul, Int.reduceEq, Int.reduceNeg, reduceCtorEq, resV, resAll, ARes.ev, LV.flat, ite_true, ite_false, exists_eq_left', exists_eq_left, keyOf, implies_true, fillC, capOf]
      refine appendK_int hout (by omega) fun M' l1 l2 l3 => ?_
      simp (disch := omega) only [h1, h2, h5, ↓SXd, SXu, slBounds, ↓sop, ↓aop, ↓reduceIte, LV.cells, AOp.dst, LV.I, LV.B, LV.U, LV.S, LV.nil, Nat.reduceEqDiff, Nat.reduceAdd, Nat.reduceMul, Nat.reduceSub, Nat.reduceLeDiff, Nat.reduceBEq, Nat.reduceDiv, Nat.reduceMod, Int.reduceToNat, Int.reduceLT, Int.reduceLE, Int.reduceAdd, Int.reduceSub, Int.reduceMul, Int.reduceEq, Int.reduceNeg, reduceCtorEq, resV, resAll, ARes.ev, LV.flat, ite_true, ite_false, exists_eq_left', exists_eq_left, keyOf, implies_true, fillC, capOf]
      simp only [if_pos h]
      exact ⟨_, pre_step hpre (by omega) l1 l3, live_step hbox (by omega) l3, by have := hpre.1; omega, l2, h1, h2, rfl⟩
    · simp (disch := omega) only [h1, h2, h5, ↓SXd, SXu, slBounds, ↓sop, ↓aop, ↓reduceIte, LV.cells, AOp.dst, LV.I, LV.B, LV.U, LV.S, LV.nil, Nat.reduceEqDiff, Nat.reduceAdd, Nat.reduceMul, Nat.reduceSub, Nat.reduceLeDiff, Nat.reduceBEq, Nat.reduceDiv, Nat.reduceMod, Int.reduceToNat, Int.reduceLT, Int.reduceLE, Int.reduceAdd, Int.reduceSub, Int.reduceMul, Int.reduceEq, Int.reduceNeg, reduceCtorEq, resV, resAll, ARes.ev, LV.flat, ite_true, ite_false, exists_eq_left', exists_eq_left, keyOf, implies_true, fillC, capOf]
      simp only [if_neg h, List.append_nil]
      exact ⟨u, hpre, hbox, hu, hout, h1, h2, h5⟩
  generalize hA2 : A1 ++ (if 0 < p.tmod y then [p - 1] else []) = A2
  have hA2l : A2.length ≤ 2 := by rw [← hA2]; simp only [List.length_append]; split <;> simp <;> omega
  clear hout h1 h2 h5 hbox hpre hu
  rintro fr M2 ⟨u, hpre, hbox, hu, hout, h1, h2, h5⟩
  simp (disch := omega) only [h1, h2, h5, hbox.cell, hy0, not_false_eq_true, ne_eq, ↓SXd, SXu, slBounds, ↓sop, ↓aop, ↓reduceIte, LV.cells, AOp.dst, LV.I, LV.B, LV.U, LV.S, LV.nil, Nat.reduceEqDiff, Nat.reduceAdd, Nat.reduceMul, Nat.reduceSub, Nat.reduceLeDiff, Nat.reduceBEq, Nat.reduceDiv, Nat.reduceMod, Int.reduceToNat, Int.reduceLT, Int.reduceLE, Int.reduceAdd, Int.reduceSub, Int.reduceMul, Int.reduceEq, Int.reduceNeg, reduceCtorEq, resV, resAll, ARes.ev, LV.flat, ite_true, ite_false, exists_eq_left', exists_eq_left, keyOf, implies_true, fillC, capOf]
  refine condC_cut (fun fr M' => ∃ u, Pre M M' ∧ Live M' M.length (.row [.ref t o n, .I y] true 0) ∧ M.length < u ∧ Live M' u (.row (intL (A2 ++ (if p.tmod y < y - 1 then [p + 1] else []))) true 1) ∧ fr 1 = .I p ∧ fr 2 = .ptr M.length 0 ∧ fr 5 = .ref u 0 (A2 ++ (if p.tmod y < y - 1 then [p + 1] else [])).length) ?_ ?_
  · refine condC_dec (fun h => ?_) (fun h => ?_)
    · simp (disch := omega) only [h1, h2, h5, hbox.cell, ↓SXd, SXu, slBounds, ↓sop, ↓aop, ↓reduceIte, LV.cells, AOp.dst, LV.I, LV.B, LV.U, LV.S, LV.nil, Nat.reduceEqDiff, Nat.reduceAdd, Nat.reduceMul, Nat.reduceSub, Nat.reduceLeDiff, Nat.reduceBEq, Nat.reduceDiv, Nat.reduceMod, Int.reduceToNat, Int.reduceLT, Int.reduceLE, Int.reduceAdd, Int.reduceSub, Int.reduceMul, Int.reduceEq, Int.reduceNeg, reduceCtorEq, resV, resAll, ARes.ev, LV.flat, ite_true, ite_false, exists_eq_left', exists_eq_left, keyOf, implies_true, fillC, capOf]
      refine appendK_int hout (by omega) fun M' l1 l2 l3 => ?_
      simp (disch := omega) only [h1, h2, h5, ↓SXd, SXu, slBounds, ↓sop, ↓aop, ↓reduceIte, LV.cells, AOp.dst, LV.I, LV.B, LV.U, LV.S, LV.nil, Nat.reduceEqDiff, Nat.reduceAdd, Nat.reduceMul, Nat.reduceSub, Nat.reduceLeDiff, Nat.reduceBEq, Nat.reduceDiv, Nat.reduceMod, Int.reduceToNat, Int.reduceLT, Int.reduceLE, Int.reduceAdd, Int.reduceSub, Int.reduceMul, Int.reduceEq, Int.reduceNeg, reduceCtorEq, resV, resAll, ARes.ev, LV.flat, ite_true, ite_false, exists_eq_left', exists_eq_left, keyOf, implies_true, fillC, capOf]
      simp only [if_pos h]
      exact ⟨_, pre_step hpre (by omega) l1 l3, live_step hbox (by omega) l3, by have := hpre.1; omega, l2, h1, h2, rfl⟩
    · simp (disch := omega) only [h1, h2, h5, ↓SXd, SXu, slBounds, ↓sop, ↓aop, ↓reduceIte, LV.cells, AOp.dst, LV.I, LV.B, LV.U, LV.S, LV.nil, Nat.reduceEqDiff, Nat.reduceAdd, Nat.reduceMul, Nat.reduceSub, Nat.reduceLeDiff, Nat.reduceBEq, Nat.reduceDiv, Nat.reduceMod, Int.reduceToNat, Int.reduceLT, Int.reduceLE, Int.reduceAdd, Int.reduceSub, Int.reduceMul, Int.reduceEq, Int.reduceNeg, reduceCtorEq, resV, resAll, ARes.ev, LV.flat, ite_true, ite_false, exists_eq_left', exists_eq_left, keyOf, implies_true, fillC, capOf]
      simp only [if_neg h, List.append_nil]
      exact ⟨u, hpre, hbox, hu, hout, h1, h2, h5⟩
  generalize hA3 : A2 ++ (if p.tmod y < y - 1 then [p + 1] else []) = A3
  have hA3l : A3.length ≤ 3 := by rw [← hA3]; simp only [List.length_append]; split <;> simp <;> omega
  clear hout h1 h2 h5 hbox hpre hu
  rintro fr M3 ⟨u, hpre, hbox, hu, hout, h1, h2, h5⟩
  have hfin : nearL y c p = A3 ++ (if p + y < c then [p + y] else []) := by rw [← hA3, ← hA2, ← hA1]; simp [nearL]
  simp (disch := omega) only [h1, h2, h5, hbox.cell, hn, ↓SXd, SXu, slBounds, ↓sop, ↓aop, ↓reduceIte, LV.cells, AOp.dst, LV.I, LV.B, LV.U, LV.S, LV.nil, Nat.reduceEqDiff, Nat.reduceAdd, Nat.reduceMul, Nat.reduceSub, Nat.reduceLeDiff, Nat.reduceBEq, Nat.reduceDiv, Nat.reduceMod, Int.reduceToNat, Int.reduceLT, Int.reduceLE, Int.reduceAdd, Int.reduceSub, Int.reduceMul, Int.reduceEq, Int.reduceNeg, reduceCtorEq, resV, resAll, ARes.ev, LV.flat, ite_true, ite_false, exists_eq_left', exists_eq_left, keyOf, implies_true, fillC, capOf]
  refine condC_dec (fun h => ?_) (fun h => ?_)
  · simp (disch := omega) only [h1, h2, h5, hbox.cell, ↓SXd, SXu, slBounds, ↓sop, ↓aop, ↓reduceIte, LV.cells, AOp.dst, LV.I, LV.B, LV.U, LV.S, LV.nil, Nat.reduceEqDiff, Nat.reduceAdd, Nat.reduceMul, Nat.reduceSub, Nat.reduceLeDiff, Nat.reduceBEq, Nat.reduceDiv, Nat.reduceMod, Int.reduceToNat, Int.reduceLT, Int.reduceLE, Int.reduceAdd, Int.reduceSub, Int.reduceMul, Int.reduceEq, Int.reduceNeg, reduceCtorEq, resV, resAll, ARes.ev, LV.flat, ite_true, ite_false, exists_eq_left', exists_eq_left, keyOf, implies_true, fillC, capOf]
    refine appendK_int hout (by omega) fun M' l1 l2 l3 => ?_
    simp (disch := omega) only [h1, h2, h5, ↓SXd, SXu, slBounds, ↓sop, ↓aop, ↓reduceIte, LV.cells, AOp.dst, LV.I, LV.B, LV.U, LV.S, LV.nil, Nat.reduceEqDiff, Nat.reduceAdd, Nat.reduceMul, Nat.reduceSub, Nat.reduceLeDiff, Nat.reduceBEq, Nat.reduceDiv, Nat.reduceMod, Int.reduceToNat, Int.reduceLT, Int.reduceLE, Int.reduceAdd, Int.reduceSub, Int.reduceMul, Int.reduceEq, Int.reduceNeg, reduceCtorEq, resV, resAll, ARes.ev, LV.flat, ite_true, ite_false, exists_eq_left', exists_eq_left, keyOf, implies_true, fillC, capOf]
    rw [hfin, if_pos h]
    have := hpre.1
    exact cmp_keepL (pre_step hpre (by omega) l1 l3) (by omega) l2 (intL_lo _) (by simp [rn, rn0, rn1])
  · simp (disch := omega) only [h1, h2, h5, ↓SXd, SXu, slBounds, ↓sop, ↓aop, ↓reduceIte, LV.cells, AOp.dst, LV.I, LV.B, LV.U, LV.S, LV.nil, Nat.reduceEqDiff, Nat.reduceAdd, Nat.reduceMul, Nat.reduceSub, Nat.reduceLeDiff, Nat.reduceBEq, Nat.reduceDiv, Nat.reduceMod, Int.reduceToNat, Int.reduceLT, Int.reduceLE, Int.reduceAdd, Int.reduceSub, Int.reduceMul, Int.reduceEq, Int.reduceNeg, reduceCtorEq, resV, resAll, ARes.ev, LV.flat, ite_true, ite_false, exists_eq_left', exists_eq_left, keyOf, implies_true, fillC, capOf]
    rw [hfin, if_neg h, List.append_nil]
    exact cmp_keepL hpre (by omega) hout (intL_lo _) (by simp [rn, rn0, rn1])

theorem g_apart {t o : Nat} {v : LV} {p q : Int} {ts : List Int} {M : Mem} (h : Ints M t o ts) (hlow : ∀ k, k < ts.length → -100 ≤ ts.getD k 0 ∧ ts.getD k 0 ≤ 100) (hp : 0 ≤ p ∧ p < (ts.length : Int)) (hq : 0 ≤ q ∧ q < (ts.length : Int)) :
    CallsTo PG F.impl_top_apart [.agg [.ref t o ts.length, v], .I p, .I q] M (.I (gap (ts.getD p.toNat 0) (ts.getD q.toNat 0))) M := by
  have hv1 := hlow p.toNat (by omega)
  have hv2 := hlow q.toNat (by omega)
  have ht := h.lt
  refine calls_run K.impl_top_apart rfl ?_
  simp (disch := omega) only [C.impl_top_apart, getCell_app, Ints.get h, maxV, if_true, ↓SXd, SXu, slBounds, ↓sop, ↓aop, ↓reduceIte, LV.cells, AOp.dst, LV.I, LV.B, LV.U, LV.S, LV.nil, Nat.reduceEqDiff, Nat.reduceAdd, Nat.reduceMul, Nat.reduceSub, Nat.reduceLeDiff, Nat.reduceBEq, Nat.reduceDiv, Nat.reduceMod, Int.reduceToNat, Int.reduceLT, Int.reduceLE, Int.reduceAdd, Int.reduceSub, Int.reduceMul, Int.reduceEq, Int.reduceNeg, reduceCtorEq, resV, resAll, ARes.ev, LV.flat, ite_true, ite_false, exists_eq_left', exists_eq_left, keyOf, implies_true, fillC, capOf]
  exact cmp_drop rfl

/-- Whether two heights are too far apart: the closure of steps. -/
theorem g_steps1 {t o b1 b2 b3 : Nat} {v : LV} {p q s : Int} {ts : List Int} {M : Mem} (h : Ints M t o ts) (hlow : ∀ k, k < ts.length → -100 ≤ ts.getD k 0 ∧ ts.getD k 0 ≤ 100) (hp : 0 ≤ p ∧ p < (ts.length : Int)) (hq : 0 ≤ q ∧ q < (ts.length : Int))
    (h1 : getCells M b1 0 2 = some [.ref t o ts.length, v]) (h2 : getCell M b2 0 = some (.I p)) (h3 : getCell M b3 0 = some (.I s)) :
    CallsTo PG F.impl_top_steps_1 [.I q, .ptr b1 0, .ptr b2 0, .ptr b3 0] M (.B (decide (s < gap (ts.getD p.toNat 0) (ts.getD q.toNat 0)))) M := by
  refine calls_run K.impl_top_steps_1 rfl ?_
  simp (disch := omega) only [C.impl_top_steps_1, h1, h2, h3, ↓SXd, SXu, slBounds, ↓sop, ↓aop, ↓reduceIte, LV.cells, AOp.dst, LV.I, LV.B, LV.U, LV.S, LV.nil, Nat.reduceEqDiff, Nat.reduceAdd, Nat.reduceMul, Nat.reduceSub, Nat.reduceLeDiff, Nat.reduceBEq, Nat.reduceDiv, Nat.reduceMod, Int.reduceToNat, Int.reduceLT, Int.reduceLE, Int.reduceAdd, Int.reduceSub, Int.reduceMul, Int.reduceEq, Int.reduceNeg, reduceCtorEq, resV, resAll, ARes.ev, LV.flat, ite_true, ite_false, exists_eq_left', exists_eq_left, keyOf, implies_true, fillC, capOf]
  refine callK_of (g_apart h hlow hp hq) ?_
  simp (disch := omega) only [h1, h2, h3, ↓SXd, SXu, slBounds, ↓sop, ↓aop, ↓reduceIte, LV.cells, AOp.dst, LV.I, LV.B, LV.U, LV.S, LV.nil, Nat.reduceEqDiff, Nat.reduceAdd, Nat.reduceMul, Nat.reduceSub, Nat.reduceLeDiff, Nat.reduceBEq, Nat.reduceDiv, Nat.reduceMod, Int.reduceToNat, Int.reduceLT, Int.reduceLE, Int.reduceAdd, Int.reduceSub, Int.reduceMul, Int.reduceEq, Int.reduceNeg, reduceCtorEq, resV, resAll, ARes.ev, LV.flat, ite_true, ite_false, exists_eq_left', exists_eq_left, keyOf, implies_true, fillC, capOf]
  exact cmp_drop0 rfl
end Go.Ab

/- Contracts: searching and deleting in slices, by a function. -/
namespace Go.Ab
open Go
set_option linter.unusedSimpArgs false
set_option linter.unusedVariables false

/-- The place of the first number with a mark, or -1. -/
def idxF (pr : Int → Bool) (xs : List Int) : Int := match xs.findIdx? pr with | some i => (i : Int) | none => -1
theorem idxF_at {pr : Int → Bool} {xs : List Int} {k : Nat} (hk : k < xs.length) (h : ∀ j, j < k → pr (xs.getD j 0) = false) (hp : pr (xs.getD k 0) = true) : idxF pr xs = k := by
  unfold idxF
  have : xs.findIdx? pr = some k := by
    rw [List.findIdx?_eq_some_iff_getElem]
    refine ⟨hk, by simpa [hk] using hp, fun j hj => ?_⟩
    have := h j hj
    simpa [show j < xs.length by omega] using this
  rw [this]
theorem idxF_none {pr : Int → Bool} {xs : List Int} (h : ∀ j, j < xs.length → pr (xs.getD j 0) = false) : idxF pr xs = -1 := by
  unfold idxF
  have : xs.findIdx? pr = none := by
    rw [List.findIdx?_eq_none_iff]
    intro x hx
    obtain ⟨j, hj⟩ := List.mem_iff_getElem?.1 hx
    have hjl : j < xs.length := by
      rcases Nat.lt_or_ge j xs.length with h' | h'
      · exact h'
      · rw [List.getElem?_eq_none h'] at hj; cases hj
    have := h j hjl
    rw [List.getD_eq_getElem?_getD, hj] at this
    exact this
  rw [this]

theorem g_IndexFunc {t o : Nat} {xs : List Int} {f : FuncId} {caps : List (Nat × Nat)} {pr : Int → Bool} {M : Mem} (h : Ints M t o xs) (hn : xs.length ≤ 1000000000)
    (hf : ∀ k, k < xs.length → CallsTo PG f ([.I (xs.getD k 0)] ++ caps.map fun p => .ptr p.1 p.2) M (.B (pr (xs.getD k 0))) M) :
    CallsTo PG F.slices_IndexFunc_Sint_int [.ref t o xs.length, .clo f caps] M (.I (idxF pr xs)) M := by
  refine calls_run K.slices_IndexFunc_Sint_int rfl ?_
  simp (disch := omega) only [C.slices_IndexFunc_Sint_int, ↓SXd, SXu, slBounds, ↓sop, ↓aop, ↓reduceIte, LV.cells, AOp.dst, LV.I, LV.B, LV.U, LV.S, LV.nil, Nat.reduceEqDiff, Nat.reduceAdd, Nat.reduceMul, Nat.reduceSub, Nat.reduceLeDiff, Nat.reduceBEq, Nat.reduceDiv, Nat.reduceMod, Int.reduceToNat, Int.reduceLT, Int.reduceLE, Int.reduceAdd, Int.reduceSub, Int.reduceMul, Int.reduceEq, Int.reduceNeg, reduceCtorEq, resV, resAll, ARes.ev, LV.flat, ite_true, ite_false, exists_eq_left', exists_eq_left, keyOf, implies_true, fillC, capOf]
  refine ev_loop (fun m fr M' => ∃ k : Nat, k + m = xs.length ∧ M' = M ∧ fr 0 = .ref t o xs.length ∧ fr 1 = .clo f caps ∧ fr 7 = .I (xs.length : Nat) ∧ fr 8 = .I k ∧ ∀ j, j < k → pr (xs.getD j 0) = false) xs.length
    ⟨0, by omega, rfl, rfl, rfl, rfl, rfl, by omega⟩ ?_
  rintro m fr M' ⟨k, hk, rfl, h0, h1, h7, h8, hj⟩
  simp (disch := omega) only [h0, h1, h7, h8, ↓SXd, SXu, slBounds, ↓sop, ↓aop, ↓reduceIte, LV.cells, AOp.dst, LV.I, LV.B, LV.U, LV.S, LV.nil, Nat.reduceEqDiff, Nat.reduceAdd, Nat.reduceMul, Nat.reduceSub, Nat.reduceLeDiff, Nat.reduceBEq, Nat.reduceDiv, Nat.reduceMod, Int.reduceToNat, Int.reduceLT, Int.reduceLE, Int.reduceAdd, Int.reduceSub, Int.reduceMul, Int.reduceEq, Int.reduceNeg, reduceCtorEq, resV, resAll, ARes.ev, LV.flat, ite_true, ite_false, exists_eq_left', exists_eq_left, keyOf, implies_true, fillC, capOf]
  refine condC_dec (fun hlt => ?_) (fun hlt => ?_)
  · simp (disch := omega) only [h0, h1, h7, h8, Ints.get h, ↓SXd, SXu, slBounds, ↓sop, ↓aop, ↓reduceIte, LV.cells, AOp.dst, LV.I, LV.B, LV.U, LV.S, LV.nil, Nat.reduceEqDiff, Nat.reduceAdd, Nat.reduceMul, Nat.reduceSub, Nat.reduceLeDiff, Nat.reduceBEq, Nat.reduceDiv, Nat.reduceMod, Int.reduceToNat, Int.reduceLT, Int.reduceLE, Int.reduceAdd, Int.reduceSub, Int.reduceMul, Int.reduceEq, Int.reduceNeg, reduceCtorEq, resV, resAll, ARes.ev, LV.flat, ite_true, ite_false, exists_eq_left', exists_eq_left, keyOf, implies_true, fillC, capOf]
    refine callK_of (hf k (by omega)) ?_
    simp (disch := omega) only [h0, h1, h7, h8, ↓SXd, SXu, slBounds, ↓sop, ↓aop, ↓reduceIte, LV.cells, AOp.dst, LV.I, LV.B, LV.U, LV.S, LV.nil, Nat.reduceEqDiff, Nat.reduceAdd, Nat.reduceMul, Nat.reduceSub, Nat.reduceLeDiff, Nat.reduceBEq, Nat.reduceDiv, Nat.reduceMod, Int.reduceToNat, Int.reduceLT, Int.reduceLE, Int.reduceAdd, Int.reduceSub, Int.reduceMul, Int.reduceEq, Int.reduceNeg, reduceCtorEq, resV, resAll, ARes.ev, LV.flat, ite_true, ite_false, exists_eq_left', exists_eq_left, keyOf, implies_true, fillC, capOf]
    refine condC_mk (fun hp => ?_) (fun hp => ?_) <;> simp (disch := omega) only [h0, h1, h7, h8, ↓SXd, SXu, slBounds, ↓sop, ↓aop, ↓reduceIte, LV.cells, AOp.dst, LV.I, LV.B, LV.U, LV.S, LV.nil, Nat.reduceEqDiff, Nat.reduceAdd, Nat.reduceMul, Nat.reduceSub, Nat.reduceLeDiff, Nat.reduceBEq, Nat.reduceDiv, Nat.reduceMod, Int.reduceToNat, Int.reduceLT, Int.reduceLE, Int.reduceAdd, Int.reduceSub, Int.reduceMul, Int.reduceEq, Int.reduceNeg, reduceCtorEq, resV, resAll, ARes.ev, LV.flat, ite_true, ite_false, exists_eq_left', exists_eq_left, keyOf, implies_true, fillC, capOf]
    · rw [idxF_at (by omega) hj hp]; exact cmp_drop0 rfl
    · refine ⟨m - 1, by omega, k + 1, by omega, rfl, h0, h1, h7, eqI (natI _), fun j hj1 => ?_⟩
      by_cases hjk : j = k
      · subst hjk; exact hp
      · exact hj j (by omega)
  · simp (disch := omega) only [h0, h1, h7, h8, ↓SXd, SXu, slBounds, ↓sop, ↓aop, ↓reduceIte, LV.cells, AOp.dst, LV.I, LV.B, LV.U, LV.S, LV.nil, Nat.reduceEqDiff, Nat.reduceAdd, Nat.reduceMul, Nat.reduceSub, Nat.reduceLeDiff, Nat.reduceBEq, Nat.reduceDiv, Nat.reduceMod, Int.reduceToNat, Int.reduceLT, Int.reduceLE, Int.reduceAdd, Int.reduceSub, Int.reduceMul, Int.reduceEq, Int.reduceNeg, reduceCtorEq, resV, resAll, ARes.ev, LV.flat, ite_true, ite_false, exists_eq_left', exists_eq_left, keyOf, implies_true, fillC, capOf]
    rw [idxF_none fun j hj1 => hj j (by omega)]; exact cmp_drop0 rfl

/-- What DeleteFunc leaves in the block: what stays, then zeros. -/
def delRow (pr : Int → Bool) (xs : List Int) : List Int := xs.filter (fun v => !pr v) ++ List.replicate (xs.length - (xs.filter fun v => !pr v).length) 0

theorem del_all {pr : Int → Bool} {xs : List Int} (h : ∀ j, j < xs.length → pr (xs.getD j 0) = false) : xs.filter (fun v => !pr v) = xs := by
  rw [List.filter_eq_self]
  intro x hx
  obtain ⟨j, hj⟩ := List.mem_iff_getElem?.1 hx
  have hjl : j < xs.length := by
    rcases Nat.lt_or_ge j xs.length with h' | h'
    · exact h'
    · rw [List.getElem?_eq_none h'] at hj; cases hj
  have := h j hjl
  rw [List.getD_eq_getElem?_getD, hj] at this
  simpa using this

theorem idxF_cases (pr : Int → Bool) (xs : List Int) : (idxF pr xs = -1 ∧ ∀ j, j < xs.length → pr (xs.getD j 0) = false) ∨
    ∃ k, k < xs.length ∧ idxF pr xs = (k : Int) ∧ (∀ j, j < k → pr (xs.getD j 0) = false) ∧ pr (xs.getD k 0) = true := by
  unfold idxF
  cases he : xs.findIdx? pr with
  | none =>
    refine .inl ⟨rfl, fun j hj => ?_⟩
    rw [List.findIdx?_eq_none_iff] at he
    exact he _ (getD_mem hj)
  | some k =>
    rw [List.findIdx?_eq_some_iff_getElem] at he
    obtain ⟨hk, h1, h2⟩ := he
    refine .inr ⟨k, hk, rfl, fun j hj => ?_, by simpa [hk] using h1⟩
    have := h2 j hj
    simpa [show j < xs.length by omega] using this

theorem take_all {pr : Int → Bool} {xs : List Int} {k : Nat} (hk : k ≤ xs.length) (h : ∀ j, j < k → pr (xs.getD j 0) = false) : (xs.take k).filter (fun v => !pr v) = xs.take k := by
  refine del_all fun j hj => ?_
  simp only [List.length_take] at hj
  have := h j (by omega)
  rw [List.getD_eq_getElem?_getD, List.getElem?_take, if_pos (by omega), ← List.getD_eq_getElem?_getD]
  exact this

theorem splice_intL {A B D : List Int} {k : Nat} (hk : k = A.length) (h : D.length = B.length) : splice (intL (A ++ B)) k (intL D) = intL (A ++ D) := by
  subst hk
  unfold splice
  rw [intL_append, intL_append, List.take_left' (intL_len A), intL_len, List.drop_of_length_le (by simp [intL_len]; omega), List.append_nil]

theorem g_DeleteFunc {t : Nat} {xs : List Int} {f : FuncId} {caps : List (Nat × Nat)} {pr : Int → Bool} {M : Mem} (ht : Live M t (.row (intL xs) true 1)) (hn : xs.length ≤ 1000000000)
    (hf : ∀ M', M'.length = M.length → (∀ u, u ≠ t → M'[u]? = M[u]?) → ∀ k, k < xs.length → CallsTo PG f ([.I (xs.getD k 0)] ++ caps.map fun p => .ptr p.1 p.2) M' (.B (pr (xs.getD k 0))) M') :
    CallsTo PG F.slices_DeleteFunc_Sint_int [.ref t 0 xs.length, .clo f caps] M (.ref t 0 (xs.filter fun v => !pr v).length) (M.set t (some (.row (intL (delRow pr xs)) true 1))) := by
  refine calls_run K.slices_DeleteFunc_Sint_int rfl ?_
  simp (disch := omega) only [C.slices_DeleteFunc_Sint_int, ↓SXd, SXu, slBounds, ↓sop, ↓aop, ↓reduceIte, LV.cells, AOp.dst, LV.I, LV.B, LV.U, LV.S, LV.nil, Nat.reduceEqDiff, Nat.reduceAdd, Nat.reduceMul, Nat.reduceSub, Nat.reduceLeDiff, Nat.reduceBEq, Nat.reduceDiv, Nat.reduceMod, Int.reduceToNat, Int.reduceLT, Int.reduceLE, Int.reduceAdd, Int.reduceSub, Int.reduceMul, Int.reduceEq, Int.reduceNeg, reduceCtorEq, resV, resAll, ARes.ev, LV.flat, ite_true, ite_false, exists_eq_left', exists_eq_left, keyOf, implies_true, fillC, capOf]
  refine callK_of (g_IndexFunc ht.has hn (hf M rfl fun _ _ => rfl)) ?_
  rcases idxF_cases pr xs with ⟨he, hall⟩ | ⟨i0, hi0, he, hbef, hat⟩
  · simp (disch := omega) only [he, ↓SXd, SXu, slBounds, ↓sop, ↓aop, ↓reduceIte, LV.cells, AOp.dst, LV.I, LV.B, LV.U, LV.S, LV.nil, Nat.reduceEqDiff, Nat.reduceAdd, Nat.reduceMul, Nat.reduceSub, Nat.reduceLeDiff, Nat.reduceBEq, Nat.reduceDiv, Nat.reduceMod, Int.reduceToNat, Int.reduceLT, Int.reduceLE, Int.reduceAdd, Int.reduceSub, Int.reduceMul, Int.reduceEq, Int.reduceNeg, reduceCtorEq, resV, resAll, ARes.ev, LV.flat, ite_true, ite_false, exists_eq_left', exists_eq_left, keyOf, implies_true, fillC, capOf]
    have e1 := del_all hall
    have e2 : M.set t (some (.row (intL (delRow pr xs)) true 1)) = M := by
      rw [show delRow pr xs = xs by simp [delRow, e1]]
      apply List.ext_getElem?
      intro u
      by_cases hu : t = u
      · subst hu; rw [List.getElem?_set]; simp only [ht.lt, if_true]; exact (show M[t]? = _ from ht).symm
      · rw [List.getElem?_set_ne hu]
    rw [e2, e1]
    exact cmp_same (Nat.le_refl _) fun _ _ h => .inl h
  · have hne : ¬ (i0 : Int) = -1 := by omega
    have hF0 : (xs.take (i0 + 1)).filter (fun v => !pr v) = xs.take i0 := by
      have e : xs[i0]? = some (xs.getD i0 0) := by simp [hi0]
      rw [List.take_add_one, List.filter_append, take_all (by omega) hbef, e]
      simp only [Option.toList]
      rw [List.filter_cons_of_neg (by simpa using hat)]
      simp
    simp (disch := omega) only [he, hne, ↓SXd, SXu, slBounds, ↓sop, ↓aop, ↓reduceIte, LV.cells, AOp.dst, LV.I, LV.B, LV.U, LV.S, LV.nil, Nat.reduceEqDiff, Nat.reduceAdd, Nat.reduceMul, Nat.reduceSub, Nat.reduceLeDiff, Nat.reduceBEq, Nat.reduceDiv, Nat.reduceMod, Int.reduceToNat, Int.reduceLT, Int.reduceLE, Int.reduceAdd, Int.reduceSub, Int.reduceMul, Int.reduceEq, Int.reduceNeg, reduceCtorEq, resV, resAll, ARes.ev, LV.flat, ite_true, ite_false, exists_eq_left', exists_eq_left, keyOf, implies_true, fillC, capOf]
    refine ev_loop (fun m fr M' => ∃ (j : Nat) (acc : List Int), j + m = xs.length ∧ acc = (xs.take j).filter (fun v => !pr v) ∧ acc.length < j ∧ M' = M.set t (some (.row (intL (acc ++ xs.drop acc.length)) true 1)) ∧
      fr 0 = .ref t 0 xs.length ∧ fr 1 = .clo f caps ∧ fr 5 = .I (acc.length : Nat) ∧ fr 6 = .I j) (xs.length - (i0 + 1)) ⟨i0 + 1, xs.take i0, by omega, hF0.symm, by simp; omega, ?_, rfl, rfl, ?_, rfl⟩ ?_
    · have hl : (xs.take i0).length = i0 := by simp; omega
      rw [hl, List.take_append_drop]
      apply List.ext_getElem?
      intro u
      by_cases hu : t = u
      · subst hu; rw [List.getElem?_set]; simp only [ht.lt, if_true]; exact (show M[t]? = _ from ht)
      · rw [List.getElem?_set_ne hu]
    · have hl : (xs.take i0).length = i0 := by simp; omega
      rw [hl]; rfl
    · rintro m fr M' ⟨j, acc, hj, hacc, haj, rfl, h0, h1, h5, h6⟩
      have hlive : Live (M.set t (some (.row (intL (acc ++ xs.drop acc.length)) true 1))) t (.row (intL (acc ++ xs.drop acc.length)) true 1) := ht.set_eq
      have hlen : (acc ++ xs.drop acc.length).length = xs.length := by simp; omega
      simp (disch := omega) only [h0, h1, h5, h6, ↓SXd, SXu, slBounds, ↓sop, ↓aop, ↓reduceIte, LV.cells, AOp.dst, LV.I, LV.B, LV.U, LV.S, LV.nil, Nat.reduceEqDiff, Nat.reduceAdd, Nat.reduceMul, Nat.reduceSub, Nat.reduceLeDiff, Nat.reduceBEq, Nat.reduceDiv, Nat.reduceMod, Int.reduceToNat, Int.reduceLT, Int.reduceLE, Int.reduceAdd, Int.reduceSub, Int.reduceMul, Int.reduceEq, Int.reduceNeg, reduceCtorEq, resV, resAll, ARes.ev, LV.flat, ite_true, ite_false, exists_eq_left', exists_eq_left, keyOf, implies_true, fillC, capOf]
      refine condC_dec (fun hlt => ?_) (fun hlt => ?_)
      · have hget : (acc ++ xs.drop acc.length).getD j 0 = xs.getD j 0 := by
          simp only [List.getD_eq_getElem?_getD]
          rw [List.getElem?_append_right (by omega), List.getElem?_drop]
          congr 2
          omega
        have e : xs[j]? = some (xs.getD j 0) := by simp [show j < xs.length by omega]
        simp (disch := omega) only [h0, h1, h5, h6, hlive.cell, hlen, intL_get, hget, ↓SXd, SXu, slBounds, ↓sop, ↓aop, ↓reduceIte, LV.cells, AOp.dst, LV.I, LV.B, LV.U, LV.S, LV.nil, Nat.reduceEqDiff, Nat.reduceAdd, Nat.reduceMul, Nat.reduceSub, Nat.reduceLeDiff, Nat.reduceBEq, Nat.reduceDiv, Nat.reduceMod, Int.reduceToNat, Int.reduceLT, Int.reduceLE, Int.reduceAdd, Int.reduceSub, Int.reduceMul, Int.reduceEq, Int.reduceNeg, reduceCtorEq, resV, resAll, ARes.ev, LV.flat, ite_true, ite_false, exists_eq_left', exists_eq_left, keyOf, implies_true, fillC, capOf]
        refine callK_of (hf _ (by simp) (fun u hu => List.getElem?_set_ne (fun e => hu e.symm)) j (by omega)) ?_
        simp (disch := omega) only [h0, h1, h5, h6, ↓SXd, SXu, slBounds, ↓sop, ↓aop, ↓reduceIte, LV.cells, AOp.dst, LV.I, LV.B, LV.U, LV.S, LV.nil, Nat.reduceEqDiff, Nat.reduceAdd, Nat.reduceMul, Nat.reduceSub, Nat.reduceLeDiff, Nat.reduceBEq, Nat.reduceDiv, Nat.reduceMod, Int.reduceToNat, Int.reduceLT, Int.reduceLE, Int.reduceAdd, Int.reduceSub, Int.reduceMul, Int.reduceEq, Int.reduceNeg, reduceCtorEq, resV, resAll, ARes.ev, LV.flat, ite_true, ite_false, exists_eq_left', exists_eq_left, keyOf, implies_true, fillC, capOf]
        refine condC_mk (fun hp => ?_) (fun hp => ?_)
        · simp (disch := omega) only [h0, h1, h5, h6, ↓SXd, SXu, slBounds, ↓sop, ↓aop, ↓reduceIte, LV.cells, AOp.dst, LV.I, LV.B, LV.U, LV.S, LV.nil, Nat.reduceEqDiff, Nat.reduceAdd, Nat.reduceMul, Nat.reduceSub, Nat.reduceLeDiff, Nat.reduceBEq, Nat.reduceDiv, Nat.reduceMod, Int.reduceToNat, Int.reduceLT, Int.reduceLE, Int.reduceAdd, Int.reduceSub, Int.reduceMul, Int.reduceEq, Int.reduceNeg, reduceCtorEq, resV, resAll, ARes.ev, LV.flat, ite_true, ite_false, exists_eq_left', exists_eq_left, keyOf, implies_true, fillC, capOf]
          refine ⟨m - 1, by omega, j + 1, acc, by omega, ?_, by omega, rfl, h0, h1, h5, eqI (natI _)⟩
          rw [List.take_add_one, List.filter_append, ← hacc, e]
          simp only [Option.toList]
          rw [List.filter_cons_of_neg (by simpa using hp)]; simp
        · simp (disch := omega) only [h0, h1, h5, h6, ↓SXd, SXu, slBounds, ↓sop, ↓aop, ↓reduceIte, LV.cells, AOp.dst, LV.I, LV.B, LV.U, LV.S, LV.nil, Nat.reduceEqDiff, Nat.reduceAdd, Nat.reduceMul, Nat.reduceSub, Nat.reduceLeDiff, Nat.reduceBEq, Nat.reduceDiv, Nat.reduceMod, Int.reduceToNat, Int.reduceLT, Int.reduceLE, Int.reduceAdd, Int.reduceSub, Int.reduceMul, Int.reduceEq, Int.reduceNeg, reduceCtorEq, resV, resAll, ARes.ev, LV.flat, ite_true, ite_false, exists_eq_left', exists_eq_left, keyOf, implies_true, fillC, capOf]
          rw [hlive.setC, if_pos (by rw [intL_len]; simp; omega), splice_int (by omega)]
          simp (disch := omega) only [h0, h1, h5, h6, List.set_set, ↓SXd, SXu, slBounds, ↓sop, ↓aop, ↓reduceIte, LV.cells, AOp.dst, LV.I, LV.B, LV.U, LV.S, LV.nil, Nat.reduceEqDiff, Nat.reduceAdd, Nat.reduceMul, Nat.reduceSub, Nat.reduceLeDiff, Nat.reduceBEq, Nat.reduceDiv, Nat.reduceMod, Int.reduceToNat, Int.reduceLT, Int.reduceLE, Int.reduceAdd, Int.reduceSub, Int.reduceMul, Int.reduceEq, Int.reduceNeg, reduceCtorEq, resV, resAll, ARes.ev, LV.flat, ite_true, ite_false, exists_eq_left', exists_eq_left, keyOf, implies_true, fillC, capOf]
          refine ⟨m - 1, by omega, j + 1, acc ++ [xs.getD j 0], by omega, ?_, by simp; omega, ?_, h0, h1, eqI (by simp), eqI (natI _)⟩
          · rw [List.take_add_one, List.filter_append, ← hacc, e]
            simp only [Option.toList]
            rw [List.filter_cons_of_pos (by simpa using hp)]; rfl
          · congr 3
            rw [List.set_append_right _ _ (by omega), Nat.sub_self, List.drop_eq_getElem_cons (show acc.length < xs.length by omega), List.set_cons_zero]
            simp
      · simp (disch := omega) only [h0, h1, h5, h6, hlive.esz, made_int, if_true, ↓SXd, SXu, slBounds, ↓sop, ↓aop, ↓reduceIte, LV.cells, AOp.dst, LV.I, LV.B, LV.U, LV.S, LV.nil, Nat.reduceEqDiff, Nat.reduceAdd, Nat.reduceMul, Nat.reduceSub, Nat.reduceLeDiff, Nat.reduceBEq, Nat.reduceDiv, Nat.reduceMod, Int.reduceToNat, Int.reduceLT, Int.reduceLE, Int.reduceAdd, Int.reduceSub, Int.reduceMul, Int.reduceEq, Int.reduceNeg, reduceCtorEq, resV, resAll, ARes.ev, LV.flat, ite_true, ite_false, exists_eq_left', exists_eq_left, keyOf, implies_true, fillC, capOf]
        rw [hlive.setC, if_pos (by rw [intL_len, intL_len]; simp <;> omega), splice_intL rfl (by simp)]
        simp (disch := omega) only [h0, h1, h5, h6, List.set_set, hlive.esz, ht.set_eq.esz, if_true, ↓SXd, SXu, slBounds, ↓sop, ↓aop, ↓reduceIte, LV.cells, AOp.dst, LV.I, LV.B, LV.U, LV.S, LV.nil, Nat.reduceEqDiff, Nat.reduceAdd, Nat.reduceMul, Nat.reduceSub, Nat.reduceLeDiff, Nat.reduceBEq, Nat.reduceDiv, Nat.reduceMod, Int.reduceToNat, Int.reduceLT, Int.reduceLE, Int.reduceAdd, Int.reduceSub, Int.reduceMul, Int.reduceEq, Int.reduceNeg, reduceCtorEq, resV, resAll, ARes.ev, LV.flat, ite_true, ite_false, exists_eq_left', exists_eq_left, keyOf, implies_true, fillC, capOf]
        have : j = xs.length := by omega
        subst this
        rw [List.take_length] at hacc
        rw [← hacc, show delRow pr xs = acc ++ List.replicate (xs.length - acc.length) 0 by unfold delRow; rw [← hacc]]
        exact cmp_set
end Go.Ab

/- Contracts: the program's steps; repeated numbers. -/
namespace Go.Ab
open Go
set_option linter.unusedSimpArgs false
set_option linter.unusedVariables false
set_option maxRecDepth 20000

theorem gap_comm (a b : Int) : gap a b = gap b a := by unfold gap; omega

/-- The row that the program's steps leave: the steps, then zeros. -/
def stepRow (x y : Int) (ts : List Int) (p s : Int) : List Int := stepsOf x y ts p s ++ List.replicate ((nexts x y p).length - (stepsOf x y ts p s).length) 0

theorem g_steps {x y p s : Int} {t o : Nat} {ts : List Int} {M : Mem} (hx : 1 ≤ x ∧ x ≤ 4) (hy : 1 ≤ y ∧ y ≤ 4) (hp : 0 ≤ p ∧ p ≤ x * y - 1) (h : Ints M t o ts) (hl : ts.length = (x * y).toNat) (hlow : ∀ k, k < ts.length → -100 ≤ ts.getD k 0 ∧ ts.getD k 0 ≤ 100) :
    CallsTo PG F.impl_top_steps [.agg [.ref t o (x * y).toNat, .I y], .I p, .I s] M (.ref M.length 0 (stepsOf x y ts p s).length) (M ++ [some (.row (intL (stepRow x y ts p s)) true 1)]) := by
  have hb := mul_bound hx hy
  have hnl := nexts_len (x := x) (y := y) (p := p) hb.2
  have hne : nearL y (x * y) p = nexts x y p := near_eq hx hy (by omega)
  have ht := h.lt
  refine calls_run K.impl_top_steps rfl ?_
  simp (disch := omega) only [C.impl_top_steps, ↓SXd, SXu, slBounds, ↓sop, ↓aop, ↓reduceIte, LV.cells, AOp.dst, LV.I, LV.B, LV.U, LV.S, LV.nil, Nat.reduceEqDiff, Nat.reduceAdd, Nat.reduceMul, Nat.reduceSub, Nat.reduceLeDiff, Nat.reduceBEq, Nat.reduceDiv, Nat.reduceMod, Int.reduceToNat, Int.reduceLT, Int.reduceLE, Int.reduceAdd, Int.reduceSub, Int.reduceMul, Int.reduceEq, Int.reduceNeg, reduceCtorEq, resV, resAll, ARes.ev, LV.flat, ite_true, ite_false, exists_eq_left', exists_eq_left, keyOf, implies_true, fillC, capOf]
  refine callK_of (g_near (c := x * y) hy (by omega) (by omega) (by omega)) ?_
  rw [hne]
  simp (disch := omega) only [capOf, ↓SXd, SXu, slBounds, ↓sop, ↓aop, ↓reduceIte, LV.cells, AOp.dst, LV.I, LV.B, LV.U, LV.S, LV.nil, Nat.reduceEqDiff, Nat.reduceAdd, Nat.reduceMul, Nat.reduceSub, Nat.reduceLeDiff, Nat.reduceBEq, Nat.reduceDiv, Nat.reduceMod, Int.reduceToNat, Int.reduceLT, Int.reduceLE, Int.reduceAdd, Int.reduceSub, Int.reduceMul, Int.reduceEq, Int.reduceNeg, reduceCtorEq, resV, resAll, ARes.ev, LV.flat, ite_true, ite_false, exists_eq_left', exists_eq_left, keyOf, implies_true, fillC, capOf]
  have hlive : Live (M ++ [some (Blk.row [.ref t o (x * y).toNat, .I y] true 0), some (Blk.row [.I p] true 0), some (Blk.row [.I s] true 0), some (Blk.row (intL (nexts x y p)) true 1)]) (M.length + 3) (.row (intL (nexts x y p)) true 1) := Live.newj rfl
  refine callK_of (g_DeleteFunc (pr := fun v => decide (s < gap (ts.getD p.toNat 0) (ts.getD v.toNat 0))) hlive (by omega) fun M' hM' hu k hk => ?_) ?_
  · have hq := nexts_mem (getD_mem (d := 0) hk)
    have e0 : M'[M.length]? = some (some (Blk.row [.ref t o (x * y).toNat, .I y] true 0)) := by rw [hu _ (by omega), at_0]; rfl
    have e1 : M'[M.length + 1]? = some (some (Blk.row [.I p] true 0)) := by rw [hu _ (by omega), at_j]; rfl
    have e2 : M'[M.length + 2]? = some (some (Blk.row [.I s] true 0)) := by rw [hu _ (by omega), at_j]; rfl
    have hpre : Pre M M' := ⟨by rw [hM']; simp, fun u hul => by rw [hu u (by omega), List.getElem?_append_left hul]⟩
    have l0 : Live M' M.length _ := e0
    have l1 : Live M' (M.length + 1) _ := e1
    have l2 : Live M' (M.length + 2) _ := e2
    have hI : Ints M' t o ts := h.pre hpre
    exact g_steps1 hI hlow (by omega) (by omega) (by rw [l0.cells, hl]; rfl) (by rw [l1.cell]; rfl) (by rw [l2.cell]; rfl)
  · have hfil : (nexts x y p).filter (fun v => !decide (s < gap (ts.getD p.toNat 0) (ts.getD v.toNat 0))) = stepsOf x y ts p s := by
      unfold stepsOf
      apply List.filter_congr
      intro q _
      rw [gap_comm (ts.getD p.toNat 0)]
      generalize gap (ts.getD q.toNat 0) (ts.getD p.toNat 0) = g
      by_cases hg : s < g
      · rw [decide_eq_true hg, decide_eq_false (show ¬ g ≤ s by omega)]; rfl
      · rw [decide_eq_false hg, decide_eq_true (show g ≤ s by omega)]; rfl
    rw [hfil, show delRow (fun v => decide (s < gap (ts.getD p.toNat 0) (ts.getD v.toNat 0))) (nexts x y p) = stepRow x y ts p s by unfold delRow stepRow; rw [hfil]]
    simp (disch := omega) only [↓SXd, SXu, slBounds, ↓sop, ↓aop, ↓reduceIte, LV.cells, AOp.dst, LV.I, LV.B, LV.U, LV.S, LV.nil, Nat.reduceEqDiff, Nat.reduceAdd, Nat.reduceMul, Nat.reduceSub, Nat.reduceLeDiff, Nat.reduceBEq, Nat.reduceDiv, Nat.reduceMod, Int.reduceToNat, Int.reduceLT, Int.reduceLE, Int.reduceAdd, Int.reduceSub, Int.reduceMul, Int.reduceEq, Int.reduceNeg, reduceCtorEq, resV, resAll, ARes.ev, LV.flat, ite_true, ite_false, exists_eq_left', exists_eq_left, keyOf, implies_true, fillC, capOf]
    exact cmp_keep1 (j := 3) rfl (intL_lo _) (by simp [rn, rn0, rn1, keepR_n])

theorem and_mask {n : Int} (h : 0 ≤ n ∧ n ≤ 4294967295) : (((BitVec.ofInt 64 n &&& BitVec.ofInt 64 4294967295).toNat : Nat) : Int) = n := by
  have h1 : BitVec.ofInt 64 n &&& BitVec.ofInt 64 4294967295 = BitVec.ofInt 64 n := by
    apply BitVec.eq_of_toNat_eq
    rw [BitVec.toNat_and]
    have e : (BitVec.ofInt 64 4294967295).toNat = 2 ^ 32 - 1 := by decide
    rw [e, Nat.and_two_pow_sub_one_eq_mod]
    apply Nat.mod_eq_of_lt
    rw [BitVec.toNat_ofInt]
    omega
  rw [h1, BitVec.toNat_ofInt]
  omega
theorem and_mask' {n : Int} (h : 0 ≤ n ∧ n ≤ 4294967295) : (((BitVec.ofInt IntKind.u64.bits n &&& BitVec.ofInt IntKind.u64.bits 4294967295).toNat : Nat) : Int) = n := and_mask h
theorem m32 : min 32 IntKind.u64.bits = 32 := rfl
theorem shr_0 {n : Int} (h : 0 ≤ n ∧ n ≤ 4294967295) : n.fdiv (2 ^ 32) = 0 := by
  rw [Int.fdiv_eq_ediv_of_nonneg _ (by decide)]
  omega
theorem wrap_u {x : Int} (h : 0 ≤ x ∧ x ≤ 18446744073709551615) : IntKind.u64.wrap x = x := by
  rw [IntKind.wrap_u64]; omega

theorem g_Mul64 {n : Int} {M : Mem} (h : 0 ≤ n ∧ n ≤ 4294967295) : CallsTo PG F.math_bits_Mul64 [.U 1, .U n] M (.tup [.U 0, .U n]) M := by
  refine calls_run K.math_bits_Mul64 rfl ?_
  simp (disch := omega) only [C.math_bits_Mul64, bv_add, bv_sub, bv_mul, bv_and, bv_or, bv_shr, bv_shl, and_mask', m32, shr_0, wrap_u, Int.zero_mul, Int.mul_zero, Int.one_mul, Int.zero_add, Int.add_zero, ↓SXd, SXu, slBounds, ↓sop, ↓aop, ↓reduceIte, LV.cells, AOp.dst, LV.I, LV.B, LV.U, LV.S, LV.nil, Nat.reduceEqDiff, Nat.reduceAdd, Nat.reduceMul, Nat.reduceSub, Nat.reduceLeDiff, Nat.reduceBEq, Nat.reduceDiv, Nat.reduceMod, Int.reduceToNat, Int.reduceLT, Int.reduceLE, Int.reduceAdd, Int.reduceSub, Int.reduceMul, Int.reduceEq, Int.reduceNeg, reduceCtorEq, resV, resAll, ARes.ev, LV.flat, ite_true, ite_false, exists_eq_left', exists_eq_left, keyOf, implies_true, fillC, capOf]
  exact cmp_drop0 rfl

theorem g_Mul {n : Int} {M : Mem} (h : 0 ≤ n ∧ n ≤ 4294967295) : CallsTo PG F.math_bits_Mul [.U 1, .U n] M (.tup [.U 0, .U n]) M := by
  refine calls_run K.math_bits_Mul rfl ?_
  simp (disch := omega) only [C.math_bits_Mul, ↓SXd, SXu, slBounds, ↓sop, ↓aop, ↓reduceIte, LV.cells, AOp.dst, LV.I, LV.B, LV.U, LV.S, LV.nil, Nat.reduceEqDiff, Nat.reduceAdd, Nat.reduceMul, Nat.reduceSub, Nat.reduceLeDiff, Nat.reduceBEq, Nat.reduceDiv, Nat.reduceMod, Int.reduceToNat, Int.reduceLT, Int.reduceLE, Int.reduceAdd, Int.reduceSub, Int.reduceMul, Int.reduceEq, Int.reduceNeg, reduceCtorEq, resV, resAll, ARes.ev, LV.flat, ite_true, ite_false, exists_eq_left', exists_eq_left, keyOf, implies_true, fillC, capOf]
  refine callK_of (g_Mul64 h) ?_
  simp (disch := omega) only [↓SXd, SXu, slBounds, ↓sop, ↓aop, ↓reduceIte, LV.cells, AOp.dst, LV.I, LV.B, LV.U, LV.S, LV.nil, Nat.reduceEqDiff, Nat.reduceAdd, Nat.reduceMul, Nat.reduceSub, Nat.reduceLeDiff, Nat.reduceBEq, Nat.reduceDiv, Nat.reduceMod, Int.reduceToNat, Int.reduceLT, Int.reduceLE, Int.reduceAdd, Int.reduceSub, Int.reduceMul, Int.reduceEq, Int.reduceNeg, reduceCtorEq, resV, resAll, ARes.ev, LV.flat, ite_true, ite_false, exists_eq_left', exists_eq_left, keyOf, implies_true, fillC, capOf]
  exact cmp_drop0 rfl

theorem copyK_int {M : Mem} {t off m t' o' n' : Nat} {xs ys : List Int} {A : Nat → Mem → Prop} (ht : Live M t (.row (intL xs) true 1)) (hm : off + m ≤ xs.length) (hs : Ints M t' o' ys) (hn : ys.length = n') (hn0 : 0 < n')
    (hA : ∀ M', M'.length = M.length → Live M' t (.row (intL (xs.take off ++ ys.take (min n' m) ++ xs.drop (off + min n' m))) true 1) → (∀ u, u ≠ t → u < M.length → M'[u]? = M[u]?) → A (min n' m) M') : copyK 1 (.ref t off m) (.ref t' o' n') M A := by
  subst hn
  have hl : ((intL ys).take (min ys.length m)).length = min ys.length m := by rw [List.length_take, intL_len]; omega
  have hg : getCells M t' o' ys.length = some (intL ys) := by have := hs.all; rwa [intL_len] at this
  simp only [copyK, lenS, winC, if_neg (show ¬ ys.length = 0 by omega), Nat.mul_one, hg]
  rw [ht.setC, if_pos (by rw [hl, intL_len] <;> omega)]
  refine hA _ (by simp) ?_ fun u hu _ => List.getElem?_set_ne (fun e => hu e.symm)
  have e : splice (intL xs) off ((intL ys).take (min ys.length m)) = intL (xs.take off ++ ys.take (min ys.length m) ++ xs.drop (off + min ys.length m)) := by
    unfold splice
    rw [hl]
    simp [intL, List.map_take, List.map_drop]
  rw [e]
  exact ht.set_eq

theorem g_Repeat {t o : Nat} {v : Int} {n : Nat} {M : Mem} (h : Ints M t o [v]) (hn : n ≤ 1000) (hn0 : 0 < n) :
    CallsTo PG F.slices_Repeat_Sint_int [.ref t o 1, .I n] M (.ref M.length 0 n) (M ++ [some (.row (intL (List.replicate n v)) true 1)]) := by
  refine calls_run K.slices_Repeat_Sint_int rfl ?_
  simp (disch := omega) only [C.slices_Repeat_Sint_int, wrap_u, Int.natCast_one, ↓SXd, SXu, slBounds, ↓sop, ↓aop, ↓reduceIte, LV.cells, AOp.dst, LV.I, LV.B, LV.U, LV.S, LV.nil, Nat.reduceEqDiff, Nat.reduceAdd, Nat.reduceMul, Nat.reduceSub, Nat.reduceLeDiff, Nat.reduceBEq, Nat.reduceDiv, Nat.reduceMod, Int.reduceToNat, Int.reduceLT, Int.reduceLE, Int.reduceAdd, Int.reduceSub, Int.reduceMul, Int.reduceEq, Int.reduceNeg, reduceCtorEq, resV, resAll, ARes.ev, LV.flat, ite_true, ite_false, exists_eq_left', exists_eq_left, keyOf, implies_true, fillC, capOf]
  refine callK_of (g_Mul (by omega)) ?_
  simp (disch := omega) only [wrap_u, made_int, ↓SXd, SXu, slBounds, ↓sop, ↓aop, ↓reduceIte, LV.cells, AOp.dst, LV.I, LV.B, LV.U, LV.S, LV.nil, Nat.reduceEqDiff, Nat.reduceAdd, Nat.reduceMul, Nat.reduceSub, Nat.reduceLeDiff, Nat.reduceBEq, Nat.reduceDiv, Nat.reduceMod, Int.reduceToNat, Int.reduceLT, Int.reduceLE, Int.reduceAdd, Int.reduceSub, Int.reduceMul, Int.reduceEq, Int.reduceNeg, reduceCtorEq, resV, resAll, ARes.ev, LV.flat, ite_true, ite_false, exists_eq_left', exists_eq_left, keyOf, implies_true, fillC, capOf]
  refine copyK_int (xs := List.replicate n 0) Live.new (by simp) h.app rfl (by simp) fun M1 l1 l2 l3 => ?_
  have hpre1 : Pre M M1 := pre_step (Pre.app M _) (Nat.le_refl _) (j := 0) l1 l3
  have e1 : (List.replicate n (0 : Int)).take 0 ++ [v].take (min 1 n) ++ (List.replicate n (0 : Int)).drop (0 + min 1 n) = List.replicate 1 v ++ List.replicate (n - 1) 0 := by
    rw [show min 1 n = 1 by omega]; simp
  have e2 : min 1 n = 1 := by omega
  rw [e1] at l2
  simp (disch := omega) only [List.length_singleton, e2, Int.natCast_one, ↓SXd, SXu, slBounds, ↓sop, ↓aop, ↓reduceIte, LV.cells, AOp.dst, LV.I, LV.B, LV.U, LV.S, LV.nil, Nat.reduceEqDiff, Nat.reduceAdd, Nat.reduceMul, Nat.reduceSub, Nat.reduceLeDiff, Nat.reduceBEq, Nat.reduceDiv, Nat.reduceMod, Int.reduceToNat, Int.reduceLT, Int.reduceLE, Int.reduceAdd, Int.reduceSub, Int.reduceMul, Int.reduceEq, Int.reduceNeg, reduceCtorEq, resV, resAll, ARes.ev, LV.flat, ite_true, ite_false, exists_eq_left', exists_eq_left, keyOf, implies_true, fillC, capOf]
  refine ev_loop (fun m fr M' => ∃ k : Nat, k + m = n ∧ 1 ≤ k ∧ Pre M M' ∧ Live M' M.length (.row (intL (List.replicate k v ++ List.replicate (n - k) 0)) true 1) ∧ fr 7 = .ref M.length 0 n ∧ fr 8 = .I k) (n - 1)
    ⟨1, by omega, by omega, hpre1, l2, rfl, rfl⟩ ?_
  rintro m fr M' ⟨k, hk, hk1, hpre, hrow, h7, h8⟩
  simp (disch := omega) only [h7, h8, ↓SXd, SXu, slBounds, ↓sop, ↓aop, ↓reduceIte, LV.cells, AOp.dst, LV.I, LV.B, LV.U, LV.S, LV.nil, Nat.reduceEqDiff, Nat.reduceAdd, Nat.reduceMul, Nat.reduceSub, Nat.reduceLeDiff, Nat.reduceBEq, Nat.reduceDiv, Nat.reduceMod, Int.reduceToNat, Int.reduceLT, Int.reduceLE, Int.reduceAdd, Int.reduceSub, Int.reduceMul, Int.reduceEq, Int.reduceNeg, reduceCtorEq, resV, resAll, ARes.ev, LV.flat, ite_true, ite_false, exists_eq_left', exists_eq_left, keyOf, implies_true, fillC, capOf]
  refine condC_dec (fun hlt => ?_) (fun hlt => ?_)
  · simp (disch := omega) only [h7, h8, hrow.esz, if_true, ↓SXd, SXu, slBounds, ↓sop, ↓aop, ↓reduceIte, LV.cells, AOp.dst, LV.I, LV.B, LV.U, LV.S, LV.nil, Nat.reduceEqDiff, Nat.reduceAdd, Nat.reduceMul, Nat.reduceSub, Nat.reduceLeDiff, Nat.reduceBEq, Nat.reduceDiv, Nat.reduceMod, Int.reduceToNat, Int.reduceLT, Int.reduceLE, Int.reduceAdd, Int.reduceSub, Int.reduceMul, Int.reduceEq, Int.reduceNeg, reduceCtorEq, resV, resAll, ARes.ev, LV.flat, ite_true, ite_false, exists_eq_left', exists_eq_left, keyOf, implies_true, fillC, capOf]
    have hsrc : Ints M' M.length 0 (List.replicate k v) := by
      refine ⟨_, hrow.row, by simp [intL_len], ?_⟩
      rw [intL_append, List.drop_zero, List.take_left']
      rw [intL_len]
    refine copyK_int hrow (by simp <;> omega) hsrc (by simp) (by omega) fun M2 k1 k2 k3 => ?_
    have e3 : (List.replicate k v ++ List.replicate (n - k) 0).take k ++ (List.replicate k v).take (min (k - 0) (n - k)) ++ (List.replicate k v ++ List.replicate (n - k) 0).drop (k + min (k - 0) (n - k)) =
        List.replicate (k + min k (n - k)) v ++ List.replicate (n - (k + min k (n - k))) 0 := by
      rw [List.take_left' (List.length_replicate ..), Nat.sub_zero, List.take_replicate, ← List.drop_drop, List.drop_left' (List.length_replicate ..), List.drop_replicate, List.replicate_append_replicate]
      congr 2 <;> omega
    rw [e3] at k2
    simp (disch := omega) only [h7, h8, Nat.sub_zero, ↓SXd, SXu, slBounds, ↓sop, ↓aop, ↓reduceIte, LV.cells, AOp.dst, LV.I, LV.B, LV.U, LV.S, LV.nil, Nat.reduceEqDiff, Nat.reduceAdd, Nat.reduceMul, Nat.reduceSub, Nat.reduceLeDiff, Nat.reduceBEq, Nat.reduceDiv, Nat.reduceMod, Int.reduceToNat, Int.reduceLT, Int.reduceLE, Int.reduceAdd, Int.reduceSub, Int.reduceMul, Int.reduceEq, Int.reduceNeg, reduceCtorEq, resV, resAll, ARes.ev, LV.flat, ite_true, ite_false, exists_eq_left', exists_eq_left, keyOf, implies_true, fillC, capOf]
    exact ⟨m - min k (n - k), by omega, k + min k (n - k), by omega, by omega, pre_step hpre (Nat.le_refl _) (j := 0) k1 k3, k2, h7, eqI (by omega)⟩
  · simp (disch := omega) only [h7, h8, ↓SXd, SXu, slBounds, ↓sop, ↓aop, ↓reduceIte, LV.cells, AOp.dst, LV.I, LV.B, LV.U, LV.S, LV.nil, Nat.reduceEqDiff, Nat.reduceAdd, Nat.reduceMul, Nat.reduceSub, Nat.reduceLeDiff, Nat.reduceBEq, Nat.reduceDiv, Nat.reduceMod, Int.reduceToNat, Int.reduceLT, Int.reduceLE, Int.reduceAdd, Int.reduceSub, Int.reduceMul, Int.reduceEq, Int.reduceNeg, reduceCtorEq, resV, resAll, ARes.ev, LV.flat, ite_true, ite_false, exists_eq_left', exists_eq_left, keyOf, implies_true, fillC, capOf]
    have : k = n := by omega
    subst this
    rw [Nat.sub_self, List.replicate_zero, List.append_nil] at hrow
    exact cmp_keepL hpre (Nat.le_refl _) hrow (intL_lo _) (by simp [rn, rn0, rn1])
end Go.Ab

/- Contracts: the program's distances. -/
namespace Go.Ab
open Go
set_option linter.unusedSimpArgs false
set_option linter.unusedVariables false

theorem stepRow_get {x y p s : Int} {ts : List Int} {k : Nat} (hk : k < (stepsOf x y ts p s).length) : (stepRow x y ts p s).getD k 0 = (stepsOf x y ts p s).getD k 0 := by
  unfold stepRow
  simp only [List.getD_eq_getElem?_getD]
  rw [List.getElem?_append_left hk]
theorem stepRow_len {x y p s : Int} {ts : List Int} : (stepsOf x y ts p s).length ≤ (stepRow x y ts p s).length := by unfold stepRow; simp

theorem g_distances {x y p s : Int} {t o : Nat} {ts : List Int} {M : Mem} (hx : 1 ≤ x ∧ x ≤ 4) (hy : 1 ≤ y ∧ y ≤ 4) (hp : 0 ≤ p ∧ p ≤ x * y - 1) (h : Ints M t o ts) (hl : ts.length = (x * y).toNat) (hlow : ∀ k, k < ts.length → -100 ≤ ts.getD k 0 ∧ ts.getD k 0 ≤ 100) :
    CallsTo PG F.impl_top_distances [.agg [.ref t o (x * y).toNat, .I y], .I p, .I s] M (.ref M.length 0 (x * y).toNat)
      (M ++ [some (.row (intL (farFrom (x * y).toNat (fun q => stepsOf x y ts q s) p)) true 1)]) := by
  have hb := mul_bound hx hy
  refine calls_run K.impl_top_distances rfl ?_
  simp (disch := omega) only [C.impl_top_distances, ↓SXd, SXu, slBounds, ↓sop, ↓aop, ↓reduceIte, LV.cells, AOp.dst, LV.I, LV.B, LV.U, LV.S, LV.nil, Nat.reduceEqDiff, Nat.reduceAdd, Nat.reduceMul, Nat.reduceSub, Nat.reduceLeDiff, Nat.reduceBEq, Nat.reduceDiv, Nat.reduceMod, Int.reduceToNat, Int.reduceLT, Int.reduceLE, Int.reduceAdd, Int.reduceSub, Int.reduceMul, Int.reduceEq, Int.reduceNeg, reduceCtorEq, resV, resAll, ARes.ev, LV.flat, ite_true, ite_false, exists_eq_left', exists_eq_left, keyOf, implies_true, fillC, capOf]
  refine callK_of (g_Repeat (v := -1) (Live.newj (j := 1) (b := .row (intL [-1]) true 1) rfl).has (by omega) (by omega)) ?_
  have hCl : (List.replicate (x * y).toNat (-1 : Int)).length = (x * y).toNat := by simp
  simp (disch := omega) only [intL_len, hCl, splice_int, ↓SXd, SXu, slBounds, ↓sop, ↓aop, ↓reduceIte, LV.cells, AOp.dst, LV.I, LV.B, LV.U, LV.S, LV.nil, Nat.reduceEqDiff, Nat.reduceAdd, Nat.reduceMul, Nat.reduceSub, Nat.reduceLeDiff, Nat.reduceBEq, Nat.reduceDiv, Nat.reduceMod, Int.reduceToNat, Int.reduceLT, Int.reduceLE, Int.reduceAdd, Int.reduceSub, Int.reduceMul, Int.reduceEq, Int.reduceNeg, reduceCtorEq, resV, resAll, ARes.ev, LV.flat, ite_true, ite_false, exists_eq_left', exists_eq_left, keyOf, implies_true, fillC, capOf]
  have hN : ∀ q r, r ∈ stepsOf x y ts q s → 0 ≤ r ∧ r < (((x * y).toNat : Nat) : Int) := steps_in
  refine ev_loop (fun m fr M' => ∃ (n u : Nat) (st : List Int × List Int), n + m = (x * y).toNat ∧ Pre M M' ∧ Live M' M.length (.row [.ref t o (x * y).toNat, .I y] true 0) ∧ Live M' (M.length + 2) (.row (intL st.1) true 1) ∧
    M.length + 3 ≤ u ∧ Live M' u (.row (intL st.2) true 1) ∧ BInv (x * y).toNat st ∧ n ≤ st.2.length ∧
    bfs (fun q => stepsOf x y ts q s) m n st = farFrom (x * y).toNat (fun q => stepsOf x y ts q s) p ∧
    fr 2 = .I s ∧ fr 3 = .ptr M.length 0 ∧ fr 7 = .ref (M.length + 2) 0 (x * y).toNat ∧ fr 8 = .ref u 0 st.2.length ∧ fr 9 = .I n) (x * y).toNat
    ⟨0, M.length + 3, _, by omega, Pre.app _ _, Live.new, Live.newj rfl, by omega, Live.newj rfl, BInv.start (by omega), by omega, rfl, rfl, rfl, rfl, rfl, rfl⟩ ?_
  rintro m fr M' ⟨n, u, st, hnm, hpre, hbox, hout, hu, hlist, hinv, hnl, hbfs, h2, h3, h7, h8, h9⟩
  have hle := hinv.le
  have hol := hinv.len
  simp (disch := omega) only [h2, h3, h7, h8, h9, ↓SXd, SXu, slBounds, ↓sop, ↓aop, ↓reduceIte, LV.cells, AOp.dst, LV.I, LV.B, LV.U, LV.S, LV.nil, Nat.reduceEqDiff, Nat.reduceAdd, Nat.reduceMul, Nat.reduceSub, Nat.reduceLeDiff, Nat.reduceBEq, Nat.reduceDiv, Nat.reduceMod, Int.reduceToNat, Int.reduceLT, Int.reduceLE, Int.reduceAdd, Int.reduceSub, Int.reduceMul, Int.reduceEq, Int.reduceNeg, reduceCtorEq, resV, resAll, ARes.ev, LV.flat, ite_true, ite_false, exists_eq_left', exists_eq_left, keyOf, implies_true, fillC, capOf]
  refine condC_dec (fun hlt => ?_) (fun hlt => ?_)
  · have hpn := hinv.mem _ (getD_mem (d := 0) (show n < st.2.length by omega))
    simp (disch := omega) only [h2, h3, h7, h8, h9, hbox.cells, hlist.cell, intL_get, ↓SXd, SXu, slBounds, ↓sop, ↓aop, ↓reduceIte, LV.cells, AOp.dst, LV.I, LV.B, LV.U, LV.S, LV.nil, Nat.reduceEqDiff, Nat.reduceAdd, Nat.reduceMul, Nat.reduceSub, Nat.reduceLeDiff, Nat.reduceBEq, Nat.reduceDiv, Nat.reduceMod, Int.reduceToNat, Int.reduceLT, Int.reduceLE, Int.reduceAdd, Int.reduceSub, Int.reduceMul, Int.reduceEq, Int.reduceNeg, reduceCtorEq, resV, resAll, ARes.ev, LV.flat, ite_true, ite_false, exists_eq_left', exists_eq_left, keyOf, implies_true, fillC, capOf]
    refine callK_of (g_steps hx hy (by omega) (h.pre hpre) hl hlow) ?_
    simp (disch := omega) only [h2, h3, h7, h8, h9, ↓SXd, SXu, slBounds, ↓sop, ↓aop, ↓reduceIte, LV.cells, AOp.dst, LV.I, LV.B, LV.U, LV.S, LV.nil, Nat.reduceEqDiff, Nat.reduceAdd, Nat.reduceMul, Nat.reduceSub, Nat.reduceLeDiff, Nat.reduceBEq, Nat.reduceDiv, Nat.reduceMod, Int.reduceToNat, Int.reduceLT, Int.reduceLE, Int.reduceAdd, Int.reduceSub, Int.reduceMul, Int.reduceEq, Int.reduceNeg, reduceCtorEq, resV, resAll, ARes.ev, LV.flat, ite_true, ite_false, exists_eq_left', exists_eq_left, keyOf, implies_true, fillC, capOf]
    have hpn' : 0 ≤ st.2.getD n 0 ∧ st.2.getD n 0 ≤ x * y - 1 := by omega
    generalize hpd : st.2.getD n 0 = pn at hpn hpn' hbfs ⊢
    have hnxm : ∀ k, k < (stepsOf x y ts pn s).length → 0 ≤ (stepsOf x y ts pn s).getD k 0 ∧ (stepsOf x y ts pn s).getD k 0 < (((x * y).toNat : Nat) : Int) := fun k hk => hN pn _ (getD_mem hk)
    have hnxl := stepsOf_len (p := pn) (s := s) (ts := ts) hb.2
    have hbfs' : bfs (fun q => stepsOf x y ts q s) (m - 1) (n + 1) ((stepsOf x y ts pn s).foldl (visit pn) st) = farFrom (x * y).toNat (fun q => stepsOf x y ts q s) p := by
      obtain ⟨m', rfl⟩ : ∃ m', m = m' + 1 := ⟨m - 1, by omega⟩
      rw [← hbfs]
      simp only [bfs, if_pos (show n < st.2.length by omega), hpd, Nat.add_sub_cancel]
    have hrg : ∀ k, k < (stepsOf x y ts pn s).length → (stepRow x y ts pn s).getD k 0 = (stepsOf x y ts pn s).getD k 0 := fun k hk => stepRow_get hk
    have hrl := stepRow_len (x := x) (y := y) (p := pn) (s := s) (ts := ts)
    generalize stepRow x y ts pn s = rw_ at hrg hrl ⊢
    generalize stepsOf x y ts pn s = nx at hnxm hnxl hbfs' hrg hrl ⊢
    have hw3 : M.length + 3 ≤ M'.length := by have := hlist.lt; omega
    refine ev_loop (fun m2 fr N => ∃ (i u : Nat) (st' : List Int × List Int), i + m2 = nx.length ∧ st' = (nx.take i).foldl (visit pn) st ∧ BInv (x * y).toNat st' ∧ Pre M N ∧ Live N M.length (.row [.ref t o (x * y).toNat, .I y] true 0) ∧
      Live N (M.length + 2) (.row (intL st'.1) true 1) ∧ M.length + 3 ≤ u ∧ u ≠ M'.length ∧ Live N u (.row (intL st'.2) true 1) ∧ Live N M'.length (.row (intL rw_) true 1) ∧
      n < st'.2.length ∧ st'.2.getD n 0 = pn ∧
      fr 2 = .I s ∧ fr 3 = .ptr M.length 0 ∧ fr 7 = .ref (M.length + 2) 0 (x * y).toNat ∧ fr 8 = .ref u 0 st'.2.length ∧ fr 9 = .I n ∧ fr 34 = .ref M'.length 0 nx.length ∧ fr 35 = .I (nx.length : Nat) ∧ fr 36 = .I i) nx.length
      ⟨0, u, st, by omega, rfl, hinv, Pre.app' hpre, hbox.app, hout.app, hu, by have := hlist.lt; omega, hlist.app, Live.new, by omega, hpd, h2, h3, h7, h8, h9, rfl, rfl, rfl⟩ ?_
    clear hinv hbox hout hlist h2 h3 h7 h8 h9 hle hol hbfs hpd
    rintro m2 fr N ⟨i, u', st', him, hst', hinv, hpre', hbox, hout, hu', hun, hlist, hnxL, hnl', hpd, h2, h3, h7, h8, h9, h34, h35, h36⟩
    have hle := hinv.le
    have hol := hinv.len
    simp (disch := omega) only [h2, h3, h7, h8, h9, h34, h35, h36, ↓SXd, SXu, slBounds, ↓sop, ↓aop, ↓reduceIte, LV.cells, AOp.dst, LV.I, LV.B, LV.U, LV.S, LV.nil, Nat.reduceEqDiff, Nat.reduceAdd, Nat.reduceMul, Nat.reduceSub, Nat.reduceLeDiff, Nat.reduceBEq, Nat.reduceDiv, Nat.reduceMod, Int.reduceToNat, Int.reduceLT, Int.reduceLE, Int.reduceAdd, Int.reduceSub, Int.reduceMul, Int.reduceEq, Int.reduceNeg, reduceCtorEq, resV, resAll, ARes.ev, LV.flat, ite_true, ite_false, exists_eq_left', exists_eq_left, keyOf, implies_true, fillC, capOf]
    refine condC_dec (fun hi => ?_) (fun hi => ?_)
    · have hq := hnxm i (by omega)
      have hri := hrg i (by omega)
      have hvp := hinv.val pn.toNat (by omega)
      have hstep : (nx.take (i + 1)).foldl (visit pn) st = visit pn st' (nx.getD i 0) := by
        rw [take_succ_foldl _ _ _ _ 0 (by omega), ← hst']
      have hkeep := visit_keep (p := pn) (q := nx.getD i 0) hnl'
      have hinv' := hinv.visit hpn hq
      simp (disch := omega) only [h2, h3, h7, h8, h9, h34, h35, h36, hnxL.cell, hout.cell, intL_get, hri, ↓SXd, SXu, slBounds, ↓sop, ↓aop, ↓reduceIte, LV.cells, AOp.dst, LV.I, LV.B, LV.U, LV.S, LV.nil, Nat.reduceEqDiff, Nat.reduceAdd, Nat.reduceMul, Nat.reduceSub, Nat.reduceLeDiff, Nat.reduceBEq, Nat.reduceDiv, Nat.reduceMod, Int.reduceToNat, Int.reduceLT, Int.reduceLE, Int.reduceAdd, Int.reduceSub, Int.reduceMul, Int.reduceEq, Int.reduceNeg, reduceCtorEq, resV, resAll, ARes.ev, LV.flat, ite_true, ite_false, exists_eq_left', exists_eq_left, keyOf, implies_true, fillC, capOf]
      refine condC_dec (fun hneg => ?_) (fun hneg => ?_)
      · simp (disch := omega) only [h2, h3, h7, h8, h9, h34, h35, h36, hnxL.cell, hout.cell, hlist.cell, intL_get, hpd, ↓SXd, SXu, slBounds, ↓sop, ↓aop, ↓reduceIte, LV.cells, AOp.dst, LV.I, LV.B, LV.U, LV.S, LV.nil, Nat.reduceEqDiff, Nat.reduceAdd, Nat.reduceMul, Nat.reduceSub, Nat.reduceLeDiff, Nat.reduceBEq, Nat.reduceDiv, Nat.reduceMod, Int.reduceToNat, Int.reduceLT, Int.reduceLE, Int.reduceAdd, Int.reduceSub, Int.reduceMul, Int.reduceEq, Int.reduceNeg, reduceCtorEq, resV, resAll, ARes.ev, LV.flat, ite_true, ite_false, exists_eq_left', exists_eq_left, keyOf, implies_true, fillC, capOf]
        refine memK_int hout (by omega) fun N1 l1 l2 l3 => ?_
        have hnxL1 := live_step hnxL (by omega) l3
        have hlist1 := live_step hlist (by omega) l3
        simp (disch := omega) only [h2, h3, h7, h8, h9, h34, h35, h36, ↓SXd, SXu, slBounds, ↓sop, ↓aop, ↓reduceIte, LV.cells, AOp.dst, LV.I, LV.B, LV.U, LV.S, LV.nil, Nat.reduceEqDiff, Nat.reduceAdd, Nat.reduceMul, Nat.reduceSub, Nat.reduceLeDiff, Nat.reduceBEq, Nat.reduceDiv, Nat.reduceMod, Int.reduceToNat, Int.reduceLT, Int.reduceLE, Int.reduceAdd, Int.reduceSub, Int.reduceMul, Int.reduceEq, Int.reduceNeg, reduceCtorEq, resV, resAll, ARes.ev, LV.flat, ite_true, ite_false, exists_eq_left', exists_eq_left, keyOf, implies_true, fillC, capOf]
        refine appendK_int hlist1 (by omega) fun N2 k1 k2 k3 => ?_
        simp (disch := omega) only [h2, h3, h7, h8, h9, h34, h35, h36, ↓SXd, SXu, slBounds, ↓sop, ↓aop, ↓reduceIte, LV.cells, AOp.dst, LV.I, LV.B, LV.U, LV.S, LV.nil, Nat.reduceEqDiff, Nat.reduceAdd, Nat.reduceMul, Nat.reduceSub, Nat.reduceLeDiff, Nat.reduceBEq, Nat.reduceDiv, Nat.reduceMod, Int.reduceToNat, Int.reduceLT, Int.reduceLE, Int.reduceAdd, Int.reduceSub, Int.reduceMul, Int.reduceEq, Int.reduceNeg, reduceCtorEq, resV, resAll, ARes.ev, LV.flat, ite_true, ite_false, exists_eq_left', exists_eq_left, keyOf, implies_true, fillC, capOf]
        have hv : visit pn st' (nx.getD i 0) = (st'.1.set (nx.getD i 0).toNat (st'.1.getD pn.toNat 0 + 1), st'.2 ++ [nx.getD i 0]) := by unfold visit; rw [if_pos hneg]
        rw [hv] at hstep hkeep hinv'
        refine ⟨m2 - 1, by omega, i + 1, _, _, by omega, hstep.symm, hinv', pre_step (pre_step hpre' (by omega) (j := 0) l1 l3) (by omega) k1 k3, live_step (live_step hbox (by omega) l3) (by omega) k3, live_step l2 (by omega) k3,
          ?_, ?_, k2, live_step hnxL1 (by omega) k3, hkeep.1, hkeep.2.trans hpd, h2, h3, h7, rfl, h9, h34, h35, eqI (natI _)⟩
        · have := hpre'.1; have := hlist.lt; omega
        · have := hnxL1.lt; omega
      · simp (disch := omega) only [h2, h3, h7, h8, h9, h34, h35, h36, ↓SXd, SXu, slBounds, ↓sop, ↓aop, ↓reduceIte, LV.cells, AOp.dst, LV.I, LV.B, LV.U, LV.S, LV.nil, Nat.reduceEqDiff, Nat.reduceAdd, Nat.reduceMul, Nat.reduceSub, Nat.reduceLeDiff, Nat.reduceBEq, Nat.reduceDiv, Nat.reduceMod, Int.reduceToNat, Int.reduceLT, Int.reduceLE, Int.reduceAdd, Int.reduceSub, Int.reduceMul, Int.reduceEq, Int.reduceNeg, reduceCtorEq, resV, resAll, ARes.ev, LV.flat, ite_true, ite_false, exists_eq_left', exists_eq_left, keyOf, implies_true, fillC, capOf]
        have hv : visit pn st' (nx.getD i 0) = st' := by unfold visit; rw [if_neg hneg]
        rw [hv] at hstep
        exact ⟨m2 - 1, by omega, i + 1, u', st', by omega, hstep.symm, hinv, hpre', hbox, hout, hu', hun, hlist, hnxL, hnl', hpd, h2, h3, h7, h8, h9, h34, h35, eqI (natI _)⟩
    · simp (disch := omega) only [h2, h3, h7, h8, h9, h34, h35, h36, ↓SXd, SXu, slBounds, ↓sop, ↓aop, ↓reduceIte, LV.cells, AOp.dst, LV.I, LV.B, LV.U, LV.S, LV.nil, Nat.reduceEqDiff, Nat.reduceAdd, Nat.reduceMul, Nat.reduceSub, Nat.reduceLeDiff, Nat.reduceBEq, Nat.reduceDiv, Nat.reduceMod, Int.reduceToNat, Int.reduceLT, Int.reduceLE, Int.reduceAdd, Int.reduceSub, Int.reduceMul, Int.reduceEq, Int.reduceNeg, reduceCtorEq, resV, resAll, ARes.ev, LV.flat, ite_true, ite_false, exists_eq_left', exists_eq_left, keyOf, implies_true, fillC, capOf]
      have : i = nx.length := by omega
      subst this
      rw [List.take_length] at hst'
      rw [← hst'] at hbfs'
      exact ⟨m - 1, by omega, n + 1, u', st', by omega, hpre', hbox, hout, hu', hlist, hinv, by omega, hbfs', h2, h3, h7, h8, eqI (natI _)⟩
  · simp (disch := omega) only [h2, h3, h7, h8, h9, ↓SXd, SXu, slBounds, ↓sop, ↓aop, ↓reduceIte, LV.cells, AOp.dst, LV.I, LV.B, LV.U, LV.S, LV.nil, Nat.reduceEqDiff, Nat.reduceAdd, Nat.reduceMul, Nat.reduceSub, Nat.reduceLeDiff, Nat.reduceBEq, Nat.reduceDiv, Nat.reduceMod, Int.reduceToNat, Int.reduceLT, Int.reduceLE, Int.reduceAdd, Int.reduceSub, Int.reduceMul, Int.reduceEq, Int.reduceNeg, reduceCtorEq, resV, resAll, ARes.ev, LV.flat, ite_true, ite_false, exists_eq_left', exists_eq_left, keyOf, implies_true, fillC, capOf]
    have e : farFrom (x * y).toNat (fun q => stepsOf x y ts q s) p = st.1 := by
      rw [← hbfs]
      cases m with
      | zero => rfl
      | succ m => simp only [bfs, if_neg (show ¬ n < st.2.length by omega)]
    rw [e]
    exact cmp_keepL hpre (by omega) hout (intL_lo _) (by simp [rn, rn0, rn1])
end Go.Ab

/- The abstract code of some functions (written by a program of mine from the translation, by way of prepF). -/
namespace Go.Ab.C
open Go.Ab
def spec_l10Region : AFn :=
  ⟨3, 31, [.tmp 6],
    .seq (.ops [(none, .box 3 (.t 0)),
       (none, .mv 6 (.c .nil))])
    (.seq (.ops [(none, .buildSl 10 0 1 [] []),
        (none, .loadN 11 4 (.t 3)),
        (none, .mv 12 (.t 1)),
        (none, .mv 13 (.t 2)),
        (none, .call (some 14) F.spec_l10Spread [(.t 11), (.t 12), (.t 13)]),
        (none, .mv 7 (.t 10)),
        (none, .mv 8 (.t 14))])
     (.seq (.seq (.ops [(none, .mv 9 (.c (.I 0)))])
       (.block 0 (.loop (.seq (.seq (.ops [(none, .mv 15 (.t 9)),
              (none, .mv 16 (.t 8)),
              (none, .len 17 (.t 16)),
              (none, .bin 18 .lss (.t 15) (.t 17))])
           (.cond (.t 18) (.skip)
            (.exit 0)))
          (.seq (.block 1 (.seq (.ops [(none, .mv 21 (.t 8)),
                (none, .mv 22 (.t 9)),
                (none, .idxS 23 1 (.t 21) (.t 22)),
                (none, .load1 24 (.t 23)),
                (none, .bin 25 .geq (.t 24) (.c (.I 0)))])
             (.cond (.t 25) (.ops [(none, .mv 26 (.t 7)),
                 (none, .mv 27 (.t 9)),
                 (none, .buildSl 28 1 1 [(.I 0)] [(0, 1, (.t 27))]),
                 (none, .append 29 1 8 (.t 26) (.t 28)),
                 (none, .mv 7 (.t 29))])
              (.skip))))
           (.ops [(none, .mv 19 (.t 9)),
              (none, .bin 20 .add (.t 19) (.c (.I 1))),
              (none, .mv 9 (.t 20))]))))))
      (.seq (.ops [(none, .mv 30 (.t 7)),
          (none, .mv 6 (.t 30))])
       (.ret))))⟩
def spec_TopRegion : AFn :=
  ⟨3, 21, [.tmp 6, .tmp 7],
    .seq (.ops [(none, .box 3 (.t 0)),
       (none, .mv 6 (.c .nil)),
       (none, .mv 7 (.c (.B false)))])
    (.seq (.seq (.ops [(none, .loadN 8 4 (.t 3)),
         (none, .mv 9 (.t 1)),
         (none, .call (some 10) F.spec_l10Column [(.t 8), (.t 9)]),
         (none, .un 11 .not (.t 10)),
         (none, .mv 12 (.t 11)),
         (some (12, false), .mv 13 (.t 2)),
         (some (12, false), .bin 14 .lss (.t 13) (.c (.I 0))),
         (none, .pick 15 (.t 12) (.c (.B true)) (.t 14))])
      (.cond (.t 15) (.seq (.ops [(none, .buildSl 16 0 1 [] []),
           (none, .mv 6 (.t 16)),
           (none, .mv 7 (.c (.B false)))])
        (.ret))
       (.skip)))
     (.seq (.ops [(none, .loadN 17 4 (.t 3)),
         (none, .mv 18 (.t 1)),
         (none, .mv 19 (.t 2)),
         (none, .call (some 20) F.spec_l10Region [(.t 17), (.t 18), (.t 19)]),
         (none, .mv 6 (.t 20)),
         (none, .mv 7 (.c (.B true)))])
      (.ret)))⟩
def spec_CountRegions : AFn :=
  ⟨2, 35, [.tmp 4, .tmp 5],
    .seq (.ops [(none, .box 2 (.t 0)),
       (none, .mv 4 (.c (.I 0))),
       (none, .mv 5 (.c (.B false)))])
    (.seq (.seq (.ops [(none, .loadN 8 4 (.t 2)),
         (none, .call (some 9) F.spec_l2Heap [(.t 8)]),
         (none, .un 10 .not (.t 9)),
         (none, .mv 11 (.t 10)),
         (some (11, false), .mv 12 (.t 1)),
         (some (11, false), .bin 13 .lss (.t 12) (.c (.I 0))),
         (none, .pick 14 (.t 11) (.c (.B true)) (.t 13))])
      (.cond (.t 14) (.seq (.ops [(none, .mv 4 (.c (.I 0))),
           (none, .mv 5 (.c (.B false)))])
        (.ret))
       (.skip)))
     (.seq (.ops [(none, .mv 6 (.c (.I 0)))])
      (.seq (.seq (.ops [(none, .mv 7 (.c (.I 0)))])
        (.block 0 (.loop (.seq (.seq (.ops [(none, .mv 15 (.t 7)),
               (none, .fieldAddr 16 (.t 2) 0),
               (none, .load1 17 (.t 16)),
               (none, .fieldAddr 18 (.t 2) 1),
               (none, .load1 19 (.t 18)),
               (none, .bin 20 .mul (.t 17) (.t 19)),
               (none, .bin 21 .lss (.t 15) (.t 20))])
            (.cond (.t 21) (.skip)
             (.exit 0)))
           (.seq (.block 1 (.seq (.ops [(none, .loadN 24 4 (.t 2)),
                 (none, .mv 25 (.t 7)),
                 (none, .mv 26 (.t 1)),
                 (none, .call (some 27) F.spec_l10Region [(.t 24), (.t 25), (.t 26)]),
                 (none, .idxS 28 1 (.t 27) (.c (.I 0))),
                 (none, .load1 29 (.t 28)),
                 (none, .mv 30 (.t 7)),
                 (none, .bin 31 .eql (.t 29) (.t 30))])
              (.cond (.t 31) (.ops [(none, .mv 32 (.t 6)),
                  (none, .bin 33 .add (.t 32) (.c (.I 1))),
                  (none, .mv 6 (.t 33))])
               (.skip))))
            (.ops [(none, .mv 22 (.t 7)),
               (none, .bin 23 .add (.t 22) (.c (.I 1))),
               (none, .mv 7 (.t 23))]))))))
       (.seq (.ops [(none, .mv 34 (.t 6)),
           (none, .mv 4 (.t 34)),
           (none, .mv 5 (.c (.B true)))])
        (.ret)))))⟩
end Go.Ab.C

/- That the program has this code. -/
namespace Go.Ab.K
open Go Go.Ab
theorem spec_l10Region : prepF Go.Proofs.Try.prog F.spec_l10Region = some C.spec_l10Region := by kernel_rfl
theorem spec_TopRegion : prepF Go.Proofs.Try.prog F.spec_TopRegion = some C.spec_TopRegion := by kernel_rfl
theorem spec_CountRegions : prepF Go.Proofs.Try.prog F.spec_CountRegions = some C.spec_CountRegions := by kernel_rfl
end Go.Ab.K

/- The abstract code of some functions (written by a program of mine from the translation, by way of prepF). -/
namespace Go.Ab.C
open Go.Ab
def spec_l10Spread : AFn :=
  ⟨3, 86, [.tmp 6],
    .seq (.ops [(none, .box 3 (.t 0)),
       (none, .mv 6 (.c .nil))])
    (.seq (.draw [⟨(none, .fieldAddr 14 (.t 3) 0), [], []⟩,
        ⟨(none, .load1 15 (.t 14)), [], []⟩,
        ⟨(none, .fieldAddr 16 (.t 3) 1), [], []⟩,
        ⟨(none, .load1 17 (.t 16)), [], []⟩,
        ⟨(none, .bin 18 .mul (.t 15) (.t 17)), [], []⟩,
        ⟨(none, .loadN 20 4 (.t 3)), [], []⟩,
        ⟨(none, .mksl 19 1 8 [(.I 0)] (.t 18) (.t 18)), [], []⟩,
        ⟨(none, .call (some 21) F.spec_l2Tops [(.t 20)]), [6], [0, 1, 2, 3, 4]⟩,
        ⟨(none, .mv 7 (.t 19)), [], []⟩,
        ⟨(none, .mv 8 (.t 21)), [], []⟩])
     (.seq (.seq (.ops [(none, .mv 9 (.c (.I 0)))])
       (.block 0 (.loop (.seq (.seq (.ops [(none, .mv 22 (.t 9)),
              (none, .mv 23 (.t 7)),
              (none, .len 24 (.t 23)),
              (none, .bin 25 .lss (.t 22) (.t 24))])
           (.cond (.t 25) (.skip)
            (.exit 0)))
          (.seq (.block 1 (.ops [(none, .mv 28 (.t 7)),
               (none, .mv 29 (.t 9)),
               (none, .idxS 30 1 (.t 28) (.t 29)),
               (none, .store 1 (.t 30) (.c (.I (-1))))]))
           (.ops [(none, .mv 26 (.t 9)),
              (none, .bin 27 .add (.t 26) (.c (.I 1))),
              (none, .mv 9 (.t 27))]))))))
      (.seq (.ops [(none, .mv 31 (.t 7)),
          (none, .mv 32 (.t 1)),
          (none, .idxS 33 1 (.t 31) (.t 32)),
          (none, .store 1 (.t 33) (.c (.I 0)))])
       (.seq (.ops [(none, .mv 34 (.t 1)),
           (none, .buildSl 35 1 1 [(.I 0)] [(0, 1, (.t 34))]),
           (none, .mv 10 (.t 35))])
        (.seq (.seq (.ops [(none, .mv 11 (.c (.I 0)))])
          (.block 2 (.loop (.seq (.seq (.ops [(none, .mv 36 (.t 11)),
                 (none, .mv 37 (.t 10)),
                 (none, .len 38 (.t 37)),
                 (none, .bin 39 .lss (.t 36) (.t 38))])
              (.cond (.t 39) (.skip)
               (.exit 2)))
             (.seq (.block 3 (.seq (.draw [⟨(none, .loadN 42 4 (.t 3)), [], []⟩,
                   ⟨(none, .mv 43 (.t 8)), [], []⟩,
                   ⟨(none, .mv 44 (.t 10)), [], []⟩,
                   ⟨(none, .mv 45 (.t 11)), [], []⟩,
                   ⟨(none, .idxS 46 1 (.t 44) (.t 45)), [], []⟩,
                   ⟨(none, .load1 47 (.t 46)), [], []⟩,
                   ⟨(none, .mv 48 (.t 2)), [], []⟩,
                   ⟨(none, .call (some 49) F.spec_l10Steps [(.t 42), (.t 43), (.t 47), (.t 48)]), [], []⟩,
                   ⟨(none, .mv 12 (.t 49)), [], []⟩])
                (.seq (.ops [(none, .mv 13 (.c (.I 0)))])
                 (.block 4 (.loop (.seq (.seq (.ops [(none, .mv 50 (.t 13)),
                        (none, .mv 51 (.t 12)),
                        (none, .len 52 (.t 51)),
                        (none, .bin 53 .lss (.t 50) (.t 52))])
                     (.cond (.t 53) (.skip)
                      (.exit 4)))
                    (.seq (.block 5 (.seq (.ops [(none, .mv 56 (.t 7)),
                          (none, .mv 57 (.t 12)),
                          (none, .mv 58 (.t 13)),
                          (none, .idxS 59 1 (.t 57) (.t 58)),
                          (none, .load1 60 (.t 59)),
                          (none, .idxS 61 1 (.t 56) (.t 60)),
                          (none, .load1 62 (.t 61)),
                          (none, .bin 63 .lss (.t 62) (.c (.I 0)))])
                       (.cond (.t 63) (.seq (.draw [⟨(none, .mv 64 (.t 7)), [], []⟩,
                            ⟨(none, .mv 65 (.t 12)), [], []⟩,
                            ⟨(none, .mv 66 (.t 13)), [], []⟩,
                            ⟨(none, .idxS 67 1 (.t 65) (.t 66)), [], []⟩,
                            ⟨(none, .load1 68 (.t 67)), [], []⟩,
                            ⟨(none, .mv 69 (.t 7)), [], []⟩,
                            ⟨(none, .mv 70 (.t 10)), [], []⟩,
                            ⟨(none, .mv 71 (.t 11)), [], []⟩,
                            ⟨(none, .idxS 72 1 (.t 70) (.t 71)), [], []⟩,
                            ⟨(none, .load1 73 (.t 72)), [], []⟩,
                            ⟨(none, .idxS 74 1 (.t 69) (.t 73)), [], []⟩,
                            ⟨(none, .load1 75 (.t 74)), [], []⟩,
                            ⟨(none, .bin 76 .add (.t 75) (.c (.I 1))), [], []⟩,
                            ⟨(none, .idxS 77 1 (.t 64) (.t 68)), [], []⟩,
                            ⟨(none, .store 1 (.t 77) (.t 76)), [], []⟩])
                         (.ops [(none, .mv 78 (.t 10)),
                            (none, .mv 79 (.t 12)),
                            (none, .mv 80 (.t 13)),
                            (none, .idxS 81 1 (.t 79) (.t 80)),
                            (none, .load1 82 (.t 81)),
                            (none, .buildSl 83 1 1 [(.I 0)] [(0, 1, (.t 82))]),
                            (none, .append 84 1 8 (.t 78) (.t 83)),
                            (none, .mv 10 (.t 84))]))
                        (.skip))))
                     (.ops [(none, .mv 54 (.t 13)),
                        (none, .bin 55 .add (.t 54) (.c (.I 1))),
                        (none, .mv 13 (.t 55))]))))))))
              (.ops [(none, .mv 40 (.t 11)),
                 (none, .bin 41 .add (.t 40) (.c (.I 1))),
                 (none, .mv 11 (.t 41))]))))))
         (.seq (.ops [(none, .mv 85 (.t 7)),
             (none, .mv 6 (.t 85))])
          (.ret)))))))⟩
end Go.Ab.C

/- That the program has this code. -/
namespace Go.Ab.K
open Go Go.Ab
theorem spec_l10Spread : prepF Go.Proofs.Try.prog F.spec_l10Spread = some C.spec_l10Spread := by kernel_rfl
end Go.Ab.K

/- The abstract code of some functions (written by a program of mine from the translation, by way of prepF). -/
namespace Go.Ab.C
open Go.Ab
def spec_l10Steps : AFn :=
  ⟨4, 44, [.tmp 8],
    .seq (.ops [(none, .box 4 (.t 0)),
       (none, .mv 8 (.c .nil))])
    (.seq (.ops [(none, .buildSl 12 0 1 [] []),
        (none, .loadN 13 4 (.t 4)),
        (none, .mv 14 (.t 2)),
        (none, .call (some 15) F.spec_l10Next [(.t 13), (.t 14)]),
        (none, .mv 9 (.t 12)),
        (none, .mv 10 (.t 15))])
     (.seq (.seq (.ops [(none, .mv 11 (.c (.I 0)))])
       (.block 0 (.loop (.seq (.seq (.ops [(none, .mv 16 (.t 11)),
              (none, .mv 17 (.t 10)),
              (none, .len 18 (.t 17)),
              (none, .bin 19 .lss (.t 16) (.t 18))])
           (.cond (.t 19) (.skip)
            (.exit 0)))
          (.seq (.block 1 (.seq (.draw [⟨(none, .mv 22 (.t 1)), [], []⟩,
                ⟨(none, .mv 23 (.t 10)), [], []⟩,
                ⟨(none, .mv 24 (.t 11)), [], []⟩,
                ⟨(none, .idxS 25 1 (.t 23) (.t 24)), [], []⟩,
                ⟨(none, .load1 26 (.t 25)), [], []⟩,
                ⟨(none, .idxS 27 1 (.t 22) (.t 26)), [], []⟩,
                ⟨(none, .load1 28 (.t 27)), [], []⟩,
                ⟨(none, .mv 29 (.t 1)), [], []⟩,
                ⟨(none, .mv 30 (.t 2)), [], []⟩,
                ⟨(none, .idxS 31 1 (.t 29) (.t 30)), [], []⟩,
                ⟨(none, .load1 32 (.t 31)), [], []⟩,
                ⟨(none, .mv 34 (.t 3)), [], []⟩,
                ⟨(none, .call (some 33) F.spec_l10Up [(.t 28), (.t 32)]), [], [11]⟩,
                ⟨(none, .bin 35 .leq (.t 33) (.t 34)), [], []⟩])
             (.cond (.t 35) (.ops [(none, .mv 36 (.t 9)),
                 (none, .mv 37 (.t 10)),
                 (none, .mv 38 (.t 11)),
                 (none, .idxS 39 1 (.t 37) (.t 38)),
                 (none, .load1 40 (.t 39)),
                 (none, .buildSl 41 1 1 [(.I 0)] [(0, 1, (.t 40))]),
                 (none, .append 42 1 8 (.t 36) (.t 41)),
                 (none, .mv 9 (.t 42))])
              (.skip))))
           (.ops [(none, .mv 20 (.t 11)),
              (none, .bin 21 .add (.t 20) (.c (.I 1))),
              (none, .mv 11 (.t 21))]))))))
      (.seq (.ops [(none, .mv 43 (.t 9)),
          (none, .mv 8 (.t 43))])
       (.ret))))⟩
end Go.Ab.C

/- That the program has this code. -/
namespace Go.Ab.K
open Go Go.Ab
theorem spec_l10Steps : prepF Go.Proofs.Try.prog F.spec_l10Steps = some C.spec_l10Steps := by kernel_rfl
end Go.Ab.K

/- The abstract code of some functions (written by a program of mine from the translation, by way of prepF). -/
namespace Go.Ab.C
open Go.Ab
def spec_l10Next : AFn :=
  ⟨2, 42, [.tmp 4],
    .seq (.ops [(none, .box 2 (.t 0)),
       (none, .mv 4 (.c .nil))])
    (.seq (.ops [(none, .buildSl 7 0 1 [] []),
        (none, .mv 5 (.t 7))])
     (.seq (.seq (.ops [(none, .mv 6 (.c (.I 0)))])
       (.block 0 (.loop (.seq (.seq (.ops [(none, .mv 8 (.t 6)),
              (none, .fieldAddr 9 (.t 2) 0),
              (none, .load1 10 (.t 9)),
              (none, .fieldAddr 11 (.t 2) 1),
              (none, .load1 12 (.t 11)),
              (none, .bin 13 .mul (.t 10) (.t 12)),
              (none, .bin 14 .lss (.t 8) (.t 13))])
           (.cond (.t 14) (.skip)
            (.exit 0)))
          (.seq (.block 1 (.seq (.draw [⟨(none, .mv 17 (.t 1)), [], []⟩,
                ⟨(none, .fieldAddr 18 (.t 2) 1), [], []⟩,
                ⟨(none, .load1 19 (.t 18)), [], []⟩,
                ⟨(none, .bin 20 .quo (.t 17) (.t 19)), [], []⟩,
                ⟨(none, .mv 21 (.t 1)), [], []⟩,
                ⟨(none, .fieldAddr 22 (.t 2) 1), [], []⟩,
                ⟨(none, .load1 23 (.t 22)), [], []⟩,
                ⟨(none, .bin 24 .rem (.t 21) (.t 23)), [], []⟩,
                ⟨(none, .build 25 [(.I 0), (.I 0), (.I 0)] [(0, 1, (.t 20)), (1, 1, (.t 24)), (2, 1, (.c (.I 0)))]), [], []⟩,
                ⟨(none, .mv 26 (.t 6)), [], []⟩,
                ⟨(none, .fieldAddr 27 (.t 2) 1), [], []⟩,
                ⟨(none, .load1 28 (.t 27)), [], []⟩,
                ⟨(none, .bin 29 .quo (.t 26) (.t 28)), [], []⟩,
                ⟨(none, .mv 30 (.t 6)), [], []⟩,
                ⟨(none, .fieldAddr 31 (.t 2) 1), [], []⟩,
                ⟨(none, .load1 32 (.t 31)), [], []⟩,
                ⟨(none, .bin 33 .rem (.t 30) (.t 32)), [], []⟩,
                ⟨(none, .build 34 [(.I 0), (.I 0), (.I 0)] [(0, 1, (.t 29)), (1, 1, (.t 33)), (2, 1, (.c (.I 0)))]), [], []⟩,
                ⟨(none, .call (some 35) F.spec_l2Apart [(.t 25), (.t 34)]), [], []⟩,
                ⟨(none, .bin 36 .eql (.t 35) (.c (.I 1))), [], []⟩])
             (.cond (.t 36) (.ops [(none, .mv 37 (.t 5)),
                 (none, .mv 38 (.t 6)),
                 (none, .buildSl 39 1 1 [(.I 0)] [(0, 1, (.t 38))]),
                 (none, .append 40 1 8 (.t 37) (.t 39)),
                 (none, .mv 5 (.t 40))])
              (.skip))))
           (.ops [(none, .mv 15 (.t 6)),
              (none, .bin 16 .add (.t 15) (.c (.I 1))),
              (none, .mv 6 (.t 16))]))))))
      (.seq (.ops [(none, .mv 41 (.t 5)),
          (none, .mv 4 (.t 41))])
       (.ret))))⟩
end Go.Ab.C

/- That the program has this code. -/
namespace Go.Ab.K
open Go Go.Ab
theorem spec_l10Next : prepF Go.Proofs.Try.prog F.spec_l10Next = some C.spec_l10Next := by kernel_rfl
end Go.Ab.K

/- The abstract code of some functions (written by a program of mine from the translation, by way of prepF). -/
namespace Go.Ab.C
open Go.Ab
def spec_l2Tops : AFn :=
  ⟨1, 51, [.tmp 2],
    .seq (.ops [(none, .box 1 (.t 0)),
       (none, .mv 2 (.c .nil))])
    (.seq (.ops [(none, .fieldAddr 6 (.t 1) 0),
        (none, .load1 7 (.t 6)),
        (none, .fieldAddr 8 (.t 1) 1),
        (none, .load1 9 (.t 8)),
        (none, .bin 10 .mul (.t 7) (.t 9)),
        (none, .mksl 11 1 8 [(.I 0)] (.t 10) (.t 10)),
        (none, .mv 3 (.t 11))])
     (.seq (.seq (.ops [(none, .mv 4 (.c (.I 0)))])
       (.block 0 (.loop (.seq (.seq (.ops [(none, .mv 12 (.t 4)),
              (none, .fieldAddr 13 (.t 1) 3),
              (none, .load1 14 (.t 13)),
              (none, .len 15 (.t 14)),
              (none, .bin 16 .lss (.t 12) (.t 15))])
           (.cond (.t 16) (.skip)
            (.exit 0)))
          (.seq (.block 1 (.seq (.draw [⟨(none, .fieldAddr 19 (.t 1) 3), [], []⟩,
                ⟨(none, .load1 20 (.t 19)), [], []⟩,
                ⟨(none, .mv 21 (.t 4)), [], []⟩,
                ⟨(none, .idxS 22 3 (.t 20) (.t 21)), [], []⟩,
                ⟨(none, .idxA 23 3 1 (.t 22) (.c (.I 0))), [], []⟩,
                ⟨(none, .load1 24 (.t 23)), [], []⟩,
                ⟨(none, .fieldAddr 25 (.t 1) 1), [], []⟩,
                ⟨(none, .load1 26 (.t 25)), [], []⟩,
                ⟨(none, .bin 27 .mul (.t 24) (.t 26)), [], []⟩,
                ⟨(none, .fieldAddr 28 (.t 1) 3), [], []⟩,
                ⟨(none, .load1 29 (.t 28)), [], []⟩,
                ⟨(none, .mv 30 (.t 4)), [], []⟩,
                ⟨(none, .idxS 31 3 (.t 29) (.t 30)), [], []⟩,
                ⟨(none, .idxA 32 3 1 (.t 31) (.c (.I 1))), [], []⟩,
                ⟨(none, .load1 33 (.t 32)), [], []⟩,
                ⟨(none, .bin 34 .add (.t 27) (.t 33)), [], []⟩,
                ⟨(none, .mv 5 (.t 34)), [], []⟩])
             (.draw [⟨(none, .mv 35 (.t 3)), [], []⟩,
                ⟨(none, .mv 36 (.t 5)), [], []⟩,
                ⟨(none, .mv 37 (.t 3)), [], []⟩,
                ⟨(none, .mv 38 (.t 5)), [], []⟩,
                ⟨(none, .idxS 39 1 (.t 37) (.t 38)), [], []⟩,
                ⟨(none, .load1 40 (.t 39)), [], []⟩,
                ⟨(none, .fieldAddr 41 (.t 1) 3), [], []⟩,
                ⟨(none, .load1 42 (.t 41)), [], []⟩,
                ⟨(none, .mv 43 (.t 4)), [], []⟩,
                ⟨(none, .idxS 44 3 (.t 42) (.t 43)), [], []⟩,
                ⟨(none, .idxA 45 3 1 (.t 44) (.c (.I 2))), [], []⟩,
                ⟨(none, .load1 46 (.t 45)), [], []⟩,
                ⟨(none, .bin 47 .add (.t 46) (.c (.I 1))), [], []⟩,
                ⟨(none, .call (some 48) F.spec_l1Most [(.t 40), (.t 47)]), [], [0, 1]⟩,
                ⟨(none, .idxS 49 1 (.t 35) (.t 36)), [], []⟩,
                ⟨(none, .store 1 (.t 49) (.t 48)), [], []⟩])))
           (.ops [(none, .mv 17 (.t 4)),
              (none, .bin 18 .add (.t 17) (.c (.I 1))),
              (none, .mv 4 (.t 18))]))))))
      (.seq (.ops [(none, .mv 50 (.t 3)),
          (none, .mv 2 (.t 50))])
       (.ret))))⟩
end Go.Ab.C

/- That the program has this code. -/
namespace Go.Ab.K
open Go Go.Ab
theorem spec_l2Tops : prepF Go.Proofs.Try.prog F.spec_l2Tops = some C.spec_l2Tops := by kernel_rfl
end Go.Ab.K

/- The abstract code of some functions (written by a program of mine from the translation, by way of prepF). -/
namespace Go.Ab.C
open Go.Ab
def spec_l2Apart : AFn :=
  ⟨2, 29, [.tmp 4],
    .seq (.ops [(none, .box 2 (.t 0)),
       (none, .box 3 (.t 1)),
       (none, .mv 4 (.c (.I 0)))])
    (.seq (.ops [(none, .mv 5 (.c (.I 0)))])
     (.seq (.seq (.ops [(none, .mv 6 (.c (.I 0)))])
       (.block 0 (.loop (.seq (.seq (.ops [(none, .mv 7 (.t 6)),
              (none, .bin 8 .lss (.t 7) (.c (.I 3)))])
           (.cond (.t 8) (.skip)
            (.exit 0)))
          (.seq (.block 1 (.draw [⟨(none, .mv 11 (.t 5)), [], []⟩,
               ⟨(none, .mv 12 (.t 6)), [], []⟩,
               ⟨(none, .idxA 13 3 1 (.t 2) (.t 12)), [], []⟩,
               ⟨(none, .load1 14 (.t 13)), [], []⟩,
               ⟨(none, .mv 15 (.t 6)), [], []⟩,
               ⟨(none, .idxA 16 3 1 (.t 3) (.t 15)), [], []⟩,
               ⟨(none, .load1 17 (.t 16)), [], []⟩,
               ⟨(none, .bin 18 .sub (.t 14) (.t 17)), [], []⟩,
               ⟨(none, .mv 19 (.t 6)), [], []⟩,
               ⟨(none, .idxA 20 3 1 (.t 3) (.t 19)), [], []⟩,
               ⟨(none, .load1 21 (.t 20)), [], []⟩,
               ⟨(none, .mv 22 (.t 6)), [], []⟩,
               ⟨(none, .idxA 23 3 1 (.t 2) (.t 22)), [], []⟩,
               ⟨(none, .load1 24 (.t 23)), [], []⟩,
               ⟨(none, .bin 25 .sub (.t 21) (.t 24)), [], []⟩,
               ⟨(none, .call (some 26) F.spec_l1Most [(.t 18), (.t 25)]), [], [0]⟩,
               ⟨(none, .bin 27 .add (.t 11) (.t 26)), [], []⟩,
               ⟨(none, .mv 5 (.t 27)), [], []⟩]))
           (.ops [(none, .mv 9 (.t 6)),
              (none, .bin 10 .add (.t 9) (.c (.I 1))),
              (none, .mv 6 (.t 10))]))))))
      (.seq (.ops [(none, .mv 28 (.t 5)),
          (none, .mv 4 (.t 28))])
       (.ret))))⟩
end Go.Ab.C

/- That the program has this code. -/
namespace Go.Ab.K
open Go Go.Ab
theorem spec_l2Apart : prepF Go.Proofs.Try.prog F.spec_l2Apart = some C.spec_l2Apart := by kernel_rfl
end Go.Ab.K

/- The abstract code of some functions (written by a program of mine from the translation, by way of prepF). -/
namespace Go.Ab.C
open Go.Ab
def spec_l2Heap : AFn :=
  ⟨1, 46, [.tmp 2],
    .seq (.ops [(none, .box 1 (.t 0)),
       (none, .mv 2 (.c (.B false)))])
    (.seq (.seq (.ops [(none, .fieldAddr 4 (.t 1) 0),
         (none, .load1 5 (.t 4)),
         (none, .fieldAddr 6 (.t 1) 1),
         (none, .load1 7 (.t 6)),
         (none, .fieldAddr 8 (.t 1) 2),
         (none, .load1 9 (.t 8)),
         (none, .call (some 10) F.spec_l2Sides [(.t 5), (.t 7), (.t 9)]),
         (none, .un 11 .not (.t 10))])
      (.cond (.t 11) (.seq (.ops [(none, .mv 2 (.c (.B false)))])
        (.ret))
       (.skip)))
     (.seq (.seq (.ops [(none, .mv 3 (.c (.I 0)))])
       (.block 0 (.loop (.seq (.seq (.ops [(none, .mv 12 (.t 3)),
              (none, .fieldAddr 13 (.t 1) 3),
              (none, .load1 14 (.t 13)),
              (none, .len 15 (.t 14)),
              (none, .bin 16 .lss (.t 12) (.t 15))])
           (.cond (.t 16) (.skip)
            (.exit 0)))
          (.seq (.block 1 (.seq (.draw [⟨(none, .loadN 19 4 (.t 1)), [], []⟩,
                ⟨(none, .fieldAddr 20 (.t 1) 3), [], []⟩,
                ⟨(none, .load1 21 (.t 20)), [], []⟩,
                ⟨(none, .mv 22 (.t 3)), [], []⟩,
                ⟨(none, .idxS 23 3 (.t 21) (.t 22)), [], []⟩,
                ⟨(none, .loadN 24 3 (.t 23)), [], []⟩,
                ⟨(none, .call (some 25) F.spec_l2In [(.t 19), (.t 24)]), [], []⟩,
                ⟨(none, .un 26 .not (.t 25)), [], []⟩,
                ⟨(none, .mv 27 (.t 26)), [], []⟩,
                ⟨(some (27, false), .mv 28 (.t 3)), [], []⟩,
                ⟨(some (27, false), .bin 29 .gtr (.t 28) (.c (.I 0))), [], []⟩,
                ⟨(some (27, false), .mv 30 (.t 29)), [], []⟩,
                ⟨(some (30, true), .fieldAddr 31 (.t 1) 3), [], []⟩,
                ⟨(some (30, true), .load1 32 (.t 31)), [], []⟩,
                ⟨(some (30, true), .mv 33 (.t 3)), [], []⟩,
                ⟨(some (30, true), .bin 34 .sub (.t 33) (.c (.I 1))), [], []⟩,
                ⟨(some (30, true), .idxS 35 3 (.t 32) (.t 34)), [], []⟩,
                ⟨(some (30, true), .loadN 36 3 (.t 35)), [], []⟩,
                ⟨(some (30, true), .fieldAddr 37 (.t 1) 3), [], []⟩,
                ⟨(some (30, true), .load1 38 (.t 37)), [], []⟩,
                ⟨(some (30, true), .mv 39 (.t 3)), [], []⟩,
                ⟨(some (30, true), .idxS 40 3 (.t 38) (.t 39)), [], []⟩,
                ⟨(some (30, true), .loadN 41 3 (.t 40)), [], []⟩,
                ⟨(some (30, true), .call (some 42) F.spec_l2Before [(.t 36), (.t 41)]), [], []⟩,
                ⟨(some (30, true), .un 43 .not (.t 42)), [], []⟩,
                ⟨(some (27, false), .pick 44 (.t 30) (.t 43) (.c (.B false))), [], []⟩,
                ⟨(none, .pick 45 (.t 27) (.c (.B true)) (.t 44)), [], []⟩])
             (.cond (.t 45) (.seq (.ops [(none, .mv 2 (.c (.B false)))])
               (.ret))
              (.skip))))
           (.ops [(none, .mv 17 (.t 3)),
              (none, .bin 18 .add (.t 17) (.c (.I 1))),
              (none, .mv 3 (.t 18))]))))))
      (.seq (.ops [(none, .mv 2 (.c (.B true)))])
       (.ret))))⟩
end Go.Ab.C

/- That the program has this code. -/
namespace Go.Ab.K
open Go Go.Ab
theorem spec_l2Heap : prepF Go.Proofs.Try.prog F.spec_l2Heap = some C.spec_l2Heap := by kernel_rfl
end Go.Ab.K

/- The abstract code of some functions (written by a program of mine from the translation, by way of prepF). -/
namespace Go.Ab.C
open Go.Ab
def spec_l1In : AFn :=
  ⟨3, 15, [.tmp 6],
    .seq (.ops [(none, .mv 6 (.c (.B false)))])
    (.seq (.ops [(none, .mv 7 (.t 0)),
        (none, .mv 8 (.t 1)),
        (none, .bin 9 .geq (.t 7) (.t 8)),
        (none, .mv 10 (.t 9)),
        (some (10, true), .mv 11 (.t 0)),
        (some (10, true), .mv 12 (.t 2)),
        (some (10, true), .bin 13 .leq (.t 11) (.t 12)),
        (none, .pick 14 (.t 10) (.t 13) (.c (.B false))),
        (none, .mv 6 (.t 14))])
     (.ret))⟩
def spec_l1Most : AFn :=
  ⟨2, 10, [.tmp 4],
    .seq (.ops [(none, .mv 4 (.c (.I 0)))])
    (.seq (.seq (.ops [(none, .mv 5 (.t 0)),
         (none, .mv 6 (.t 1)),
         (none, .bin 7 .gtr (.t 5) (.t 6))])
      (.cond (.t 7) (.seq (.ops [(none, .mv 8 (.t 0)),
           (none, .mv 4 (.t 8))])
        (.ret))
       (.skip)))
     (.seq (.ops [(none, .mv 9 (.t 1)),
         (none, .mv 4 (.t 9))])
      (.ret)))⟩
def spec_l2Sides : AFn :=
  ⟨3, 17, [.tmp 6],
    .seq (.ops [(none, .mv 6 (.c (.B false)))])
    (.seq (.ops [(none, .mv 7 (.t 0)),
        (none, .call (some 8) F.spec_l1In [(.t 7), (.c (.I 1)), (.c (.I 4))]),
        (none, .mv 9 (.t 8)),
        (some (9, true), .mv 10 (.t 1)),
        (some (9, true), .call (some 11) F.spec_l1In [(.t 10), (.c (.I 1)), (.c (.I 4))]),
        (none, .pick 12 (.t 9) (.t 11) (.c (.B false))),
        (none, .mv 13 (.t 12)),
        (some (13, true), .mv 14 (.t 2)),
        (some (13, true), .call (some 15) F.spec_l1In [(.t 14), (.c (.I 1)), (.c (.I 4))]),
        (none, .pick 16 (.t 13) (.t 15) (.c (.B false))),
        (none, .mv 6 (.t 16))])
     (.ret))⟩
def spec_l2Before : AFn :=
  ⟨2, 24, [.tmp 4],
    .seq (.ops [(none, .box 2 (.t 0)),
       (none, .box 3 (.t 1)),
       (none, .mv 4 (.c (.B false)))])
    (.seq (.seq (.ops [(none, .mv 5 (.c (.I 0)))])
      (.block 0 (.loop (.seq (.seq (.ops [(none, .mv 6 (.t 5)),
             (none, .bin 7 .lss (.t 6) (.c (.I 3)))])
          (.cond (.t 7) (.skip)
           (.exit 0)))
         (.seq (.block 1 (.seq (.draw [⟨(none, .mv 10 (.t 5)), [], []⟩,
               ⟨(none, .idxA 11 3 1 (.t 2) (.t 10)), [], []⟩,
               ⟨(none, .load1 12 (.t 11)), [], []⟩,
               ⟨(none, .mv 13 (.t 5)), [], []⟩,
               ⟨(none, .idxA 14 3 1 (.t 3) (.t 13)), [], []⟩,
               ⟨(none, .load1 15 (.t 14)), [], []⟩,
               ⟨(none, .bin 16 .neq (.t 12) (.t 15)), [], []⟩])
            (.cond (.t 16) (.seq (.draw [⟨(none, .mv 17 (.t 5)), [], []⟩,
                 ⟨(none, .idxA 18 3 1 (.t 2) (.t 17)), [], []⟩,
                 ⟨(none, .load1 19 (.t 18)), [], []⟩,
                 ⟨(none, .mv 20 (.t 5)), [], []⟩,
                 ⟨(none, .idxA 21 3 1 (.t 3) (.t 20)), [], []⟩,
                 ⟨(none, .load1 22 (.t 21)), [], []⟩,
                 ⟨(none, .bin 23 .lss (.t 19) (.t 22)), [], []⟩,
                 ⟨(none, .mv 4 (.t 23)), [], []⟩])
              (.ret))
             (.skip))))
          (.ops [(none, .mv 8 (.t 5)),
             (none, .bin 9 .add (.t 8) (.c (.I 1))),
             (none, .mv 5 (.t 9))]))))))
     (.seq (.ops [(none, .mv 4 (.c (.B false)))])
      (.ret)))⟩
def spec_l2In : AFn :=
  ⟨2, 27, [.tmp 4],
    .seq (.ops [(none, .box 2 (.t 0)),
       (none, .box 3 (.t 1)),
       (none, .mv 4 (.c (.B false)))])
    (.seq (.ops [(none, .idxA 5 3 1 (.t 3) (.c (.I 0))),
        (none, .load1 6 (.t 5)),
        (none, .fieldAddr 7 (.t 2) 0),
        (none, .load1 8 (.t 7)),
        (none, .bin 9 .sub (.t 8) (.c (.I 1))),
        (none, .call (some 10) F.spec_l1In [(.t 6), (.c (.I 0)), (.t 9)]),
        (none, .mv 11 (.t 10)),
        (some (11, true), .idxA 12 3 1 (.t 3) (.c (.I 1))),
        (some (11, true), .load1 13 (.t 12)),
        (some (11, true), .fieldAddr 14 (.t 2) 1),
        (some (11, true), .load1 15 (.t 14)),
        (some (11, true), .bin 16 .sub (.t 15) (.c (.I 1))),
        (some (11, true), .call (some 17) F.spec_l1In [(.t 13), (.c (.I 0)), (.t 16)]),
        (none, .pick 18 (.t 11) (.t 17) (.c (.B false))),
        (none, .mv 19 (.t 18)),
        (some (19, true), .idxA 20 3 1 (.t 3) (.c (.I 2))),
        (some (19, true), .load1 21 (.t 20)),
        (some (19, true), .fieldAddr 22 (.t 2) 2),
        (some (19, true), .load1 23 (.t 22)),
        (some (19, true), .bin 24 .sub (.t 23) (.c (.I 1))),
        (some (19, true), .call (some 25) F.spec_l1In [(.t 21), (.c (.I 0)), (.t 24)]),
        (none, .pick 26 (.t 19) (.t 25) (.c (.B false))),
        (none, .mv 4 (.t 26))])
     (.ret))⟩
end Go.Ab.C

/- That the program has this code. -/
namespace Go.Ab.K
open Go Go.Ab
theorem spec_l1In : prepF Go.Proofs.Try.prog F.spec_l1In = some C.spec_l1In := by kernel_rfl
theorem spec_l1Most : prepF Go.Proofs.Try.prog F.spec_l1Most = some C.spec_l1Most := by kernel_rfl
theorem spec_l2Sides : prepF Go.Proofs.Try.prog F.spec_l2Sides = some C.spec_l2Sides := by kernel_rfl
theorem spec_l2Before : prepF Go.Proofs.Try.prog F.spec_l2Before = some C.spec_l2Before := by kernel_rfl
theorem spec_l2In : prepF Go.Proofs.Try.prog F.spec_l2In = some C.spec_l2In := by kernel_rfl
end Go.Ab.K

/- Contracts: the reference's heaps and columns. -/
namespace Go.Ab
open Go
set_option linter.unusedSimpArgs false
set_option linter.unusedVariables false

theorem h_l1In {n lo hi : Int} {M : Mem} : CallsTo PG F.spec_l1In [.I n, .I lo, .I hi] M (.B (decide (lo ≤ n ∧ n ≤ hi))) M := by
  refine calls_run K.spec_l1In rfl ?_
  simp (disch := omega) only [C.spec_l1In, ↓SXd, SXu, slBounds, ↓sop, ↓aop, ↓reduceIte, LV.cells, AOp.dst, LV.I, LV.B, LV.U, LV.S, LV.nil, Nat.reduceEqDiff, Nat.reduceAdd, Nat.reduceMul, Nat.reduceSub, Nat.reduceLeDiff, Nat.reduceBEq, Nat.reduceDiv, Nat.reduceMod, Int.reduceToNat, Int.reduceLT, Int.reduceLE, Int.reduceAdd, Int.reduceSub, Int.reduceMul, Int.reduceEq, Int.reduceNeg, reduceCtorEq, resV, resAll, ARes.ev, LV.flat, ite_true, ite_false, exists_eq_left', exists_eq_left, keyOf, implies_true, fillC, capOf]
  by_cases h1 : lo ≤ n
  · simp (disch := omega) only [h1, ↓SXd, SXu, slBounds, ↓sop, ↓aop, ↓reduceIte, LV.cells, AOp.dst, LV.I, LV.B, LV.U, LV.S, LV.nil, Nat.reduceEqDiff, Nat.reduceAdd, Nat.reduceMul, Nat.reduceSub, Nat.reduceLeDiff, Nat.reduceBEq, Nat.reduceDiv, Nat.reduceMod, Int.reduceToNat, Int.reduceLT, Int.reduceLE, Int.reduceAdd, Int.reduceSub, Int.reduceMul, Int.reduceEq, Int.reduceNeg, reduceCtorEq, resV, resAll, ARes.ev, LV.flat, ite_true, ite_false, exists_eq_left', exists_eq_left, keyOf, implies_true, fillC, capOf]
    exact cmp_drop0 rfl
  · simp (disch := omega) only [h1, ↓SXd, SXu, slBounds, ↓sop, ↓aop, ↓reduceIte, LV.cells, AOp.dst, LV.I, LV.B, LV.U, LV.S, LV.nil, Nat.reduceEqDiff, Nat.reduceAdd, Nat.reduceMul, Nat.reduceSub, Nat.reduceLeDiff, Nat.reduceBEq, Nat.reduceDiv, Nat.reduceMod, Int.reduceToNat, Int.reduceLT, Int.reduceLE, Int.reduceAdd, Int.reduceSub, Int.reduceMul, Int.reduceEq, Int.reduceNeg, reduceCtorEq, resV, resAll, ARes.ev, LV.flat, ite_true, ite_false, exists_eq_left', exists_eq_left, keyOf, implies_true, fillC, capOf]
    exact cmp_drop0 rfl

theorem h_l1Most {a b : Int} {M : Mem} : CallsTo PG F.spec_l1Most [.I a, .I b] M (.I (max a b)) M := by
  refine calls_run K.spec_l1Most rfl ?_
  simp (disch := omega) only [C.spec_l1Most, ↓SXd, SXu, slBounds, ↓sop, ↓aop, ↓reduceIte, LV.cells, AOp.dst, LV.I, LV.B, LV.U, LV.S, LV.nil, Nat.reduceEqDiff, Nat.reduceAdd, Nat.reduceMul, Nat.reduceSub, Nat.reduceLeDiff, Nat.reduceBEq, Nat.reduceDiv, Nat.reduceMod, Int.reduceToNat, Int.reduceLT, Int.reduceLE, Int.reduceAdd, Int.reduceSub, Int.reduceMul, Int.reduceEq, Int.reduceNeg, reduceCtorEq, resV, resAll, ARes.ev, LV.flat, ite_true, ite_false, exists_eq_left', exists_eq_left, keyOf, implies_true, fillC, capOf]
  refine condC_dec (fun h => ?_) (fun h => ?_) <;> simp (disch := omega) only [↓SXd, SXu, slBounds, ↓sop, ↓aop, ↓reduceIte, LV.cells, AOp.dst, LV.I, LV.B, LV.U, LV.S, LV.nil, Nat.reduceEqDiff, Nat.reduceAdd, Nat.reduceMul, Nat.reduceSub, Nat.reduceLeDiff, Nat.reduceBEq, Nat.reduceDiv, Nat.reduceMod, Int.reduceToNat, Int.reduceLT, Int.reduceLE, Int.reduceAdd, Int.reduceSub, Int.reduceMul, Int.reduceEq, Int.reduceNeg, reduceCtorEq, resV, resAll, ARes.ev, LV.flat, ite_true, ite_false, exists_eq_left', exists_eq_left, keyOf, implies_true, fillC, capOf]
  · rw [show max a b = a by omega]; exact cmp_drop0 rfl
  · rw [show max a b = b by omega]; exact cmp_drop0 rfl

theorem h_l2Sides {x y z : Int} {M : Mem} : CallsTo PG F.spec_l2Sides [.I x, .I y, .I z] M (.B (decide (Sides x y z))) M := by
  refine calls_run K.spec_l2Sides rfl ?_
  simp (disch := omega) only [C.spec_l2Sides, ↓SXd, SXu, slBounds, ↓sop, ↓aop, ↓reduceIte, LV.cells, AOp.dst, LV.I, LV.B, LV.U, LV.S, LV.nil, Nat.reduceEqDiff, Nat.reduceAdd, Nat.reduceMul, Nat.reduceSub, Nat.reduceLeDiff, Nat.reduceBEq, Nat.reduceDiv, Nat.reduceMod, Int.reduceToNat, Int.reduceLT, Int.reduceLE, Int.reduceAdd, Int.reduceSub, Int.reduceMul, Int.reduceEq, Int.reduceNeg, reduceCtorEq, resV, resAll, ARes.ev, LV.flat, ite_true, ite_false, exists_eq_left', exists_eq_left, keyOf, implies_true, fillC, capOf]
  refine callK_of h_l1In ?_
  simp (disch := omega) only [↓SXd, SXu, slBounds, ↓sop, ↓aop, ↓reduceIte, LV.cells, AOp.dst, LV.I, LV.B, LV.U, LV.S, LV.nil, Nat.reduceEqDiff, Nat.reduceAdd, Nat.reduceMul, Nat.reduceSub, Nat.reduceLeDiff, Nat.reduceBEq, Nat.reduceDiv, Nat.reduceMod, Int.reduceToNat, Int.reduceLT, Int.reduceLE, Int.reduceAdd, Int.reduceSub, Int.reduceMul, Int.reduceEq, Int.reduceNeg, reduceCtorEq, resV, resAll, ARes.ev, LV.flat, ite_true, ite_false, exists_eq_left', exists_eq_left, keyOf, implies_true, fillC, capOf]
  unfold Sides
  by_cases h1 : 1 ≤ x ∧ x ≤ 4
  · simp (disch := omega) only [h1, ↓SXd, SXu, slBounds, ↓sop, ↓aop, ↓reduceIte, LV.cells, AOp.dst, LV.I, LV.B, LV.U, LV.S, LV.nil, Nat.reduceEqDiff, Nat.reduceAdd, Nat.reduceMul, Nat.reduceSub, Nat.reduceLeDiff, Nat.reduceBEq, Nat.reduceDiv, Nat.reduceMod, Int.reduceToNat, Int.reduceLT, Int.reduceLE, Int.reduceAdd, Int.reduceSub, Int.reduceMul, Int.reduceEq, Int.reduceNeg, reduceCtorEq, resV, resAll, ARes.ev, LV.flat, ite_true, ite_false, exists_eq_left', exists_eq_left, keyOf, implies_true, fillC, capOf]
    refine callK_of h_l1In ?_
    simp (disch := omega) only [↓SXd, SXu, slBounds, ↓sop, ↓aop, ↓reduceIte, LV.cells, AOp.dst, LV.I, LV.B, LV.U, LV.S, LV.nil, Nat.reduceEqDiff, Nat.reduceAdd, Nat.reduceMul, Nat.reduceSub, Nat.reduceLeDiff, Nat.reduceBEq, Nat.reduceDiv, Nat.reduceMod, Int.reduceToNat, Int.reduceLT, Int.reduceLE, Int.reduceAdd, Int.reduceSub, Int.reduceMul, Int.reduceEq, Int.reduceNeg, reduceCtorEq, resV, resAll, ARes.ev, LV.flat, ite_true, ite_false, exists_eq_left', exists_eq_left, keyOf, implies_true, fillC, capOf]
    by_cases h2 : 1 ≤ y ∧ y ≤ 4
    · simp (disch := omega) only [h2, ↓SXd, SXu, slBounds, ↓sop, ↓aop, ↓reduceIte, LV.cells, AOp.dst, LV.I, LV.B, LV.U, LV.S, LV.nil, Nat.reduceEqDiff, Nat.reduceAdd, Nat.reduceMul, Nat.reduceSub, Nat.reduceLeDiff, Nat.reduceBEq, Nat.reduceDiv, Nat.reduceMod, Int.reduceToNat, Int.reduceLT, Int.reduceLE, Int.reduceAdd, Int.reduceSub, Int.reduceMul, Int.reduceEq, Int.reduceNeg, reduceCtorEq, resV, resAll, ARes.ev, LV.flat, ite_true, ite_false, exists_eq_left', exists_eq_left, keyOf, implies_true, fillC, capOf]
      refine callK_of h_l1In ?_
      simp (disch := omega) only [↓SXd, SXu, slBounds, ↓sop, ↓aop, ↓reduceIte, LV.cells, AOp.dst, LV.I, LV.B, LV.U, LV.S, LV.nil, Nat.reduceEqDiff, Nat.reduceAdd, Nat.reduceMul, Nat.reduceSub, Nat.reduceLeDiff, Nat.reduceBEq, Nat.reduceDiv, Nat.reduceMod, Int.reduceToNat, Int.reduceLT, Int.reduceLE, Int.reduceAdd, Int.reduceSub, Int.reduceMul, Int.reduceEq, Int.reduceNeg, reduceCtorEq, resV, resAll, ARes.ev, LV.flat, ite_true, ite_false, exists_eq_left', exists_eq_left, keyOf, implies_true, fillC, capOf]
      exact cmp_drop0 rfl
    · simp (disch := omega) only [h2, false_and, ↓SXd, SXu, slBounds, ↓sop, ↓aop, ↓reduceIte, LV.cells, AOp.dst, LV.I, LV.B, LV.U, LV.S, LV.nil, Nat.reduceEqDiff, Nat.reduceAdd, Nat.reduceMul, Nat.reduceSub, Nat.reduceLeDiff, Nat.reduceBEq, Nat.reduceDiv, Nat.reduceMod, Int.reduceToNat, Int.reduceLT, Int.reduceLE, Int.reduceAdd, Int.reduceSub, Int.reduceMul, Int.reduceEq, Int.reduceNeg, reduceCtorEq, resV, resAll, ARes.ev, LV.flat, ite_true, ite_false, exists_eq_left', exists_eq_left, keyOf, implies_true, fillC, capOf]
      exact cmp_drop0 rfl
  · simp (disch := omega) only [h1, false_and, ↓SXd, SXu, slBounds, ↓sop, ↓aop, ↓reduceIte, LV.cells, AOp.dst, LV.I, LV.B, LV.U, LV.S, LV.nil, Nat.reduceEqDiff, Nat.reduceAdd, Nat.reduceMul, Nat.reduceSub, Nat.reduceLeDiff, Nat.reduceBEq, Nat.reduceDiv, Nat.reduceMod, Int.reduceToNat, Int.reduceLT, Int.reduceLE, Int.reduceAdd, Int.reduceSub, Int.reduceMul, Int.reduceEq, Int.reduceNeg, reduceCtorEq, resV, resAll, ARes.ev, LV.flat, ite_true, ite_false, exists_eq_left', exists_eq_left, keyOf, implies_true, fillC, capOf]
    exact cmp_drop0 rfl

theorem h_l2Before {a b c a' b' c' : Int} {M : Mem} : CallsTo PG F.spec_l2Before [.agg [.I a, .I b, .I c], .agg [.I a', .I b', .I c']] M (.B (decide (Cell.lt ⟨a, b, c⟩ ⟨a', b', c'⟩))) M := by
  refine calls_run K.spec_l2Before rfl ?_
  simp (disch := omega) only [C.spec_l2Before, ↓SXd, SXu, slBounds, ↓sop, ↓aop, ↓reduceIte, LV.cells, AOp.dst, LV.I, LV.B, LV.U, LV.S, LV.nil, Nat.reduceEqDiff, Nat.reduceAdd, Nat.reduceMul, Nat.reduceSub, Nat.reduceLeDiff, Nat.reduceBEq, Nat.reduceDiv, Nat.reduceMod, Int.reduceToNat, Int.reduceLT, Int.reduceLE, Int.reduceAdd, Int.reduceSub, Int.reduceMul, Int.reduceEq, Int.reduceNeg, reduceCtorEq, resV, resAll, ARes.ev, LV.flat, ite_true, ite_false, exists_eq_left', exists_eq_left, keyOf, implies_true, fillC, capOf]
  refine ev_loop (fun m fr M' => ∃ k : Nat, k + m = 3 ∧ M' = M ++ [some (Blk.row [.I a, .I b, .I c] true 0), some (Blk.row [.I a', .I b', .I c'] true 0)] ∧ fr 2 = .ptr M.length 0 ∧ fr 3 = .ptr (M.length + 1) 0 ∧ fr 5 = .I k ∧
    (0 < k → a = a') ∧ (1 < k → b = b') ∧ (2 < k → c = c')) 3 ⟨0, rfl, rfl, rfl, rfl, rfl, by omega, by omega, by omega⟩ ?_
  rintro m fr M' ⟨k, hk, rfl, h2, h3, h5, ha, hb, hc⟩
  simp (disch := omega) only [h2, h3, h5, ↓SXd, SXu, slBounds, ↓sop, ↓aop, ↓reduceIte, LV.cells, AOp.dst, LV.I, LV.B, LV.U, LV.S, LV.nil, Nat.reduceEqDiff, Nat.reduceAdd, Nat.reduceMul, Nat.reduceSub, Nat.reduceLeDiff, Nat.reduceBEq, Nat.reduceDiv, Nat.reduceMod, Int.reduceToNat, Int.reduceLT, Int.reduceLE, Int.reduceAdd, Int.reduceSub, Int.reduceMul, Int.reduceEq, Int.reduceNeg, reduceCtorEq, resV, resAll, ARes.ev, LV.flat, ite_true, ite_false, exists_eq_left', exists_eq_left, keyOf, implies_true, fillC, capOf]
  refine condC_dec (fun hlt => ?_) (fun hlt => ?_)
  · have hk3 : k = 0 ∨ k = 1 ∨ k = 2 := by omega
    rcases hk3 with rfl | rfl | rfl
    all_goals
      simp (disch := omega) only [h2, h3, h5, ↓SXd, SXu, slBounds, ↓sop, ↓aop, ↓reduceIte, LV.cells, AOp.dst, LV.I, LV.B, LV.U, LV.S, LV.nil, Nat.reduceEqDiff, Nat.reduceAdd, Nat.reduceMul, Nat.reduceSub, Nat.reduceLeDiff, Nat.reduceBEq, Nat.reduceDiv, Nat.reduceMod, Int.reduceToNat, Int.reduceLT, Int.reduceLE, Int.reduceAdd, Int.reduceSub, Int.reduceMul, Int.reduceEq, Int.reduceNeg, reduceCtorEq, resV, resAll, ARes.ev, LV.flat, ite_true, ite_false, exists_eq_left', exists_eq_left, keyOf, implies_true, fillC, capOf]
      refine condC_dec (fun he => ?_) (fun he => ?_)
      · simp (disch := omega) only [h2, h3, h5, ↓SXd, SXu, slBounds, ↓sop, ↓aop, ↓reduceIte, LV.cells, AOp.dst, LV.I, LV.B, LV.U, LV.S, LV.nil, Nat.reduceEqDiff, Nat.reduceAdd, Nat.reduceMul, Nat.reduceSub, Nat.reduceLeDiff, Nat.reduceBEq, Nat.reduceDiv, Nat.reduceMod, Int.reduceToNat, Int.reduceLT, Int.reduceLE, Int.reduceAdd, Int.reduceSub, Int.reduceMul, Int.reduceEq, Int.reduceNeg, reduceCtorEq, resV, resAll, ARes.ev, LV.flat, ite_true, ite_false, exists_eq_left', exists_eq_left, keyOf, implies_true, fillC, capOf]
        exact ⟨m - 1, by omega, _, by omega, rfl, h2, h3, eqI (natI _), by omega, by omega, by omega⟩
      · simp (disch := omega) only [h2, h3, h5, ↓SXd, SXu, slBounds, ↓sop, ↓aop, ↓reduceIte, LV.cells, AOp.dst, LV.I, LV.B, LV.U, LV.S, LV.nil, Nat.reduceEqDiff, Nat.reduceAdd, Nat.reduceMul, Nat.reduceSub, Nat.reduceLeDiff, Nat.reduceBEq, Nat.reduceDiv, Nat.reduceMod, Int.reduceToNat, Int.reduceLT, Int.reduceLE, Int.reduceAdd, Int.reduceSub, Int.reduceMul, Int.reduceEq, Int.reduceNeg, reduceCtorEq, resV, resAll, ARes.ev, LV.flat, ite_true, ite_false, exists_eq_left', exists_eq_left, keyOf, implies_true, fillC, capOf]
        exact cmp_dropB (by simp only [Cell.lt]; omega)
  · simp (disch := omega) only [h2, h3, h5, ↓SXd, SXu, slBounds, ↓sop, ↓aop, ↓reduceIte, LV.cells, AOp.dst, LV.I, LV.B, LV.U, LV.S, LV.nil, Nat.reduceEqDiff, Nat.reduceAdd, Nat.reduceMul, Nat.reduceSub, Nat.reduceLeDiff, Nat.reduceBEq, Nat.reduceDiv, Nat.reduceMod, Int.reduceToNat, Int.reduceLT, Int.reduceLE, Int.reduceAdd, Int.reduceSub, Int.reduceMul, Int.reduceEq, Int.reduceNeg, reduceCtorEq, resV, resAll, ARes.ev, LV.flat, ite_true, ite_false, exists_eq_left', exists_eq_left, keyOf, implies_true, fillC, capOf]
    exact cmp_dropF (by simp only [Cell.lt]; omega)

theorem h_l2In {x y z a b c : Int} {v : LV} {M : Mem} (hS : Sides x y z) : CallsTo PG F.spec_l2In [.agg [.I x, .I y, .I z, v], .agg [.I a, .I b, .I c]] M (.B (decide (Cell.inBox x y z ⟨a, b, c⟩))) M := by
  obtain ⟨hx, hy, hz⟩ := hS
  refine calls_run K.spec_l2In rfl ?_
  simp (disch := omega) only [C.spec_l2In, ↓SXd, SXu, slBounds, ↓sop, ↓aop, ↓reduceIte, LV.cells, AOp.dst, LV.I, LV.B, LV.U, LV.S, LV.nil, Nat.reduceEqDiff, Nat.reduceAdd, Nat.reduceMul, Nat.reduceSub, Nat.reduceLeDiff, Nat.reduceBEq, Nat.reduceDiv, Nat.reduceMod, Int.reduceToNat, Int.reduceLT, Int.reduceLE, Int.reduceAdd, Int.reduceSub, Int.reduceMul, Int.reduceEq, Int.reduceNeg, reduceCtorEq, resV, resAll, ARes.ev, LV.flat, ite_true, ite_false, exists_eq_left', exists_eq_left, keyOf, implies_true, fillC, capOf]
  refine callK_of h_l1In ?_
  simp (disch := omega) only [↓SXd, SXu, slBounds, ↓sop, ↓aop, ↓reduceIte, LV.cells, AOp.dst, LV.I, LV.B, LV.U, LV.S, LV.nil, Nat.reduceEqDiff, Nat.reduceAdd, Nat.reduceMul, Nat.reduceSub, Nat.reduceLeDiff, Nat.reduceBEq, Nat.reduceDiv, Nat.reduceMod, Int.reduceToNat, Int.reduceLT, Int.reduceLE, Int.reduceAdd, Int.reduceSub, Int.reduceMul, Int.reduceEq, Int.reduceNeg, reduceCtorEq, resV, resAll, ARes.ev, LV.flat, ite_true, ite_false, exists_eq_left', exists_eq_left, keyOf, implies_true, fillC, capOf]
  unfold Cell.inBox
  by_cases h1 : 0 ≤ a ∧ a ≤ x - 1
  · simp (disch := omega) only [h1, ↓SXd, SXu, slBounds, ↓sop, ↓aop, ↓reduceIte, LV.cells, AOp.dst, LV.I, LV.B, LV.U, LV.S, LV.nil, Nat.reduceEqDiff, Nat.reduceAdd, Nat.reduceMul, Nat.reduceSub, Nat.reduceLeDiff, Nat.reduceBEq, Nat.reduceDiv, Nat.reduceMod, Int.reduceToNat, Int.reduceLT, Int.reduceLE, Int.reduceAdd, Int.reduceSub, Int.reduceMul, Int.reduceEq, Int.reduceNeg, reduceCtorEq, resV, resAll, ARes.ev, LV.flat, ite_true, ite_false, exists_eq_left', exists_eq_left, keyOf, implies_true, fillC, capOf]
    refine callK_of h_l1In ?_
    simp (disch := omega) only [↓SXd, SXu, slBounds, ↓sop, ↓aop, ↓reduceIte, LV.cells, AOp.dst, LV.I, LV.B, LV.U, LV.S, LV.nil, Nat.reduceEqDiff, Nat.reduceAdd, Nat.reduceMul, Nat.reduceSub, Nat.reduceLeDiff, Nat.reduceBEq, Nat.reduceDiv, Nat.reduceMod, Int.reduceToNat, Int.reduceLT, Int.reduceLE, Int.reduceAdd, Int.reduceSub, Int.reduceMul, Int.reduceEq, Int.reduceNeg, reduceCtorEq, resV, resAll, ARes.ev, LV.flat, ite_true, ite_false, exists_eq_left', exists_eq_left, keyOf, implies_true, fillC, capOf]
    by_cases h2 : 0 ≤ b ∧ b ≤ y - 1
    · simp (disch := omega) only [h2, ↓SXd, SXu, slBounds, ↓sop, ↓aop, ↓reduceIte, LV.cells, AOp.dst, LV.I, LV.B, LV.U, LV.S, LV.nil, Nat.reduceEqDiff, Nat.reduceAdd, Nat.reduceMul, Nat.reduceSub, Nat.reduceLeDiff, Nat.reduceBEq, Nat.reduceDiv, Nat.reduceMod, Int.reduceToNat, Int.reduceLT, Int.reduceLE, Int.reduceAdd, Int.reduceSub, Int.reduceMul, Int.reduceEq, Int.reduceNeg, reduceCtorEq, resV, resAll, ARes.ev, LV.flat, ite_true, ite_false, exists_eq_left', exists_eq_left, keyOf, implies_true, fillC, capOf]
      refine callK_of h_l1In ?_
      simp (disch := omega) only [↓SXd, SXu, slBounds, ↓sop, ↓aop, ↓reduceIte, LV.cells, AOp.dst, LV.I, LV.B, LV.U, LV.S, LV.nil, Nat.reduceEqDiff, Nat.reduceAdd, Nat.reduceMul, Nat.reduceSub, Nat.reduceLeDiff, Nat.reduceBEq, Nat.reduceDiv, Nat.reduceMod, Int.reduceToNat, Int.reduceLT, Int.reduceLE, Int.reduceAdd, Int.reduceSub, Int.reduceMul, Int.reduceEq, Int.reduceNeg, reduceCtorEq, resV, resAll, ARes.ev, LV.flat, ite_true, ite_false, exists_eq_left', exists_eq_left, keyOf, implies_true, fillC, capOf]
      exact cmp_drop rfl
    · simp (disch := omega) only [h2, false_and, ↓SXd, SXu, slBounds, ↓sop, ↓aop, ↓reduceIte, LV.cells, AOp.dst, LV.I, LV.B, LV.U, LV.S, LV.nil, Nat.reduceEqDiff, Nat.reduceAdd, Nat.reduceMul, Nat.reduceSub, Nat.reduceLeDiff, Nat.reduceBEq, Nat.reduceDiv, Nat.reduceMod, Int.reduceToNat, Int.reduceLT, Int.reduceLE, Int.reduceAdd, Int.reduceSub, Int.reduceMul, Int.reduceEq, Int.reduceNeg, reduceCtorEq, resV, resAll, ARes.ev, LV.flat, ite_true, ite_false, exists_eq_left', exists_eq_left, keyOf, implies_true, fillC, capOf]
      exact cmp_drop rfl
  · simp (disch := omega) only [h1, false_and, ↓SXd, SXu, slBounds, ↓sop, ↓aop, ↓reduceIte, LV.cells, AOp.dst, LV.I, LV.B, LV.U, LV.S, LV.nil, Nat.reduceEqDiff, Nat.reduceAdd, Nat.reduceMul, Nat.reduceSub, Nat.reduceLeDiff, Nat.reduceBEq, Nat.reduceDiv, Nat.reduceMod, Int.reduceToNat, Int.reduceLT, Int.reduceLE, Int.reduceAdd, Int.reduceSub, Int.reduceMul, Int.reduceEq, Int.reduceNeg, reduceCtorEq, resV, resAll, ARes.ev, LV.flat, ite_true, ite_false, exists_eq_left', exists_eq_left, keyOf, implies_true, fillC, capOf]
    exact cmp_drop rfl
end Go.Ab

/- Contracts: the reference's valid heaps, heights, columns. -/
namespace Go.Ab
open Go
set_option linter.unusedSimpArgs false
set_option linter.unusedVariables false

theorem h_l2Heap {x y z : Int} {t o : Nat} {cs : List Cell} {M : Mem} (h : Tri M t o cs) (hn : cs.length ≤ 1000000000) :
    CallsTo PG F.spec_l2Heap [.agg [.I x, .I y, .I z, .ref t o cs.length]] M (.B (decide (HeapOK x y z cs))) M := by
  refine calls_run K.spec_l2Heap rfl ?_
  simp (disch := omega) only [C.spec_l2Heap, ↓SXd, SXu, slBounds, ↓sop, ↓aop, ↓reduceIte, LV.cells, AOp.dst, LV.I, LV.B, LV.U, LV.S, LV.nil, Nat.reduceEqDiff, Nat.reduceAdd, Nat.reduceMul, Nat.reduceSub, Nat.reduceLeDiff, Nat.reduceBEq, Nat.reduceDiv, Nat.reduceMod, Int.reduceToNat, Int.reduceLT, Int.reduceLE, Int.reduceAdd, Int.reduceSub, Int.reduceMul, Int.reduceEq, Int.reduceNeg, reduceCtorEq, resV, resAll, ARes.ev, LV.flat, ite_true, ite_false, exists_eq_left', exists_eq_left, keyOf, implies_true, fillC, capOf]
  refine callK_of h_l2Sides ?_
  simp (disch := omega) only [↓SXd, SXu, slBounds, ↓sop, ↓aop, ↓reduceIte, LV.cells, AOp.dst, LV.I, LV.B, LV.U, LV.S, LV.nil, Nat.reduceEqDiff, Nat.reduceAdd, Nat.reduceMul, Nat.reduceSub, Nat.reduceLeDiff, Nat.reduceBEq, Nat.reduceDiv, Nat.reduceMod, Int.reduceToNat, Int.reduceLT, Int.reduceLE, Int.reduceAdd, Int.reduceSub, Int.reduceMul, Int.reduceEq, Int.reduceNeg, reduceCtorEq, resV, resAll, ARes.ev, LV.flat, ite_true, ite_false, exists_eq_left', exists_eq_left, keyOf, implies_true, fillC, capOf]
  by_cases hS : Sides x y z
  · simp (disch := omega) only [hS, ↓SXd, SXu, slBounds, ↓sop, ↓aop, ↓reduceIte, LV.cells, AOp.dst, LV.I, LV.B, LV.U, LV.S, LV.nil, Nat.reduceEqDiff, Nat.reduceAdd, Nat.reduceMul, Nat.reduceSub, Nat.reduceLeDiff, Nat.reduceBEq, Nat.reduceDiv, Nat.reduceMod, Int.reduceToNat, Int.reduceLT, Int.reduceLE, Int.reduceAdd, Int.reduceSub, Int.reduceMul, Int.reduceEq, Int.reduceNeg, reduceCtorEq, resV, resAll, ARes.ev, LV.flat, ite_true, ite_false, exists_eq_left', exists_eq_left, keyOf, implies_true, fillC, capOf]
    refine ev_loop (fun m fr M' => ∃ k : Nat, k + m = cs.length ∧ M' = M ++ [some (Blk.row [.I x, .I y, .I z, .ref t o cs.length] true 0)] ∧ fr 1 = .ptr M.length 0 ∧ fr 3 = .I k ∧
      ∀ j, j < k → (cs.getD j default).inBox x y z ∧ (0 < j → (cs.getD (j - 1) default).lt (cs.getD j default))) cs.length ⟨0, by omega, rfl, rfl, rfl, by omega⟩ ?_
    rintro m fr M' ⟨k, hk, rfl, h1, h3, hj⟩
    have ht := h.lt
    simp (disch := omega) only [h1, h3, ↓SXd, SXu, slBounds, ↓sop, ↓aop, ↓reduceIte, LV.cells, AOp.dst, LV.I, LV.B, LV.U, LV.S, LV.nil, Nat.reduceEqDiff, Nat.reduceAdd, Nat.reduceMul, Nat.reduceSub, Nat.reduceLeDiff, Nat.reduceBEq, Nat.reduceDiv, Nat.reduceMod, Int.reduceToNat, Int.reduceLT, Int.reduceLE, Int.reduceAdd, Int.reduceSub, Int.reduceMul, Int.reduceEq, Int.reduceNeg, reduceCtorEq, resV, resAll, ARes.ev, LV.flat, ite_true, ite_false, exists_eq_left', exists_eq_left, keyOf, implies_true, fillC, capOf]
    refine condC_dec (fun hlt => ?_) (fun hlt => ?_)
    · simp (disch := omega) only [h1, h3, getCells_app, h.get, Cell.row, ↓SXd, SXu, slBounds, ↓sop, ↓aop, ↓reduceIte, LV.cells, AOp.dst, LV.I, LV.B, LV.U, LV.S, LV.nil, Nat.reduceEqDiff, Nat.reduceAdd, Nat.reduceMul, Nat.reduceSub, Nat.reduceLeDiff, Nat.reduceBEq, Nat.reduceDiv, Nat.reduceMod, Int.reduceToNat, Int.reduceLT, Int.reduceLE, Int.reduceAdd, Int.reduceSub, Int.reduceMul, Int.reduceEq, Int.reduceNeg, reduceCtorEq, resV, resAll, ARes.ev, LV.flat, ite_true, ite_false, exists_eq_left', exists_eq_left, keyOf, implies_true, fillC, capOf]
      refine callK_of (h_l2In hS) ?_
      simp (disch := omega) only [h1, h3, getCells_app, h.get, Cell.row, cell_eta, ↓SXd, SXu, slBounds, ↓sop, ↓aop, ↓reduceIte, LV.cells, AOp.dst, LV.I, LV.B, LV.U, LV.S, LV.nil, Nat.reduceEqDiff, Nat.reduceAdd, Nat.reduceMul, Nat.reduceSub, Nat.reduceLeDiff, Nat.reduceBEq, Nat.reduceDiv, Nat.reduceMod, Int.reduceToNat, Int.reduceLT, Int.reduceLE, Int.reduceAdd, Int.reduceSub, Int.reduceMul, Int.reduceEq, Int.reduceNeg, reduceCtorEq, resV, resAll, ARes.ev, LV.flat, ite_true, ite_false, exists_eq_left', exists_eq_left, keyOf, implies_true, fillC, capOf]
      by_cases hin : (cs.getD k default).inBox x y z
      · simp (disch := omega) only [hin, h1, h3, getCells_app, h.get, Cell.row, cell_eta, ↓SXd, SXu, slBounds, ↓sop, ↓aop, ↓reduceIte, LV.cells, AOp.dst, LV.I, LV.B, LV.U, LV.S, LV.nil, Nat.reduceEqDiff, Nat.reduceAdd, Nat.reduceMul, Nat.reduceSub, Nat.reduceLeDiff, Nat.reduceBEq, Nat.reduceDiv, Nat.reduceMod, Int.reduceToNat, Int.reduceLT, Int.reduceLE, Int.reduceAdd, Int.reduceSub, Int.reduceMul, Int.reduceEq, Int.reduceNeg, reduceCtorEq, resV, resAll, ARes.ev, LV.flat, ite_true, ite_false, exists_eq_left', exists_eq_left, keyOf, implies_true, fillC, capOf]
        by_cases hk0 : k = 0
        · subst hk0
          simp (disch := omega) only [h1, h3, getCells_app, h.get, Cell.row, cell_eta, Int.natCast_zero, gt_iff_lt, Int.lt_irrefl, ↓SXd, SXu, slBounds, ↓sop, ↓aop, ↓reduceIte, LV.cells, AOp.dst, LV.I, LV.B, LV.U, LV.S, LV.nil, Nat.reduceEqDiff, Nat.reduceAdd, Nat.reduceMul, Nat.reduceSub, Nat.reduceLeDiff, Nat.reduceBEq, Nat.reduceDiv, Nat.reduceMod, Int.reduceToNat, Int.reduceLT, Int.reduceLE, Int.reduceAdd, Int.reduceSub, Int.reduceMul, Int.reduceEq, Int.reduceNeg, reduceCtorEq, resV, resAll, ARes.ev, LV.flat, ite_true, ite_false, exists_eq_left', exists_eq_left, keyOf, implies_true, fillC, capOf]
          exact ⟨m - 1, by omega, 1, by omega, rfl, h1, rfl, fun j hj1 => by
            have : j = 0 := by omega
            subst this
            exact ⟨hin, by omega⟩⟩
        · have e1 : ((k : Int) - 1).toNat = k - 1 := by omega
          have e2 : (0 : Int) < k := by omega
          simp (disch := omega) only [h1, h3, getCells_app, h.get, Cell.row, cell_eta, e1, e2, ↓SXd, SXu, slBounds, ↓sop, ↓aop, ↓reduceIte, LV.cells, AOp.dst, LV.I, LV.B, LV.U, LV.S, LV.nil, Nat.reduceEqDiff, Nat.reduceAdd, Nat.reduceMul, Nat.reduceSub, Nat.reduceLeDiff, Nat.reduceBEq, Nat.reduceDiv, Nat.reduceMod, Int.reduceToNat, Int.reduceLT, Int.reduceLE, Int.reduceAdd, Int.reduceSub, Int.reduceMul, Int.reduceEq, Int.reduceNeg, reduceCtorEq, resV, resAll, ARes.ev, LV.flat, ite_true, ite_false, exists_eq_left', exists_eq_left, keyOf, implies_true, fillC, capOf]
          refine callK_of h_l2Before ?_
          simp (disch := omega) only [h1, h3, cell_eta, ↓SXd, SXu, slBounds, ↓sop, ↓aop, ↓reduceIte, LV.cells, AOp.dst, LV.I, LV.B, LV.U, LV.S, LV.nil, Nat.reduceEqDiff, Nat.reduceAdd, Nat.reduceMul, Nat.reduceSub, Nat.reduceLeDiff, Nat.reduceBEq, Nat.reduceDiv, Nat.reduceMod, Int.reduceToNat, Int.reduceLT, Int.reduceLE, Int.reduceAdd, Int.reduceSub, Int.reduceMul, Int.reduceEq, Int.reduceNeg, reduceCtorEq, resV, resAll, ARes.ev, LV.flat, ite_true, ite_false, exists_eq_left', exists_eq_left, keyOf, implies_true, fillC, capOf]
          by_cases hb : (cs.getD (k - 1) default).lt (cs.getD k default)
          · simp (disch := omega) only [hb, h1, h3, ↓SXd, SXu, slBounds, ↓sop, ↓aop, ↓reduceIte, LV.cells, AOp.dst, LV.I, LV.B, LV.U, LV.S, LV.nil, Nat.reduceEqDiff, Nat.reduceAdd, Nat.reduceMul, Nat.reduceSub, Nat.reduceLeDiff, Nat.reduceBEq, Nat.reduceDiv, Nat.reduceMod, Int.reduceToNat, Int.reduceLT, Int.reduceLE, Int.reduceAdd, Int.reduceSub, Int.reduceMul, Int.reduceEq, Int.reduceNeg, reduceCtorEq, resV, resAll, ARes.ev, LV.flat, ite_true, ite_false, exists_eq_left', exists_eq_left, keyOf, implies_true, fillC, capOf]
            exact ⟨m - 1, by omega, k + 1, by omega, rfl, h1, eqI (natI _), fun j hj1 => by
              by_cases hjk : j = k
              · subst hjk; exact ⟨hin, fun _ => hb⟩
              · exact hj j (by omega)⟩
          · simp (disch := omega) only [hb, h1, h3, ↓SXd, SXu, slBounds, ↓sop, ↓aop, ↓reduceIte, LV.cells, AOp.dst, LV.I, LV.B, LV.U, LV.S, LV.nil, Nat.reduceEqDiff, Nat.reduceAdd, Nat.reduceMul, Nat.reduceSub, Nat.reduceLeDiff, Nat.reduceBEq, Nat.reduceDiv, Nat.reduceMod, Int.reduceToNat, Int.reduceLT, Int.reduceLE, Int.reduceAdd, Int.reduceSub, Int.reduceMul, Int.reduceEq, Int.reduceNeg, reduceCtorEq, resV, resAll, ARes.ev, LV.flat, ite_true, ite_false, exists_eq_left', exists_eq_left, keyOf, implies_true, fillC, capOf]
            exact cmp_dropF fun hh => hb ((hh.2 k (by omega)).2 (by omega))
      · simp (disch := omega) only [hin, h1, h3, ↓SXd, SXu, slBounds, ↓sop, ↓aop, ↓reduceIte, LV.cells, AOp.dst, LV.I, LV.B, LV.U, LV.S, LV.nil, Nat.reduceEqDiff, Nat.reduceAdd, Nat.reduceMul, Nat.reduceSub, Nat.reduceLeDiff, Nat.reduceBEq, Nat.reduceDiv, Nat.reduceMod, Int.reduceToNat, Int.reduceLT, Int.reduceLE, Int.reduceAdd, Int.reduceSub, Int.reduceMul, Int.reduceEq, Int.reduceNeg, reduceCtorEq, resV, resAll, ARes.ev, LV.flat, ite_true, ite_false, exists_eq_left', exists_eq_left, keyOf, implies_true, fillC, capOf]
        exact cmp_dropF fun hh => hin (hh.2 k (by omega)).1
    · simp (disch := omega) only [h1, h3, ↓SXd, SXu, slBounds, ↓sop, ↓aop, ↓reduceIte, LV.cells, AOp.dst, LV.I, LV.B, LV.U, LV.S, LV.nil, Nat.reduceEqDiff, Nat.reduceAdd, Nat.reduceMul, Nat.reduceSub, Nat.reduceLeDiff, Nat.reduceBEq, Nat.reduceDiv, Nat.reduceMod, Int.reduceToNat, Int.reduceLT, Int.reduceLE, Int.reduceAdd, Int.reduceSub, Int.reduceMul, Int.reduceEq, Int.reduceNeg, reduceCtorEq, resV, resAll, ARes.ev, LV.flat, ite_true, ite_false, exists_eq_left', exists_eq_left, keyOf, implies_true, fillC, capOf]
      exact cmp_dropT ⟨hS, fun j hj1 => hj j (by omega)⟩
  · simp (disch := omega) only [hS, ↓SXd, SXu, slBounds, ↓sop, ↓aop, ↓reduceIte, LV.cells, AOp.dst, LV.I, LV.B, LV.U, LV.S, LV.nil, Nat.reduceEqDiff, Nat.reduceAdd, Nat.reduceMul, Nat.reduceSub, Nat.reduceLeDiff, Nat.reduceBEq, Nat.reduceDiv, Nat.reduceMod, Int.reduceToNat, Int.reduceLT, Int.reduceLE, Int.reduceAdd, Int.reduceSub, Int.reduceMul, Int.reduceEq, Int.reduceNeg, reduceCtorEq, resV, resAll, ARes.ev, LV.flat, ite_true, ite_false, exists_eq_left', exists_eq_left, keyOf, implies_true, fillC, capOf]
    exact cmp_dropF fun hh => hS hh.1

end Go.Ab

/- Contracts: distances of cells. -/
namespace Go.Ab
open Go
set_option linter.unusedSimpArgs false
set_option linter.unusedVariables false

theorem h_l2Apart {a b c a' b' c' : Int} {M : Mem} (h1 : 0 ≤ a ∧ a ≤ 100) (h2 : 0 ≤ b ∧ b ≤ 100) (h3 : 0 ≤ c ∧ c ≤ 100) (h1' : 0 ≤ a' ∧ a' ≤ 100) (h2' : 0 ≤ b' ∧ b' ≤ 100) (h3' : 0 ≤ c' ∧ c' ≤ 100) :
    CallsTo PG F.spec_l2Apart [.agg [.I a, .I b, .I c], .agg [.I a', .I b', .I c']] M (.I (apart ⟨a, b, c⟩ ⟨a', b', c'⟩)) M := by
  refine calls_run K.spec_l2Apart rfl ?_
  simp (disch := omega) only [C.spec_l2Apart, ↓SXd, SXu, slBounds, ↓sop, ↓aop, ↓reduceIte, LV.cells, AOp.dst, LV.I, LV.B, LV.U, LV.S, LV.nil, Nat.reduceEqDiff, Nat.reduceAdd, Nat.reduceMul, Nat.reduceSub, Nat.reduceLeDiff, Nat.reduceBEq, Nat.reduceDiv, Nat.reduceMod, Int.reduceToNat, Int.reduceLT, Int.reduceLE, Int.reduceAdd, Int.reduceSub, Int.reduceMul, Int.reduceEq, Int.reduceNeg, reduceCtorEq, resV, resAll, ARes.ev, LV.flat, ite_true, ite_false, exists_eq_left', exists_eq_left, keyOf, implies_true, fillC, capOf]
  refine ev_loop (fun m fr M' => ∃ (k : Nat) (s : Int), k + m = 3 ∧ M' = M ++ [some (Blk.row [.I a, .I b, .I c] true 0), some (Blk.row [.I a', .I b', .I c'] true 0)] ∧ fr 2 = .ptr M.length 0 ∧ fr 3 = .ptr (M.length + 1) 0 ∧ fr 6 = .I k ∧ fr 5 = .I s ∧
    (k = 0 → s = 0) ∧ (k = 1 → s = max (a - a') (a' - a)) ∧ (k = 2 → s = max (a - a') (a' - a) + max (b - b') (b' - b)) ∧ (k = 3 → s = apart ⟨a, b, c⟩ ⟨a', b', c'⟩)) 3
    ⟨0, 0, rfl, rfl, rfl, rfl, rfl, rfl, by omega, by omega, by omega, by omega⟩ ?_
  rintro m fr M' ⟨k, s, hk, rfl, g2, g3, g6, g5, s0, s1, s2, s3⟩
  simp (disch := omega) only [g2, g3, g5, g6, ↓SXd, SXu, slBounds, ↓sop, ↓aop, ↓reduceIte, LV.cells, AOp.dst, LV.I, LV.B, LV.U, LV.S, LV.nil, Nat.reduceEqDiff, Nat.reduceAdd, Nat.reduceMul, Nat.reduceSub, Nat.reduceLeDiff, Nat.reduceBEq, Nat.reduceDiv, Nat.reduceMod, Int.reduceToNat, Int.reduceLT, Int.reduceLE, Int.reduceAdd, Int.reduceSub, Int.reduceMul, Int.reduceEq, Int.reduceNeg, reduceCtorEq, resV, resAll, ARes.ev, LV.flat, ite_true, ite_false, exists_eq_left', exists_eq_left, keyOf, implies_true, fillC, capOf]
  refine condC_dec (fun hlt => ?_) (fun hlt => ?_)
  · have hk3 : k = 0 ∨ k = 1 ∨ k = 2 := by omega
    rcases hk3 with rfl | rfl | rfl
    · have := s0 rfl; subst this
      simp (disch := omega) only [g2, g3, g5, g6, ↓SXd, SXu, slBounds, ↓sop, ↓aop, ↓reduceIte, LV.cells, AOp.dst, LV.I, LV.B, LV.U, LV.S, LV.nil, Nat.reduceEqDiff, Nat.reduceAdd, Nat.reduceMul, Nat.reduceSub, Nat.reduceLeDiff, Nat.reduceBEq, Nat.reduceDiv, Nat.reduceMod, Int.reduceToNat, Int.reduceLT, Int.reduceLE, Int.reduceAdd, Int.reduceSub, Int.reduceMul, Int.reduceEq, Int.reduceNeg, reduceCtorEq, resV, resAll, ARes.ev, LV.flat, ite_true, ite_false, exists_eq_left', exists_eq_left, keyOf, implies_true, fillC, capOf]
      refine callK_of h_l1Most ?_
      simp (disch := omega) only [g2, g3, g5, g6, ↓SXd, SXu, slBounds, ↓sop, ↓aop, ↓reduceIte, LV.cells, AOp.dst, LV.I, LV.B, LV.U, LV.S, LV.nil, Nat.reduceEqDiff, Nat.reduceAdd, Nat.reduceMul, Nat.reduceSub, Nat.reduceLeDiff, Nat.reduceBEq, Nat.reduceDiv, Nat.reduceMod, Int.reduceToNat, Int.reduceLT, Int.reduceLE, Int.reduceAdd, Int.reduceSub, Int.reduceMul, Int.reduceEq, Int.reduceNeg, reduceCtorEq, resV, resAll, ARes.ev, LV.flat, ite_true, ite_false, exists_eq_left', exists_eq_left, keyOf, implies_true, fillC, capOf]
      exact ⟨m - 1, by omega, 1, _, by omega, rfl, g2, g3, rfl, rfl, by omega, by omega, by omega, by omega⟩
    · have := s1 rfl; subst this
      simp (disch := omega) only [g2, g3, g5, g6, ↓SXd, SXu, slBounds, ↓sop, ↓aop, ↓reduceIte, LV.cells, AOp.dst, LV.I, LV.B, LV.U, LV.S, LV.nil, Nat.reduceEqDiff, Nat.reduceAdd, Nat.reduceMul, Nat.reduceSub, Nat.reduceLeDiff, Nat.reduceBEq, Nat.reduceDiv, Nat.reduceMod, Int.reduceToNat, Int.reduceLT, Int.reduceLE, Int.reduceAdd, Int.reduceSub, Int.reduceMul, Int.reduceEq, Int.reduceNeg, reduceCtorEq, resV, resAll, ARes.ev, LV.flat, ite_true, ite_false, exists_eq_left', exists_eq_left, keyOf, implies_true, fillC, capOf]
      refine callK_of h_l1Most ?_
      simp (disch := omega) only [g2, g3, g5, g6, ↓SXd, SXu, slBounds, ↓sop, ↓aop, ↓reduceIte, LV.cells, AOp.dst, LV.I, LV.B, LV.U, LV.S, LV.nil, Nat.reduceEqDiff, Nat.reduceAdd, Nat.reduceMul, Nat.reduceSub, Nat.reduceLeDiff, Nat.reduceBEq, Nat.reduceDiv, Nat.reduceMod, Int.reduceToNat, Int.reduceLT, Int.reduceLE, Int.reduceAdd, Int.reduceSub, Int.reduceMul, Int.reduceEq, Int.reduceNeg, reduceCtorEq, resV, resAll, ARes.ev, LV.flat, ite_true, ite_false, exists_eq_left', exists_eq_left, keyOf, implies_true, fillC, capOf]
      exact ⟨m - 1, by omega, 2, _, by omega, rfl, g2, g3, rfl, rfl, by omega, by omega, by omega, by omega⟩
    · have := s2 rfl; subst this
      simp (disch := omega) only [g2, g3, g5, g6, ↓SXd, SXu, slBounds, ↓sop, ↓aop, ↓reduceIte, LV.cells, AOp.dst, LV.I, LV.B, LV.U, LV.S, LV.nil, Nat.reduceEqDiff, Nat.reduceAdd, Nat.reduceMul, Nat.reduceSub, Nat.reduceLeDiff, Nat.reduceBEq, Nat.reduceDiv, Nat.reduceMod, Int.reduceToNat, Int.reduceLT, Int.reduceLE, Int.reduceAdd, Int.reduceSub, Int.reduceMul, Int.reduceEq, Int.reduceNeg, reduceCtorEq, resV, resAll, ARes.ev, LV.flat, ite_true, ite_false, exists_eq_left', exists_eq_left, keyOf, implies_true, fillC, capOf]
      refine callK_of h_l1Most ?_
      simp (disch := omega) only [g2, g3, g5, g6, ↓SXd, SXu, slBounds, ↓sop, ↓aop, ↓reduceIte, LV.cells, AOp.dst, LV.I, LV.B, LV.U, LV.S, LV.nil, Nat.reduceEqDiff, Nat.reduceAdd, Nat.reduceMul, Nat.reduceSub, Nat.reduceLeDiff, Nat.reduceBEq, Nat.reduceDiv, Nat.reduceMod, Int.reduceToNat, Int.reduceLT, Int.reduceLE, Int.reduceAdd, Int.reduceSub, Int.reduceMul, Int.reduceEq, Int.reduceNeg, reduceCtorEq, resV, resAll, ARes.ev, LV.flat, ite_true, ite_false, exists_eq_left', exists_eq_left, keyOf, implies_true, fillC, capOf]
      exact ⟨m - 1, by omega, 3, _, by omega, rfl, g2, g3, rfl, rfl, by omega, by omega, by omega, fun _ => rfl⟩
  · simp (disch := omega) only [g2, g3, g5, g6, ↓SXd, SXu, slBounds, ↓sop, ↓aop, ↓reduceIte, LV.cells, AOp.dst, LV.I, LV.B, LV.U, LV.S, LV.nil, Nat.reduceEqDiff, Nat.reduceAdd, Nat.reduceMul, Nat.reduceSub, Nat.reduceLeDiff, Nat.reduceBEq, Nat.reduceDiv, Nat.reduceMod, Int.reduceToNat, Int.reduceLT, Int.reduceLE, Int.reduceAdd, Int.reduceSub, Int.reduceMul, Int.reduceEq, Int.reduceNeg, reduceCtorEq, resV, resAll, ARes.ev, LV.flat, ite_true, ite_false, exists_eq_left', exists_eq_left, keyOf, implies_true, fillC, capOf]
    rw [s3 (by omega)]
    exact cmp_drop rfl

end Go.Ab

/- Contracts: the reference's heights and neighbours. -/
namespace Go.Ab
open Go
set_option linter.unusedSimpArgs false
set_option linter.unusedVariables false

theorem HeapOK.cell {x y z : Int} {cs : List Cell} (h : HeapOK x y z cs) {k : Nat} (hk : k < cs.length) : (cs.getD k default).inBox x y z := (h.2 k hk).1

theorem h_l2Tops {x y z : Int} {t o : Nat} {cs : List Cell} {M : Mem} (h : Tri M t o cs) (hn : cs.length ≤ 1000000000) (hH : HeapOK x y z cs) :
    CallsTo PG F.spec_l2Tops [.agg [.I x, .I y, .I z, .ref t o cs.length]] M (.ref M.length 0 (x * y).toNat) (M ++ [some (.row (intL (topsOf x y cs)) true 1)]) := by
  have hb := mul_bound hH.1.1 hH.1.2.1
  refine calls_run K.spec_l2Tops rfl ?_
  simp (disch := omega) only [C.spec_l2Tops, made_int, ↓SXd, SXu, slBounds, ↓sop, ↓aop, ↓reduceIte, LV.cells, AOp.dst, LV.I, LV.B, LV.U, LV.S, LV.nil, Nat.reduceEqDiff, Nat.reduceAdd, Nat.reduceMul, Nat.reduceSub, Nat.reduceLeDiff, Nat.reduceBEq, Nat.reduceDiv, Nat.reduceMod, Int.reduceToNat, Int.reduceLT, Int.reduceLE, Int.reduceAdd, Int.reduceSub, Int.reduceMul, Int.reduceEq, Int.reduceNeg, reduceCtorEq, resV, resAll, ARes.ev, LV.flat, ite_true, ite_false, exists_eq_left', exists_eq_left, keyOf, implies_true, fillC, capOf]
  refine ev_loop (fun m fr M' => ∃ (k : Nat) (out : List Int), k + m = cs.length ∧ M' = M ++ [some (Blk.row [.I x, .I y, .I z, .ref t o cs.length] true 0), some (.row (intL out) true 1)] ∧ fr 1 = .ptr M.length 0 ∧ fr 3 = .ref (M.length + 1) 0 (x * y).toNat ∧ fr 4 = .I k ∧
    out = (cs.take k).foldl (topStep y) (List.replicate (x * y).toNat 0) ∧ out.length = (x * y).toNat) cs.length ⟨0, _, by omega, rfl, rfl, rfl, rfl, rfl, by simp⟩ ?_
  rintro m fr M' ⟨k, out, hk, rfl, h1, h3, h4, ho, hol⟩
  have ht := h.lt
  simp (disch := omega) only [h1, h3, h4, ↓SXd, SXu, slBounds, ↓sop, ↓aop, ↓reduceIte, LV.cells, AOp.dst, LV.I, LV.B, LV.U, LV.S, LV.nil, Nat.reduceEqDiff, Nat.reduceAdd, Nat.reduceMul, Nat.reduceSub, Nat.reduceLeDiff, Nat.reduceBEq, Nat.reduceDiv, Nat.reduceMod, Int.reduceToNat, Int.reduceLT, Int.reduceLE, Int.reduceAdd, Int.reduceSub, Int.reduceMul, Int.reduceEq, Int.reduceNeg, reduceCtorEq, resV, resAll, ARes.ev, LV.flat, ite_true, ite_false, exists_eq_left', exists_eq_left, keyOf, implies_true, fillC, capOf]
  refine condC_dec (fun hlt => ?_) (fun hlt => ?_)
  · obtain ⟨ca, cb, cc⟩ := hH.cell (k := k) (by omega)
    have hS := hH.1
    obtain ⟨b1, b2, b3, b4⟩ := col_bound hS.1 hS.2.1 ca cb
    obtain ⟨_, hy, hz⟩ := hS
    simp (disch := omega) only [h1, h3, h4, getCell_app, h.get_a, h.get_b, h.get_c, intL_get, ↓SXd, SXu, slBounds, ↓sop, ↓aop, ↓reduceIte, LV.cells, AOp.dst, LV.I, LV.B, LV.U, LV.S, LV.nil, Nat.reduceEqDiff, Nat.reduceAdd, Nat.reduceMul, Nat.reduceSub, Nat.reduceLeDiff, Nat.reduceBEq, Nat.reduceDiv, Nat.reduceMod, Int.reduceToNat, Int.reduceLT, Int.reduceLE, Int.reduceAdd, Int.reduceSub, Int.reduceMul, Int.reduceEq, Int.reduceNeg, reduceCtorEq, resV, resAll, ARes.ev, LV.flat, ite_true, ite_false, exists_eq_left', exists_eq_left, keyOf, implies_true, fillC, capOf]
    refine callK_of h_l1Most ?_
    simp (disch := omega) only [h1, h3, h4, getCell_app, h.get_a, h.get_b, h.get_c, intL_get, intL_len, splice_int, ↓SXd, SXu, slBounds, ↓sop, ↓aop, ↓reduceIte, LV.cells, AOp.dst, LV.I, LV.B, LV.U, LV.S, LV.nil, Nat.reduceEqDiff, Nat.reduceAdd, Nat.reduceMul, Nat.reduceSub, Nat.reduceLeDiff, Nat.reduceBEq, Nat.reduceDiv, Nat.reduceMod, Int.reduceToNat, Int.reduceLT, Int.reduceLE, Int.reduceAdd, Int.reduceSub, Int.reduceMul, Int.reduceEq, Int.reduceNeg, reduceCtorEq, resV, resAll, ARes.ev, LV.flat, ite_true, ite_false, exists_eq_left', exists_eq_left, keyOf, implies_true, fillC, capOf]
    refine ⟨m - 1, by omega, k + 1, _, by omega, rfl, h1, h3, eqI (natI _), ?_, by simpa using hol⟩
    rw [take_succ_foldl _ _ _ _ default (by omega), ← ho]
    rfl
  · simp (disch := omega) only [h1, h3, h4, ↓SXd, SXu, slBounds, ↓sop, ↓aop, ↓reduceIte, LV.cells, AOp.dst, LV.I, LV.B, LV.U, LV.S, LV.nil, Nat.reduceEqDiff, Nat.reduceAdd, Nat.reduceMul, Nat.reduceSub, Nat.reduceLeDiff, Nat.reduceBEq, Nat.reduceDiv, Nat.reduceMod, Int.reduceToNat, Int.reduceLT, Int.reduceLE, Int.reduceAdd, Int.reduceSub, Int.reduceMul, Int.reduceEq, Int.reduceNeg, reduceCtorEq, resV, resAll, ARes.ev, LV.flat, ite_true, ite_false, exists_eq_left', exists_eq_left, keyOf, implies_true, fillC, capOf]
    have : k = cs.length := by omega
    subst this
    rw [List.take_length] at ho
    rw [show topsOf x y cs = out from ho.symm]
    exact cmp_keep1 (j := 1) rfl (intL_lo out) (by simp [rn, rn0, rn1, keepR_n])

end Go.Ab

/- The abstract code of some functions (written by a program of mine from the translation, by way of prepF). -/
namespace Go.Ab.C
open Go.Ab
def spec_l10Up : AFn :=
  ⟨2, 12, [.tmp 4],
    .seq (.ops [(none, .mv 4 (.c (.I 0)))])
    (.seq (.ops [(none, .mv 5 (.t 0)),
        (none, .mv 6 (.t 1)),
        (none, .bin 7 .sub (.t 5) (.t 6)),
        (none, .mv 8 (.t 1)),
        (none, .mv 9 (.t 0)),
        (none, .bin 10 .sub (.t 8) (.t 9)),
        (none, .call (some 11) F.spec_l1Most [(.t 7), (.t 10)]),
        (none, .mv 4 (.t 11))])
     (.ret))⟩
end Go.Ab.C

/- That the program has this code. -/
namespace Go.Ab.K
open Go Go.Ab
theorem spec_l10Up : prepF Go.Proofs.Try.prog F.spec_l10Up = some C.spec_l10Up := by kernel_rfl
end Go.Ab.K

/- Contracts: h_l10Up. -/
namespace Go.Ab
open Go
set_option linter.unusedSimpArgs false
set_option linter.unusedVariables false
set_option maxRecDepth 20000

theorem h_l10Up {a b : Int} {M : Mem} (h1 : -1000 ≤ a ∧ a ≤ 1000) (h2 : -1000 ≤ b ∧ b ≤ 1000) : CallsTo PG F.spec_l10Up [.I a, .I b] M (.I (gap a b)) M := by
  refine calls_run K.spec_l10Up rfl ?_
  simp (disch := omega) only [C.spec_l10Up, ↓SXd, SXu, slBounds, ↓sop, ↓aop, ↓reduceIte, LV.cells, AOp.dst, LV.I, LV.B, LV.U, LV.S, LV.nil, Nat.reduceEqDiff, Nat.reduceAdd, Nat.reduceMul, Nat.reduceSub, Nat.reduceLeDiff, Nat.reduceBEq, Nat.reduceDiv, Nat.reduceMod, Int.reduceToNat, Int.reduceLT, Int.reduceLE, Int.reduceAdd, Int.reduceSub, Int.reduceMul, Int.reduceEq, Int.reduceNeg, reduceCtorEq, resV, resAll, ARes.ev, LV.flat, ite_true, ite_false, exists_eq_left', exists_eq_left, keyOf, implies_true, fillC, capOf]
  refine callK_of h_l1Most ?_
  simp (disch := omega) only [↓SXd, SXu, slBounds, ↓sop, ↓aop, ↓reduceIte, LV.cells, AOp.dst, LV.I, LV.B, LV.U, LV.S, LV.nil, Nat.reduceEqDiff, Nat.reduceAdd, Nat.reduceMul, Nat.reduceSub, Nat.reduceLeDiff, Nat.reduceBEq, Nat.reduceDiv, Nat.reduceMod, Int.reduceToNat, Int.reduceLT, Int.reduceLE, Int.reduceAdd, Int.reduceSub, Int.reduceMul, Int.reduceEq, Int.reduceNeg, reduceCtorEq, resV, resAll, ARes.ev, LV.flat, ite_true, ite_false, exists_eq_left', exists_eq_left, keyOf, implies_true, fillC, capOf]
  exact cmp_drop0 rfl
end Go.Ab

/- Contracts: h_l10Next. -/
namespace Go.Ab
open Go
set_option linter.unusedSimpArgs false
set_option linter.unusedVariables false
set_option maxRecDepth 20000

theorem h_l10Next {x y z p : Int} {v : LV} {M : Mem} (hS : Sides x y z) (hp : 0 ≤ p ∧ p ≤ x * y - 1) :
    CallsTo PG F.spec_l10Next [.agg [.I x, .I y, .I z, v], .I p] M (.ref M.length 0 (nexts x y p).length) (M ++ [some (.row (intL (nexts x y p)) true 1)]) := by
  have hb := mul_bound hS.1 hS.2.1
  obtain ⟨hx, hy, hz⟩ := hS
  have hdp := div_bound hy (p := p) (by omega)
  refine calls_run K.spec_l10Next rfl ?_
  simp (disch := omega) only [C.spec_l10Next, fillC, ↓SXd, SXu, slBounds, ↓sop, ↓aop, ↓reduceIte, LV.cells, AOp.dst, LV.I, LV.B, LV.U, LV.S, LV.nil, Nat.reduceEqDiff, Nat.reduceAdd, Nat.reduceMul, Nat.reduceSub, Nat.reduceLeDiff, Nat.reduceBEq, Nat.reduceDiv, Nat.reduceMod, Int.reduceToNat, Int.reduceLT, Int.reduceLE, Int.reduceAdd, Int.reduceSub, Int.reduceMul, Int.reduceEq, Int.reduceNeg, reduceCtorEq, resV, resAll, ARes.ev, LV.flat, ite_true, ite_false, exists_eq_left', exists_eq_left, keyOf, implies_true, fillC, capOf]

  refine ev_loop (fun m fr M' => ∃ (k t : Nat) (acc : List Int), k + m = (x * y).toNat ∧ Pre M M' ∧ Live M' M.length (.row [.I x, .I y, .I z, v] true 0) ∧ M.length < t ∧ Live M' t (.row (intL acc) true 1) ∧
    fr 1 = .I p ∧ fr 2 = .ptr M.length 0 ∧ fr 5 = .ref t 0 acc.length ∧ fr 6 = .I k ∧ acc = (nums k).filter (fun q => decide (apart (colOf y p) (colOf y q) = 1))) (x * y).toNat
    ⟨0, M.length + 1, [], by omega, Pre.app _ _, Live.new, by omega, Live.newj rfl, rfl, rfl, rfl, rfl, rfl⟩ ?_
  rintro m fr M' ⟨k, t, acc, hk, hpre, hbox, ht, hout, h1, h2, h5, h6, hacc⟩
  simp (disch := omega) only [h1, h2, h5, h6, hbox.cell, ↓SXd, SXu, slBounds, ↓sop, ↓aop, ↓reduceIte, LV.cells, AOp.dst, LV.I, LV.B, LV.U, LV.S, LV.nil, Nat.reduceEqDiff, Nat.reduceAdd, Nat.reduceMul, Nat.reduceSub, Nat.reduceLeDiff, Nat.reduceBEq, Nat.reduceDiv, Nat.reduceMod, Int.reduceToNat, Int.reduceLT, Int.reduceLE, Int.reduceAdd, Int.reduceSub, Int.reduceMul, Int.reduceEq, Int.reduceNeg, reduceCtorEq, resV, resAll, ARes.ev, LV.flat, ite_true, ite_false, exists_eq_left', exists_eq_left, keyOf, implies_true, fillC, capOf]
  refine condC_dec (fun hlt => ?_) (fun hlt => ?_)
  · have hdk := div_bound hy (p := (k : Int)) (by omega)
    have hal : acc.length ≤ 1000 := by
      rw [hacc]
      have := List.length_filter_le (fun q => decide (apart (colOf y p) (colOf y q) = 1)) (nums k)
      rw [nums_len] at this
      omega
    have hy0 : y ≠ 0 := by omega
    simp (disch := omega) only [h1, h2, h5, h6, hbox.cell, fillC, splice, hy0, not_false_eq_true, ne_eq, ↓SXd, SXu, slBounds, ↓sop, ↓aop, ↓reduceIte, LV.cells, AOp.dst, LV.I, LV.B, LV.U, LV.S, LV.nil, Nat.reduceEqDiff, Nat.reduceAdd, Nat.reduceMul, Nat.reduceSub, Nat.reduceLeDiff, Nat.reduceBEq, Nat.reduceDiv, Nat.reduceMod, Int.reduceToNat, Int.reduceLT, Int.reduceLE, Int.reduceAdd, Int.reduceSub, Int.reduceMul, Int.reduceEq, Int.reduceNeg, reduceCtorEq, resV, resAll, ARes.ev, LV.flat, ite_true, ite_false, exists_eq_left', exists_eq_left, keyOf, implies_true, fillC, capOf]
    refine callK_of (h_l2Apart (by omega) (by omega) (by omega) (by omega) (by omega) (by omega)) ?_
    simp (disch := omega) only [h1, h2, h5, h6, ↓SXd, SXu, slBounds, ↓sop, ↓aop, ↓reduceIte, LV.cells, AOp.dst, LV.I, LV.B, LV.U, LV.S, LV.nil, Nat.reduceEqDiff, Nat.reduceAdd, Nat.reduceMul, Nat.reduceSub, Nat.reduceLeDiff, Nat.reduceBEq, Nat.reduceDiv, Nat.reduceMod, Int.reduceToNat, Int.reduceLT, Int.reduceLE, Int.reduceAdd, Int.reduceSub, Int.reduceMul, Int.reduceEq, Int.reduceNeg, reduceCtorEq, resV, resAll, ARes.ev, LV.flat, ite_true, ite_false, exists_eq_left', exists_eq_left, keyOf, implies_true, fillC, capOf]
    refine condC_dec (fun he => ?_) (fun he => ?_)
    · simp (disch := omega) only [h1, h2, h5, h6, fillC, splice, ↓SXd, SXu, slBounds, ↓sop, ↓aop, ↓reduceIte, LV.cells, AOp.dst, LV.I, LV.B, LV.U, LV.S, LV.nil, Nat.reduceEqDiff, Nat.reduceAdd, Nat.reduceMul, Nat.reduceSub, Nat.reduceLeDiff, Nat.reduceBEq, Nat.reduceDiv, Nat.reduceMod, Int.reduceToNat, Int.reduceLT, Int.reduceLE, Int.reduceAdd, Int.reduceSub, Int.reduceMul, Int.reduceEq, Int.reduceNeg, reduceCtorEq, resV, resAll, ARes.ev, LV.flat, ite_true, ite_false, exists_eq_left', exists_eq_left, keyOf, implies_true, fillC, capOf]
      refine appendK_int hout (by omega) fun M'' l1 l2 l3 => ?_
      simp (disch := omega) only [h1, h2, h5, h6, ↓SXd, SXu, slBounds, ↓sop, ↓aop, ↓reduceIte, LV.cells, AOp.dst, LV.I, LV.B, LV.U, LV.S, LV.nil, Nat.reduceEqDiff, Nat.reduceAdd, Nat.reduceMul, Nat.reduceSub, Nat.reduceLeDiff, Nat.reduceBEq, Nat.reduceDiv, Nat.reduceMod, Int.reduceToNat, Int.reduceLT, Int.reduceLE, Int.reduceAdd, Int.reduceSub, Int.reduceMul, Int.reduceEq, Int.reduceNeg, reduceCtorEq, resV, resAll, ARes.ev, LV.flat, ite_true, ite_false, exists_eq_left', exists_eq_left, keyOf, implies_true, fillC, capOf]
      refine ⟨m - 1, by omega, k + 1, _, _, by omega, pre_step hpre (by omega) l1 l3, live_step hbox (by omega) l3, ?_, l2, h1, h2, rfl, eqI (natI _), ?_⟩
      · have := hpre.1; omega
      · rw [nums_succ, List.filter_append, ← hacc]
        congr 1
        rw [List.filter_cons_of_pos (by simpa [colOf] using he)]; rfl
    · simp (disch := omega) only [h1, h2, h5, h6, ↓SXd, SXu, slBounds, ↓sop, ↓aop, ↓reduceIte, LV.cells, AOp.dst, LV.I, LV.B, LV.U, LV.S, LV.nil, Nat.reduceEqDiff, Nat.reduceAdd, Nat.reduceMul, Nat.reduceSub, Nat.reduceLeDiff, Nat.reduceBEq, Nat.reduceDiv, Nat.reduceMod, Int.reduceToNat, Int.reduceLT, Int.reduceLE, Int.reduceAdd, Int.reduceSub, Int.reduceMul, Int.reduceEq, Int.reduceNeg, reduceCtorEq, resV, resAll, ARes.ev, LV.flat, ite_true, ite_false, exists_eq_left', exists_eq_left, keyOf, implies_true, fillC, capOf]
      refine ⟨m - 1, by omega, k + 1, t, acc, by omega, hpre, hbox, ht, hout, h1, h2, h5, eqI (natI _), ?_⟩
      rw [nums_succ, List.filter_append, ← hacc, List.filter_cons_of_neg (by simpa [colOf] using he)]; simp
  · simp (disch := omega) only [h1, h2, h5, h6, ↓SXd, SXu, slBounds, ↓sop, ↓aop, ↓reduceIte, LV.cells, AOp.dst, LV.I, LV.B, LV.U, LV.S, LV.nil, Nat.reduceEqDiff, Nat.reduceAdd, Nat.reduceMul, Nat.reduceSub, Nat.reduceLeDiff, Nat.reduceBEq, Nat.reduceDiv, Nat.reduceMod, Int.reduceToNat, Int.reduceLT, Int.reduceLE, Int.reduceAdd, Int.reduceSub, Int.reduceMul, Int.reduceEq, Int.reduceNeg, reduceCtorEq, resV, resAll, ARes.ev, LV.flat, ite_true, ite_false, exists_eq_left', exists_eq_left, keyOf, implies_true, fillC, capOf]
    have : k = (x * y).toNat := by omega
    subst this
    rw [show nexts x y p = acc from hacc.symm]
    exact cmp_keepL hpre (by omega) hout (intL_lo acc) (by simp [rn, rn0, rn1])
end Go.Ab

/- The abstract code of some functions (written by a program of mine from the translation, by way of prepF). -/
namespace Go.Ab.C
open Go.Ab
def spec_l10Column : AFn :=
  ⟨2, 17, [.tmp 4],
    .seq (.ops [(none, .box 2 (.t 0)),
       (none, .mv 4 (.c (.B false)))])
    (.seq (.ops [(none, .loadN 5 4 (.t 2)),
        (none, .call (some 6) F.spec_l2Heap [(.t 5)]),
        (none, .mv 7 (.t 6)),
        (some (7, true), .mv 8 (.t 1)),
        (some (7, true), .fieldAddr 9 (.t 2) 0),
        (some (7, true), .load1 10 (.t 9)),
        (some (7, true), .fieldAddr 11 (.t 2) 1),
        (some (7, true), .load1 12 (.t 11)),
        (some (7, true), .bin 13 .mul (.t 10) (.t 12)),
        (some (7, true), .bin 14 .sub (.t 13) (.c (.I 1))),
        (some (7, true), .call (some 15) F.spec_l1In [(.t 8), (.c (.I 0)), (.t 14)]),
        (none, .pick 16 (.t 7) (.t 15) (.c (.B false))),
        (none, .mv 4 (.t 16))])
     (.ret))⟩
end Go.Ab.C

/- That the program has this code. -/
namespace Go.Ab.K
open Go Go.Ab
theorem spec_l10Column : prepF Go.Proofs.Try.prog F.spec_l10Column = some C.spec_l10Column := by kernel_rfl
end Go.Ab.K

/- Contracts: h_l10Column. -/
namespace Go.Ab
open Go
set_option linter.unusedSimpArgs false
set_option linter.unusedVariables false
set_option maxRecDepth 20000

theorem h_l10Column {x y z p : Int} {t o : Nat} {cs : List Cell} {M : Mem} (h : Tri M t o cs) (hn : cs.length ≤ 1000000000) :
    CallsTo PG F.spec_l10Column [.agg [.I x, .I y, .I z, .ref t o cs.length], .I p] M (.B (decide (HeapOK x y z cs ∧ (0 ≤ p ∧ p ≤ x * y - 1)))) M := by
  refine calls_run K.spec_l10Column rfl ?_
  simp (disch := omega) only [C.spec_l10Column, ↓SXd, SXu, slBounds, ↓sop, ↓aop, ↓reduceIte, LV.cells, AOp.dst, LV.I, LV.B, LV.U, LV.S, LV.nil, Nat.reduceEqDiff, Nat.reduceAdd, Nat.reduceMul, Nat.reduceSub, Nat.reduceLeDiff, Nat.reduceBEq, Nat.reduceDiv, Nat.reduceMod, Int.reduceToNat, Int.reduceLT, Int.reduceLE, Int.reduceAdd, Int.reduceSub, Int.reduceMul, Int.reduceEq, Int.reduceNeg, reduceCtorEq, resV, resAll, ARes.ev, LV.flat, ite_true, ite_false, exists_eq_left', exists_eq_left, keyOf, implies_true, fillC, capOf]
  refine callK_of (h_l2Heap h.app hn) ?_
  by_cases hH : HeapOK x y z cs
  · have hb := mul_bound hH.1.1 hH.1.2.1
    simp (disch := omega) only [hH, ↓SXd, SXu, slBounds, ↓sop, ↓aop, ↓reduceIte, LV.cells, AOp.dst, LV.I, LV.B, LV.U, LV.S, LV.nil, Nat.reduceEqDiff, Nat.reduceAdd, Nat.reduceMul, Nat.reduceSub, Nat.reduceLeDiff, Nat.reduceBEq, Nat.reduceDiv, Nat.reduceMod, Int.reduceToNat, Int.reduceLT, Int.reduceLE, Int.reduceAdd, Int.reduceSub, Int.reduceMul, Int.reduceEq, Int.reduceNeg, reduceCtorEq, resV, resAll, ARes.ev, LV.flat, ite_true, ite_false, exists_eq_left', exists_eq_left, keyOf, implies_true, fillC, capOf]
    refine callK_of h_l1In ?_
    simp (disch := omega) only [hH, ↓SXd, SXu, slBounds, ↓sop, ↓aop, ↓reduceIte, LV.cells, AOp.dst, LV.I, LV.B, LV.U, LV.S, LV.nil, Nat.reduceEqDiff, Nat.reduceAdd, Nat.reduceMul, Nat.reduceSub, Nat.reduceLeDiff, Nat.reduceBEq, Nat.reduceDiv, Nat.reduceMod, Int.reduceToNat, Int.reduceLT, Int.reduceLE, Int.reduceAdd, Int.reduceSub, Int.reduceMul, Int.reduceEq, Int.reduceNeg, reduceCtorEq, resV, resAll, ARes.ev, LV.flat, ite_true, ite_false, exists_eq_left', exists_eq_left, keyOf, implies_true, fillC, capOf]
    exact cmp_drop rfl
  · simp (disch := omega) only [hH, false_and, ↓SXd, SXu, slBounds, ↓sop, ↓aop, ↓reduceIte, LV.cells, AOp.dst, LV.I, LV.B, LV.U, LV.S, LV.nil, Nat.reduceEqDiff, Nat.reduceAdd, Nat.reduceMul, Nat.reduceSub, Nat.reduceLeDiff, Nat.reduceBEq, Nat.reduceDiv, Nat.reduceMod, Int.reduceToNat, Int.reduceLT, Int.reduceLE, Int.reduceAdd, Int.reduceSub, Int.reduceMul, Int.reduceEq, Int.reduceNeg, reduceCtorEq, resV, resAll, ARes.ev, LV.flat, ite_true, ite_false, exists_eq_left', exists_eq_left, keyOf, implies_true, fillC, capOf]
    exact cmp_drop rfl

end Go.Ab
