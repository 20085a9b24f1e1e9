/- Parts of the proof of FnExactSpareCellsSaid: Nb Uc Ud Ug C_Ue K_Ue Ue Va C_Um K_Um C_Ul K_Ul C_Uk K_Uk C_Uj K_Uj C_Ui K_Ui C_Uh K_Uh C_Tc K_Tc C_Tb K_Tb Ge Ta. -/
import Derived.Test.YtjpdjjeddagjlaaA6
import Derived.Test.YtjpdjjeddagjlaaA4
import Derived.Test.YtjpdjjeddagjlaaA3
import Derived.Test.YtjpdjjeddagjlaaProg
import Derived.KernelRfl
import Derived.Test.YtjpdjjeddagjlaaA5
set_option linter.all false
/- Contracts: the program's boxes, cells and sets. -/
namespace Go.Ab
open Go
set_option linter.unusedSimpArgs false
set_option linter.unusedVariables false

theorem set_bit {s : BitVec 64} {n : Nat} : decide (s >>> n &&& 1#64 = 1#64) = s.getLsbD n := by
  have : (s >>> n &&& 1#64 = 1#64) ↔ s.getLsbD n = true := by
    constructor
    · intro h
      have := congrArg (fun t => BitVec.getLsbD t 0) h
      simpa using this
    · intro h
      apply BitVec.eq_of_getLsbD_eq
      intro i hi
      rw [BitVec.getLsbD_and, BitVec.getLsbD_one]
      by_cases h0 : i = 0
      · subst h0; simp [h]
      · simp [h0]
  by_cases h : s.getLsbD n = true
  · rw [h, decide_eq_true (this.2 h)]
  · rw [decide_eq_false (fun e => h (this.1 e))]; simpa using h

theorem g_has_set {s : BitVec 64} {i : Int} {M : Mem} (hi : 0 ≤ i) : CallsTo PG F.impl_set_has [.W s, .I i] M (.B (s.getLsbD i.toNat)) M := by
  refine calls_run K.impl_set_has rfl ?_
  simp (disch := omega) only [C.impl_set_has, set_bit, ↓SXd, SXu, slBounds, ↓sop, ↓aop, ↓reduceIte, LV.cells, AOp.dst, LV.I, LV.B, LV.U, LV.S, LV.nil, Nat.reduceEqDiff, Nat.reduceAdd, Nat.reduceMul, Nat.reduceSub, Nat.reduceLeDiff, Nat.reduceBEq, Nat.reduceDiv, Nat.reduceMod, Int.reduceToNat, Int.reduceLT, Int.reduceLE, Int.reduceAdd, Int.reduceSub, Int.reduceMul, Int.reduceEq, Int.reduceNeg, reduceCtorEq, resV, resAll, ARes.ev, LV.flat, ite_true, ite_false, exists_eq_left', exists_eq_left, keyOf, implies_true, fillC, capOf]
  exact cmp_drop0 rfl

section
variable {x y z : Int} (hS : Sides x y z)
include hS

theorem g_size {M : Mem} : CallsTo PG F.impl_box_size [.agg [.I x, .I y, .I z]] M (.I ((vol x y z : Nat) : Int)) M := by
  have hb := vol_bound hS
  have hv := vol_cast hS
  refine calls_run K.impl_box_size rfl ?_
  simp (disch := omega) only [C.impl_box_size, ↓SXd, SXu, slBounds, ↓sop, ↓aop, ↓reduceIte, LV.cells, AOp.dst, LV.I, LV.B, LV.U, LV.S, LV.nil, Nat.reduceEqDiff, Nat.reduceAdd, Nat.reduceMul, Nat.reduceSub, Nat.reduceLeDiff, Nat.reduceBEq, Nat.reduceDiv, Nat.reduceMod, Int.reduceToNat, Int.reduceLT, Int.reduceLE, Int.reduceAdd, Int.reduceSub, Int.reduceMul, Int.reduceEq, Int.reduceNeg, reduceCtorEq, resV, resAll, ARes.ev, LV.flat, ite_true, ite_false, exists_eq_left', exists_eq_left, keyOf, implies_true, fillC, capOf]
  rw [hv.1]
  exact cmp_drop rfl

theorem g_index {c : Cell} {M : Mem} (hc : c.inBox x y z) : CallsTo PG F.impl_box_index [.agg [.I x, .I y, .I z], .agg [.I c.a, .I c.b, .I c.c]] M (.I (idx y z c)) M := by
  have hb := vol_bound hS
  have hi := idx_in hS hc
  obtain ⟨hx, hy, hz⟩ := id hS
  obtain ⟨h1, h2, h3⟩ := id hc
  have k1 : 0 ≤ c.a * y ∧ c.a * y ≤ 16 := by
    have e2 : y = 1 ∨ y = 2 ∨ y = 3 ∨ y = 4 := by omega
    rcases e2 with rfl | rfl | rfl | rfl <;> omega
  have k2 : 0 ≤ (c.a * y + c.b) * z ∧ (c.a * y + c.b) * z ≤ 100 := by
    have e3 : z = 1 ∨ z = 2 ∨ z = 3 ∨ z = 4 := by omega
    rcases e3 with rfl | rfl | rfl | rfl <;> omega
  refine calls_run K.impl_box_index rfl ?_
  simp (disch := omega) only [C.impl_box_index, ↓SXd, SXu, slBounds, ↓sop, ↓aop, ↓reduceIte, LV.cells, AOp.dst, LV.I, LV.B, LV.U, LV.S, LV.nil, Nat.reduceEqDiff, Nat.reduceAdd, Nat.reduceMul, Nat.reduceSub, Nat.reduceLeDiff, Nat.reduceBEq, Nat.reduceDiv, Nat.reduceMod, Int.reduceToNat, Int.reduceLT, Int.reduceLE, Int.reduceAdd, Int.reduceSub, Int.reduceMul, Int.reduceEq, Int.reduceNeg, reduceCtorEq, resV, resAll, ARes.ev, LV.flat, ite_true, ite_false, exists_eq_left', exists_eq_left, keyOf, implies_true, fillC, capOf]
  exact cmp_drop rfl

theorem g_cell {i : Int} {M : Mem} (h0 : 0 ≤ i) (hi : i < x * y * z) : CallsTo PG F.impl_box_cell [.agg [.I x, .I y, .I z], .I i] M (.agg [.I (cellAt y z i).a, .I (cellAt y z i).b, .I (cellAt y z i).c]) M := by
  have hb := vol_bound hS
  obtain ⟨hx, hy, hz⟩ := id hS
  have hy0 : y ≠ 0 := by omega
  have hz0 : z ≠ 0 := by omega
  have q1 : 0 ≤ i.tdiv z ∧ i.tdiv z ≤ 100 := by
    rw [Int.tdiv_eq_ediv_of_nonneg h0]
    exact ⟨Int.ediv_nonneg h0 (by omega), Int.le_trans (Int.ediv_le_self z h0) (by omega)⟩
  have q2 : 0 ≤ (i.tdiv z).tdiv y ∧ (i.tdiv z).tdiv y ≤ 100 := by
    rw [Int.tdiv_eq_ediv_of_nonneg q1.1]
    exact ⟨Int.ediv_nonneg q1.1 (by omega), Int.le_trans (Int.ediv_le_self y q1.1) (by omega)⟩
  have q3 : 0 ≤ (i.tdiv z).tmod y ∧ (i.tdiv z).tmod y ≤ 100 := by
    rw [Int.tmod_eq_emod_of_nonneg q1.1]
    have := Int.emod_lt_of_pos (i.tdiv z) (show 0 < y by omega)
    exact ⟨Int.emod_nonneg _ hy0, by omega⟩
  have q4 : 0 ≤ i.tmod z ∧ i.tmod z ≤ 100 := by
    rw [Int.tmod_eq_emod_of_nonneg h0]
    have := Int.emod_lt_of_pos i (show 0 < z by omega)
    exact ⟨Int.emod_nonneg _ hz0, by omega⟩
  refine calls_run K.impl_box_cell rfl ?_
  simp (disch := omega) only [C.impl_box_cell, ne_eq, not_false_eq_true, hy0, hz0, splice, ↓SXd, SXu, slBounds, ↓sop, ↓aop, ↓reduceIte, LV.cells, AOp.dst, LV.I, LV.B, LV.U, LV.S, LV.nil, Nat.reduceEqDiff, Nat.reduceAdd, Nat.reduceMul, Nat.reduceSub, Nat.reduceLeDiff, Nat.reduceBEq, Nat.reduceDiv, Nat.reduceMod, Int.reduceToNat, Int.reduceLT, Int.reduceLE, Int.reduceAdd, Int.reduceSub, Int.reduceMul, Int.reduceEq, Int.reduceNeg, reduceCtorEq, resV, resAll, ARes.ev, LV.flat, ite_true, ite_false, exists_eq_left', exists_eq_left, keyOf, implies_true, fillC, capOf]
  exact cmp_drop rfl

theorem range_pick_step {p : Cell → Bool} {k : Nat} : ((List.range (k + 1)).map fun (i : Nat) => cellAt y z i).filter p = ((List.range k).map fun (i : Nat) => cellAt y z i).filter p ++ (if p (cellAt y z k) then [cellAt y z k] else []) := by
  rw [List.range_succ, List.map_append, List.filter_append]
  congr 1
  by_cases h : p (cellAt y z k) = true
  · simp [h]
  · simp [h]

theorem g_list {p : Cell → Bool} {M : Mem} : CallsTo PG F.impl_box_list [.agg [.I x, .I y, .I z], .W (bs x y z p)] M (.ref M.length 0 (pick x y z p).length) (M ++ [some (.row (triL (pick x y z p)) true 3)]) := by
  have hv := vol_cast hS
  refine calls_run K.impl_box_list rfl ?_
  simp (disch := omega) only [C.impl_box_list, ↓SXd, SXu, slBounds, ↓sop, ↓aop, ↓reduceIte, LV.cells, AOp.dst, LV.I, LV.B, LV.U, LV.S, LV.nil, Nat.reduceEqDiff, Nat.reduceAdd, Nat.reduceMul, Nat.reduceSub, Nat.reduceLeDiff, Nat.reduceBEq, Nat.reduceDiv, Nat.reduceMod, Int.reduceToNat, Int.reduceLT, Int.reduceLE, Int.reduceAdd, Int.reduceSub, Int.reduceMul, Int.reduceEq, Int.reduceNeg, reduceCtorEq, resV, resAll, ARes.ev, LV.flat, ite_true, ite_false, exists_eq_left', exists_eq_left, keyOf, implies_true, fillC, capOf]
  refine callK_of (g_size hS) ?_
  simp (disch := omega) only [↓SXd, SXu, slBounds, ↓sop, ↓aop, ↓reduceIte, LV.cells, AOp.dst, LV.I, LV.B, LV.U, LV.S, LV.nil, Nat.reduceEqDiff, Nat.reduceAdd, Nat.reduceMul, Nat.reduceSub, Nat.reduceLeDiff, Nat.reduceBEq, Nat.reduceDiv, Nat.reduceMod, Int.reduceToNat, Int.reduceLT, Int.reduceLE, Int.reduceAdd, Int.reduceSub, Int.reduceMul, Int.reduceEq, Int.reduceNeg, reduceCtorEq, resV, resAll, ARes.ev, LV.flat, ite_true, ite_false, exists_eq_left', exists_eq_left, keyOf, implies_true, fillC, capOf]
  refine ev_loop (fun m fr M' => ∃ (k u : Nat) (acc : List Cell), k + m = vol x y z ∧ acc = ((List.range k).map fun (i : Nat) => cellAt y z i).filter p ∧ Pre M M' ∧ Live M' M.length (.row [.I x, .I y, .I z] true 0) ∧ M.length + 1 ≤ u ∧ Live M' u (.row (triL acc) true 3) ∧
    fr 1 = .W (bs x y z p) ∧ fr 2 = .ptr M.length 0 ∧ fr 5 = .ref u 0 acc.length ∧ fr 9 = .I ((vol x y z : Nat) : Int) ∧ fr 10 = .I k) (vol x y z)
    ⟨0, M.length + 1, [], by omega, rfl, Pre.app _ _, Live.new, by omega, Live.newj rfl, rfl, rfl, rfl, rfl, rfl⟩ ?_
  rintro m fr M' ⟨k, u, acc, hk, hacc, hpre, hbox, hu, hout, f1, f2, f5, f9, f10⟩
  have hal : acc.length ≤ k := by
    rw [hacc]
    exact Nat.le_trans (List.length_filter_le _ _) (by simp)
  simp (disch := omega) only [f1, f2, f5, f9, f10, ↓SXd, SXu, slBounds, ↓sop, ↓aop, ↓reduceIte, LV.cells, AOp.dst, LV.I, LV.B, LV.U, LV.S, LV.nil, Nat.reduceEqDiff, Nat.reduceAdd, Nat.reduceMul, Nat.reduceSub, Nat.reduceLeDiff, Nat.reduceBEq, Nat.reduceDiv, Nat.reduceMod, Int.reduceToNat, Int.reduceLT, Int.reduceLE, Int.reduceAdd, Int.reduceSub, Int.reduceMul, Int.reduceEq, Int.reduceNeg, reduceCtorEq, resV, resAll, ARes.ev, LV.flat, ite_true, ite_false, exists_eq_left', exists_eq_left, keyOf, implies_true, fillC, capOf]
  refine condC_dec (fun hlt => ?_) (fun hlt => ?_)
  · simp (disch := omega) only [f1, f2, f5, f9, f10, ↓SXd, SXu, slBounds, ↓sop, ↓aop, ↓reduceIte, LV.cells, AOp.dst, LV.I, LV.B, LV.U, LV.S, LV.nil, Nat.reduceEqDiff, Nat.reduceAdd, Nat.reduceMul, Nat.reduceSub, Nat.reduceLeDiff, Nat.reduceBEq, Nat.reduceDiv, Nat.reduceMod, Int.reduceToNat, Int.reduceLT, Int.reduceLE, Int.reduceAdd, Int.reduceSub, Int.reduceMul, Int.reduceEq, Int.reduceNeg, reduceCtorEq, resV, resAll, ARes.ev, LV.flat, ite_true, ite_false, exists_eq_left', exists_eq_left, keyOf, implies_true, fillC, capOf]
    refine callK_of (g_has_set (by omega)) ?_
    simp (disch := omega) only [f1, f2, f5, f9, f10, ↓SXd, SXu, slBounds, ↓sop, ↓aop, ↓reduceIte, LV.cells, AOp.dst, LV.I, LV.B, LV.U, LV.S, LV.nil, Nat.reduceEqDiff, Nat.reduceAdd, Nat.reduceMul, Nat.reduceSub, Nat.reduceLeDiff, Nat.reduceBEq, Nat.reduceDiv, Nat.reduceMod, Int.reduceToNat, Int.reduceLT, Int.reduceLE, Int.reduceAdd, Int.reduceSub, Int.reduceMul, Int.reduceEq, Int.reduceNeg, reduceCtorEq, resV, resAll, ARes.ev, LV.flat, ite_true, ite_false, exists_eq_left', exists_eq_left, keyOf, implies_true, fillC, capOf]
    have hst := range_pick_step hS (p := p) (k := k)
    have hbit := bs_bit hS p k
    rw [decide_eq_true (show k < vol x y z by omega), Bool.true_and] at hbit
    rw [hbit]
    by_cases hp : p (cellAt y z k) = true
    · rw [hp]
      rw [hp, if_pos rfl, ← hacc] at hst
      simp (disch := omega) only [f1, f2, f5, f9, f10, hbox.cells, ↓SXd, SXu, slBounds, ↓sop, ↓aop, ↓reduceIte, LV.cells, AOp.dst, LV.I, LV.B, LV.U, LV.S, LV.nil, Nat.reduceEqDiff, Nat.reduceAdd, Nat.reduceMul, Nat.reduceSub, Nat.reduceLeDiff, Nat.reduceBEq, Nat.reduceDiv, Nat.reduceMod, Int.reduceToNat, Int.reduceLT, Int.reduceLE, Int.reduceAdd, Int.reduceSub, Int.reduceMul, Int.reduceEq, Int.reduceNeg, reduceCtorEq, resV, resAll, ARes.ev, LV.flat, ite_true, ite_false, exists_eq_left', exists_eq_left, keyOf, implies_true, fillC, capOf]
      refine callK_of (g_cell hS (by omega) (by omega)) ?_
      simp (disch := omega) only [f1, f2, f5, f9, f10, ↓SXd, SXu, slBounds, ↓sop, ↓aop, ↓reduceIte, LV.cells, AOp.dst, LV.I, LV.B, LV.U, LV.S, LV.nil, Nat.reduceEqDiff, Nat.reduceAdd, Nat.reduceMul, Nat.reduceSub, Nat.reduceLeDiff, Nat.reduceBEq, Nat.reduceDiv, Nat.reduceMod, Int.reduceToNat, Int.reduceLT, Int.reduceLE, Int.reduceAdd, Int.reduceSub, Int.reduceMul, Int.reduceEq, Int.reduceNeg, reduceCtorEq, resV, resAll, ARes.ev, LV.flat, ite_true, ite_false, exists_eq_left', exists_eq_left, keyOf, implies_true, fillC, capOf]
      refine appendK_cell hout (by omega) fun N' l1 l2 l3 => ?_
      simp (disch := omega) only [f1, f2, f5, f9, f10, ↓SXd, SXu, slBounds, ↓sop, ↓aop, ↓reduceIte, LV.cells, AOp.dst, LV.I, LV.B, LV.U, LV.S, LV.nil, Nat.reduceEqDiff, Nat.reduceAdd, Nat.reduceMul, Nat.reduceSub, Nat.reduceLeDiff, Nat.reduceBEq, Nat.reduceDiv, Nat.reduceMod, Int.reduceToNat, Int.reduceLT, Int.reduceLE, Int.reduceAdd, Int.reduceSub, Int.reduceMul, Int.reduceEq, Int.reduceNeg, reduceCtorEq, resV, resAll, ARes.ev, LV.flat, ite_true, ite_false, exists_eq_left', exists_eq_left, keyOf, implies_true, fillC, capOf]
      exact ⟨m - 1, by omega, k + 1, _, _, by omega, hst.symm, pre_step hpre (by omega) l1 l3, live_step hbox (by omega) l3, by have := hpre.1; omega, l2, f1, f2, rfl, f9, eqI (natI _)⟩
    · have hp' : p (cellAt y z k) = false := by simpa using hp
      rw [hp']
      rw [hp', if_neg (by simp), List.append_nil, ← hacc] at hst
      simp (disch := omega) only [f1, f2, f5, f9, f10, ↓SXd, SXu, slBounds, ↓sop, ↓aop, ↓reduceIte, LV.cells, AOp.dst, LV.I, LV.B, LV.U, LV.S, LV.nil, Nat.reduceEqDiff, Nat.reduceAdd, Nat.reduceMul, Nat.reduceSub, Nat.reduceLeDiff, Nat.reduceBEq, Nat.reduceDiv, Nat.reduceMod, Int.reduceToNat, Int.reduceLT, Int.reduceLE, Int.reduceAdd, Int.reduceSub, Int.reduceMul, Int.reduceEq, Int.reduceNeg, reduceCtorEq, resV, resAll, ARes.ev, LV.flat, ite_true, ite_false, exists_eq_left', exists_eq_left, keyOf, implies_true, fillC, capOf]
      exact ⟨m - 1, by omega, k + 1, u, acc, by omega, hst.symm, hpre, hbox, hu, hout, f1, f2, f5, f9, eqI (natI _)⟩
  · simp (disch := omega) only [f1, f2, f5, f9, f10, ↓SXd, SXu, slBounds, ↓sop, ↓aop, ↓reduceIte, LV.cells, AOp.dst, LV.I, LV.B, LV.U, LV.S, LV.nil, Nat.reduceEqDiff, Nat.reduceAdd, Nat.reduceMul, Nat.reduceSub, Nat.reduceLeDiff, Nat.reduceBEq, Nat.reduceDiv, Nat.reduceMod, Int.reduceToNat, Int.reduceLT, Int.reduceLE, Int.reduceAdd, Int.reduceSub, Int.reduceMul, Int.reduceEq, Int.reduceNeg, reduceCtorEq, resV, resAll, ARes.ev, LV.flat, ite_true, ite_false, exists_eq_left', exists_eq_left, keyOf, implies_true, fillC, capOf]
    have : k = vol x y z := by omega
    subst this
    have e : pick x y z p = acc := hacc.symm
    rw [e]
    exact cmp_keepL hpre (by omega) hout (triL_lo acc) (by simp [rn, rn0, rn1])

theorem g_heap {p : Cell → Bool} {M : Mem} : CallsTo PG F.impl_box_heap [.agg [.I x, .I y, .I z], .W (bs x y z p)] M (.agg [.I x, .I y, .I z, .ref M.length 0 (pick x y z p).length]) (M ++ [some (.row (triL (pick x y z p)) true 3)]) := by
  refine calls_run K.impl_box_heap rfl ?_
  simp (disch := omega) only [C.impl_box_heap, ↓SXd, SXu, slBounds, ↓sop, ↓aop, ↓reduceIte, LV.cells, AOp.dst, LV.I, LV.B, LV.U, LV.S, LV.nil, Nat.reduceEqDiff, Nat.reduceAdd, Nat.reduceMul, Nat.reduceSub, Nat.reduceLeDiff, Nat.reduceBEq, Nat.reduceDiv, Nat.reduceMod, Int.reduceToNat, Int.reduceLT, Int.reduceLE, Int.reduceAdd, Int.reduceSub, Int.reduceMul, Int.reduceEq, Int.reduceNeg, reduceCtorEq, resV, resAll, ARes.ev, LV.flat, ite_true, ite_false, exists_eq_left', exists_eq_left, keyOf, implies_true, fillC, capOf]
  refine callK_of (g_list hS) ?_
  simp (disch := omega) only [splice, ↓SXd, SXu, slBounds, ↓sop, ↓aop, ↓reduceIte, LV.cells, AOp.dst, LV.I, LV.B, LV.U, LV.S, LV.nil, Nat.reduceEqDiff, Nat.reduceAdd, Nat.reduceMul, Nat.reduceSub, Nat.reduceLeDiff, Nat.reduceBEq, Nat.reduceDiv, Nat.reduceMod, Int.reduceToNat, Int.reduceLT, Int.reduceLE, Int.reduceAdd, Int.reduceSub, Int.reduceMul, Int.reduceEq, Int.reduceNeg, reduceCtorEq, resV, resAll, ARes.ev, LV.flat, ite_true, ite_false, exists_eq_left', exists_eq_left, keyOf, implies_true, fillC, capOf]
  exact cmp_keep1 (j := 2) rfl (triL_lo _) (by simp [rn, rn0, rn1, keepR_n])
end

theorem g_cubes {x y z : Int} {t o : Nat} {cs : List Cell} {M : Mem} (h : Tri M t o cs) (hn : cs.length ≤ 1000000000) (hS : Sides x y z) (hin : ∀ c ∈ cs, c.inBox x y z) :
    CallsTo PG F.impl_Heap_cubes [.agg [.I x, .I y, .I z, .ref t o cs.length]] M (.W (bs x y z fun c => decide (c ∈ cs))) M := by
  refine calls_run K.impl_Heap_cubes rfl ?_
  simp (disch := omega) only [C.impl_Heap_cubes, ↓SXd, SXu, slBounds, ↓sop, ↓aop, ↓reduceIte, LV.cells, AOp.dst, LV.I, LV.B, LV.U, LV.S, LV.nil, Nat.reduceEqDiff, Nat.reduceAdd, Nat.reduceMul, Nat.reduceSub, Nat.reduceLeDiff, Nat.reduceBEq, Nat.reduceDiv, Nat.reduceMod, Int.reduceToNat, Int.reduceLT, Int.reduceLE, Int.reduceAdd, Int.reduceSub, Int.reduceMul, Int.reduceEq, Int.reduceNeg, reduceCtorEq, resV, resAll, ARes.ev, LV.flat, ite_true, ite_false, exists_eq_left', exists_eq_left, keyOf, implies_true, fillC, capOf]
  refine ev_loop (fun m fr M' => ∃ k : Nat, k + m = cs.length ∧ Pre M M' ∧ Live M' M.length (.row [.I x, .I y, .I z, .ref t o cs.length] true 0) ∧ fr 1 = .ptr M.length 0 ∧ fr 3 = .W (bs x y z fun c => decide (c ∈ cs.take k)) ∧ fr 7 = .ref t o cs.length ∧ fr 8 = .I cs.length ∧ fr 9 = .I k) cs.length
    ⟨0, by omega, Pre.app _ _, Live.new, rfl, by rw [show (bs x y z fun c => decide (c ∈ cs.take 0)) = 0#64 from (bs_zero hS).2 fun c _ => by simp]; rfl, rfl, rfl, rfl⟩ ?_
  rintro m fr M' ⟨k, hk, hpre, hbox, f1, f3, f7, f8, f9⟩
  have ht := h.pre hpre
  simp (disch := omega) only [f1, f3, f7, f8, f9, ↓SXd, SXu, slBounds, ↓sop, ↓aop, ↓reduceIte, LV.cells, AOp.dst, LV.I, LV.B, LV.U, LV.S, LV.nil, Nat.reduceEqDiff, Nat.reduceAdd, Nat.reduceMul, Nat.reduceSub, Nat.reduceLeDiff, Nat.reduceBEq, Nat.reduceDiv, Nat.reduceMod, Int.reduceToNat, Int.reduceLT, Int.reduceLE, Int.reduceAdd, Int.reduceSub, Int.reduceMul, Int.reduceEq, Int.reduceNeg, reduceCtorEq, resV, resAll, ARes.ev, LV.flat, ite_true, ite_false, exists_eq_left', exists_eq_left, keyOf, implies_true, fillC, capOf]
  refine condC_dec (fun hlt => ?_) (fun hlt => ?_)
  · have hkl : k < cs.length := by omega
    have hc := hin (cs.getD k default) (getD_mem' hkl)
    have hix := (idx_in hS hc).1
    simp (disch := omega) only [f1, f3, f7, f8, f9, (Tri.get ht (k := k) (by omega)), Cell.row, splice, hbox.app.cells, ↓SXd, SXu, slBounds, ↓sop, ↓aop, ↓reduceIte, LV.cells, AOp.dst, LV.I, LV.B, LV.U, LV.S, LV.nil, Nat.reduceEqDiff, Nat.reduceAdd, Nat.reduceMul, Nat.reduceSub, Nat.reduceLeDiff, Nat.reduceBEq, Nat.reduceDiv, Nat.reduceMod, Int.reduceToNat, Int.reduceLT, Int.reduceLE, Int.reduceAdd, Int.reduceSub, Int.reduceMul, Int.reduceEq, Int.reduceNeg, reduceCtorEq, resV, resAll, ARes.ev, LV.flat, ite_true, ite_false, exists_eq_left', exists_eq_left, keyOf, implies_true, fillC, capOf]
    refine callK_of (g_box) ?_
    simp (disch := omega) only [f1, f3, f7, f8, f9, ↓SXd, SXu, slBounds, ↓sop, ↓aop, ↓reduceIte, LV.cells, AOp.dst, LV.I, LV.B, LV.U, LV.S, LV.nil, Nat.reduceEqDiff, Nat.reduceAdd, Nat.reduceMul, Nat.reduceSub, Nat.reduceLeDiff, Nat.reduceBEq, Nat.reduceDiv, Nat.reduceMod, Int.reduceToNat, Int.reduceLT, Int.reduceLE, Int.reduceAdd, Int.reduceSub, Int.reduceMul, Int.reduceEq, Int.reduceNeg, reduceCtorEq, resV, resAll, ARes.ev, LV.flat, ite_true, ite_false, exists_eq_left', exists_eq_left, keyOf, implies_true, fillC, capOf]
    refine callK_of (g_index hS hc) ?_
    simp (disch := omega) only [f1, f3, f7, f8, f9, ↓SXd, SXu, slBounds, ↓sop, ↓aop, ↓reduceIte, LV.cells, AOp.dst, LV.I, LV.B, LV.U, LV.S, LV.nil, Nat.reduceEqDiff, Nat.reduceAdd, Nat.reduceMul, Nat.reduceSub, Nat.reduceLeDiff, Nat.reduceBEq, Nat.reduceDiv, Nat.reduceMod, Int.reduceToNat, Int.reduceLT, Int.reduceLE, Int.reduceAdd, Int.reduceSub, Int.reduceMul, Int.reduceEq, Int.reduceNeg, reduceCtorEq, resV, resAll, ARes.ev, LV.flat, ite_true, ite_false, exists_eq_left', exists_eq_left, keyOf, implies_true, fillC, capOf]
    rw [bs_one hS hc, bs_or hS, show (bs x y z fun c => (decide (c ∈ cs.take k) || decide (c = cs.getD k default))) = bs x y z fun c => decide (c ∈ cs.take (k + 1)) from (bs_eq hS).2 fun c _ => take_dec hkl]
    exact ⟨m - 1, by omega, k + 1, by omega, hpre.app', hbox.app, f1, rfl, f7, f8, eqI (natI _)⟩
  · simp (disch := omega) only [f1, f3, f7, f8, f9, ↓SXd, SXu, slBounds, ↓sop, ↓aop, ↓reduceIte, LV.cells, AOp.dst, LV.I, LV.B, LV.U, LV.S, LV.nil, Nat.reduceEqDiff, Nat.reduceAdd, Nat.reduceMul, Nat.reduceSub, Nat.reduceLeDiff, Nat.reduceBEq, Nat.reduceDiv, Nat.reduceMod, Int.reduceToNat, Int.reduceLT, Int.reduceLE, Int.reduceAdd, Int.reduceSub, Int.reduceMul, Int.reduceEq, Int.reduceNeg, reduceCtorEq, resV, resAll, ARes.ev, LV.flat, ite_true, ite_false, exists_eq_left', exists_eq_left, keyOf, implies_true, fillC, capOf]
    have : k = cs.length := by omega
    subst this
    rw [List.take_length]
    exact cmp_pre hpre rfl

/-- The six neighbours of a cell, as the program looks at them. -/
def nbrs (c : Cell) : List Cell := [⟨c.a + -1, c.b, c.c⟩, ⟨c.a + 1, c.b, c.c⟩, ⟨c.a, c.b + -1, c.c⟩, ⟨c.a, c.b + 1, c.c⟩, ⟨c.a, c.b, c.c + -1⟩, ⟨c.a, c.b, c.c + 1⟩]
theorem mem_nbrs {c d : Cell} : d ∈ nbrs c ↔ apart c d = 1 := by
  obtain ⟨a, b, e⟩ := c
  obtain ⟨a', b', e'⟩ := d
  simp only [nbrs, List.mem_cons, List.mem_nil_iff, or_false, cell_eq, apart]
  omega

section
variable {x y z : Int} (hS : Sides x y z)
include hS
theorem g_those {p : Cell → Bool} {f : FuncId} {caps : List (Nat × Nat)} {M : Mem}
    (hf : ∀ M', Pre M M' → ∀ i : Nat, i < vol x y z → CallsTo PG f ([.agg [.I (cellAt y z i).a, .I (cellAt y z i).b, .I (cellAt y z i).c]] ++ caps.map fun p => .ptr p.1 p.2) M' (.B (p (cellAt y z i))) M') :
    CallsTo PG F.impl_box_those [.agg [.I x, .I y, .I z], .clo f caps] M (.W (bs x y z p)) M := by
  have hv := vol_cast hS
  refine calls_run K.impl_box_those rfl ?_
  simp (disch := omega) only [C.impl_box_those, ↓SXd, SXu, slBounds, ↓sop, ↓aop, ↓reduceIte, LV.cells, AOp.dst, LV.I, LV.B, LV.U, LV.S, LV.nil, Nat.reduceEqDiff, Nat.reduceAdd, Nat.reduceMul, Nat.reduceSub, Nat.reduceLeDiff, Nat.reduceBEq, Nat.reduceDiv, Nat.reduceMod, Int.reduceToNat, Int.reduceLT, Int.reduceLE, Int.reduceAdd, Int.reduceSub, Int.reduceMul, Int.reduceEq, Int.reduceNeg, reduceCtorEq, resV, resAll, ARes.ev, LV.flat, ite_true, ite_false, exists_eq_left', exists_eq_left, keyOf, implies_true, fillC, capOf]
  refine callK_of (g_size hS) ?_
  simp (disch := omega) only [↓SXd, SXu, slBounds, ↓sop, ↓aop, ↓reduceIte, LV.cells, AOp.dst, LV.I, LV.B, LV.U, LV.S, LV.nil, Nat.reduceEqDiff, Nat.reduceAdd, Nat.reduceMul, Nat.reduceSub, Nat.reduceLeDiff, Nat.reduceBEq, Nat.reduceDiv, Nat.reduceMod, Int.reduceToNat, Int.reduceLT, Int.reduceLE, Int.reduceAdd, Int.reduceSub, Int.reduceMul, Int.reduceEq, Int.reduceNeg, reduceCtorEq, resV, resAll, ARes.ev, LV.flat, ite_true, ite_false, exists_eq_left', exists_eq_left, keyOf, implies_true, fillC, capOf]
  refine ev_loop (fun m fr M' => ∃ k : Nat, k + m = vol x y z ∧ Pre M M' ∧ Live M' M.length (.row [.I x, .I y, .I z] true 0) ∧ fr 1 = .clo f caps ∧ fr 2 = .ptr M.length 0 ∧ fr 5 = .W (bsN k fun i => p (cellAt y z i)) ∧ fr 8 = .I ((vol x y z : Nat) : Int) ∧ fr 9 = .I k) (vol x y z)
    ⟨0, by omega, Pre.app _ _, Live.new, rfl, rfl, rfl, rfl, rfl⟩ ?_
  rintro m fr M' ⟨k, hk, hpre, hbox, f1, f2, f5, f8, f9⟩
  simp (disch := omega) only [f1, f2, f5, f8, f9, ↓SXd, SXu, slBounds, ↓sop, ↓aop, ↓reduceIte, LV.cells, AOp.dst, LV.I, LV.B, LV.U, LV.S, LV.nil, Nat.reduceEqDiff, Nat.reduceAdd, Nat.reduceMul, Nat.reduceSub, Nat.reduceLeDiff, Nat.reduceBEq, Nat.reduceDiv, Nat.reduceMod, Int.reduceToNat, Int.reduceLT, Int.reduceLE, Int.reduceAdd, Int.reduceSub, Int.reduceMul, Int.reduceEq, Int.reduceNeg, reduceCtorEq, resV, resAll, ARes.ev, LV.flat, ite_true, ite_false, exists_eq_left', exists_eq_left, keyOf, implies_true, fillC, capOf]
  refine condC_dec (fun hlt => ?_) (fun hlt => ?_)
  · simp (disch := omega) only [f1, f2, f5, f8, f9, hbox.cells, ↓SXd, SXu, slBounds, ↓sop, ↓aop, ↓reduceIte, LV.cells, AOp.dst, LV.I, LV.B, LV.U, LV.S, LV.nil, Nat.reduceEqDiff, Nat.reduceAdd, Nat.reduceMul, Nat.reduceSub, Nat.reduceLeDiff, Nat.reduceBEq, Nat.reduceDiv, Nat.reduceMod, Int.reduceToNat, Int.reduceLT, Int.reduceLE, Int.reduceAdd, Int.reduceSub, Int.reduceMul, Int.reduceEq, Int.reduceNeg, reduceCtorEq, resV, resAll, ARes.ev, LV.flat, ite_true, ite_false, exists_eq_left', exists_eq_left, keyOf, implies_true, fillC, capOf]
    refine callK_of (g_cell hS (by omega) (by omega)) ?_
    simp (disch := omega) only [f1, f2, f5, f8, f9, ↓SXd, SXu, slBounds, ↓sop, ↓aop, ↓reduceIte, LV.cells, AOp.dst, LV.I, LV.B, LV.U, LV.S, LV.nil, Nat.reduceEqDiff, Nat.reduceAdd, Nat.reduceMul, Nat.reduceSub, Nat.reduceLeDiff, Nat.reduceBEq, Nat.reduceDiv, Nat.reduceMod, Int.reduceToNat, Int.reduceLT, Int.reduceLE, Int.reduceAdd, Int.reduceSub, Int.reduceMul, Int.reduceEq, Int.reduceNeg, reduceCtorEq, resV, resAll, ARes.ev, LV.flat, ite_true, ite_false, exists_eq_left', exists_eq_left, keyOf, implies_true, fillC, capOf]
    refine callK_of (hf M' hpre k (by omega)) ?_
    have hst := bsN_succ k fun i => p (cellAt y z i)
    by_cases hp : p (cellAt y z k) = true
    · rw [if_pos hp] at hst
      simp (disch := omega) only [f1, f2, f5, f8, f9, hp, ↓SXd, SXu, slBounds, ↓sop, ↓aop, ↓reduceIte, LV.cells, AOp.dst, LV.I, LV.B, LV.U, LV.S, LV.nil, Nat.reduceEqDiff, Nat.reduceAdd, Nat.reduceMul, Nat.reduceSub, Nat.reduceLeDiff, Nat.reduceBEq, Nat.reduceDiv, Nat.reduceMod, Int.reduceToNat, Int.reduceLT, Int.reduceLE, Int.reduceAdd, Int.reduceSub, Int.reduceMul, Int.reduceEq, Int.reduceNeg, reduceCtorEq, resV, resAll, ARes.ev, LV.flat, ite_true, ite_false, exists_eq_left', exists_eq_left, keyOf, implies_true, fillC, capOf]
      rw [← hst]
      exact ⟨m - 1, by omega, k + 1, by omega, hpre, hbox, f1, f2, rfl, f8, eqI (natI _)⟩
    · rw [if_neg hp] at hst
      have hp' : p (cellAt y z k) = false := by simpa using hp
      simp (disch := omega) only [f1, f2, f5, f8, f9, hp', ↓SXd, SXu, slBounds, ↓sop, ↓aop, ↓reduceIte, LV.cells, AOp.dst, LV.I, LV.B, LV.U, LV.S, LV.nil, Nat.reduceEqDiff, Nat.reduceAdd, Nat.reduceMul, Nat.reduceSub, Nat.reduceLeDiff, Nat.reduceBEq, Nat.reduceDiv, Nat.reduceMod, Int.reduceToNat, Int.reduceLT, Int.reduceLE, Int.reduceAdd, Int.reduceSub, Int.reduceMul, Int.reduceEq, Int.reduceNeg, reduceCtorEq, resV, resAll, ARes.ev, LV.flat, ite_true, ite_false, exists_eq_left', exists_eq_left, keyOf, implies_true, fillC, capOf]
      exact ⟨m - 1, by omega, k + 1, by omega, hpre, hbox, f1, f2, by rw [hst]; exact f5, f8, eqI (natI _)⟩
  · simp (disch := omega) only [f1, f2, f5, f8, f9, ↓SXd, SXu, slBounds, ↓sop, ↓aop, ↓reduceIte, LV.cells, AOp.dst, LV.I, LV.B, LV.U, LV.S, LV.nil, Nat.reduceEqDiff, Nat.reduceAdd, Nat.reduceMul, Nat.reduceSub, Nat.reduceLeDiff, Nat.reduceBEq, Nat.reduceDiv, Nat.reduceMod, Int.reduceToNat, Int.reduceLT, Int.reduceLE, Int.reduceAdd, Int.reduceSub, Int.reduceMul, Int.reduceEq, Int.reduceNeg, reduceCtorEq, resV, resAll, ARes.ev, LV.flat, ite_true, ite_false, exists_eq_left', exists_eq_left, keyOf, implies_true, fillC, capOf]
    have : k = vol x y z := by omega
    subst this
    exact cmp_pre hpre rfl
end
end Go.Ab

/- Contracts: valid shadows, the program's side. -/
namespace Go.Ab
open Go
set_option linter.unusedSimpArgs false
set_option linter.unusedVariables false

def shdList (d : Nat) (tp fr sd : List Int) : List Int := if d = 0 then sd else if d = 1 then fr else tp
def linesOf (x y z : Int) (d : Nat) : Int := if d = 0 then y * z else if d = 1 then x * z else x * y
theorem g_Shadow_box {x y z : Int} {a b c : LV} {M : Mem} : CallsTo PG F.impl_Shadow_box [.agg [.I x, .I y, .I z, a, b, c]] M (.agg [.I x, .I y, .I z]) M := by
  refine calls_run K.impl_Shadow_box rfl ?_
  simp (disch := omega) only [C.impl_Shadow_box, splice, ↓SXd, SXu, slBounds, ↓sop, ↓aop, ↓reduceIte, LV.cells, AOp.dst, LV.I, LV.B, LV.U, LV.S, LV.nil, Nat.reduceEqDiff, Nat.reduceAdd, Nat.reduceMul, Nat.reduceSub, Nat.reduceLeDiff, Nat.reduceBEq, Nat.reduceDiv, Nat.reduceMod, Int.reduceToNat, Int.reduceLT, Int.reduceLE, Int.reduceAdd, Int.reduceSub, Int.reduceMul, Int.reduceEq, Int.reduceNeg, reduceCtorEq, resV, resAll, ARes.ev, LV.flat, ite_true, ite_false, exists_eq_left', exists_eq_left, keyOf, implies_true, fillC, capOf]
  exact cmp_drop rfl
theorem g_Shadow_list {x y z : Int} {t t' t2 o o' o2 n n' n2 d : Nat} {M : Mem} (hd : d < 3) (ht : t < M.length) (ht' : t' < M.length) (ht2 : t2 < M.length) :
    CallsTo PG F.impl_Shadow_list [.agg [.I x, .I y, .I z, .ref t o n, .ref t' o' n', .ref t2 o2 n2], .I d] M (if d = 0 then .ref t2 o2 n2 else if d = 1 then .ref t' o' n' else .ref t o n) M := by
  refine calls_run K.impl_Shadow_list rfl ?_
  rcases (show d = 0 ∨ d = 1 ∨ d = 2 by omega) with rfl | rfl | rfl
  all_goals
    simp (disch := omega) only [C.impl_Shadow_list, splice, ↓SXd, SXu, slBounds, ↓sop, ↓aop, ↓reduceIte, LV.cells, AOp.dst, LV.I, LV.B, LV.U, LV.S, LV.nil, Nat.reduceEqDiff, Nat.reduceAdd, Nat.reduceMul, Nat.reduceSub, Nat.reduceLeDiff, Nat.reduceBEq, Nat.reduceDiv, Nat.reduceMod, Int.reduceToNat, Int.reduceLT, Int.reduceLE, Int.reduceAdd, Int.reduceSub, Int.reduceMul, Int.reduceEq, Int.reduceNeg, reduceCtorEq, resV, resAll, ARes.ev, LV.flat, ite_true, ite_false, exists_eq_left', exists_eq_left, keyOf, implies_true, fillC, capOf]
    exact cmp_drop (by simp [LV.lo, LV.lo1, ht, ht', ht2])
theorem g_lines {x y z : Int} {d : Nat} {M : Mem} (hS : Sides x y z) (hd : d < 3) : CallsTo PG F.impl_box_lines [.agg [.I x, .I y, .I z], .I d] M (.I (linesOf x y z d)) M := by
  obtain ⟨hx, hy, hz⟩ := id hS
  obtain ⟨hv, _, _⟩ := vol_cast hS
  have hp := prod_le hS
  refine calls_run K.impl_box_lines rfl ?_
  have hx0 : ¬ x = 0 := by omega
  have hy0 : ¬ y = 0 := by omega
  have hz0 : ¬ z = 0 := by omega
  have q1 : ((vol x y z : Nat) : Int).tdiv x = y * z := by
    rw [hv, Int.mul_assoc]; exact Int.mul_tdiv_cancel_left _ hx0
  have q2 : ((vol x y z : Nat) : Int).tdiv y = x * z := by
    rw [hv, show x * y * z = y * (x * z) by rw [← Int.mul_assoc, Int.mul_comm y x]]; exact Int.mul_tdiv_cancel_left _ hy0
  have q3 : ((vol x y z : Nat) : Int).tdiv z = x * y := by
    rw [hv]; exact Int.mul_tdiv_cancel _ hz0
  obtain ⟨⟨_, _⟩, ⟨_, _⟩, ⟨_, _⟩⟩ := hp
  rcases (show d = 0 ∨ d = 1 ∨ d = 2 by omega) with rfl | rfl | rfl
  · simp (disch := omega) only [C.impl_box_lines, ↓SXd, SXu, slBounds, ↓sop, ↓aop, ↓reduceIte, LV.cells, AOp.dst, LV.I, LV.B, LV.U, LV.S, LV.nil, Nat.reduceEqDiff, Nat.reduceAdd, Nat.reduceMul, Nat.reduceSub, Nat.reduceLeDiff, Nat.reduceBEq, Nat.reduceDiv, Nat.reduceMod, Int.reduceToNat, Int.reduceLT, Int.reduceLE, Int.reduceAdd, Int.reduceSub, Int.reduceMul, Int.reduceEq, Int.reduceNeg, reduceCtorEq, resV, resAll, ARes.ev, LV.flat, ite_true, ite_false, exists_eq_left', exists_eq_left, keyOf, implies_true, fillC, capOf]
    refine callK_of (g_size hS) ?_
    simp (disch := omega) only [ne_eq, not_false_eq_true, hx0, q1, ↓SXd, SXu, slBounds, ↓sop, ↓aop, ↓reduceIte, LV.cells, AOp.dst, LV.I, LV.B, LV.U, LV.S, LV.nil, Nat.reduceEqDiff, Nat.reduceAdd, Nat.reduceMul, Nat.reduceSub, Nat.reduceLeDiff, Nat.reduceBEq, Nat.reduceDiv, Nat.reduceMod, Int.reduceToNat, Int.reduceLT, Int.reduceLE, Int.reduceAdd, Int.reduceSub, Int.reduceMul, Int.reduceEq, Int.reduceNeg, reduceCtorEq, resV, resAll, ARes.ev, LV.flat, ite_true, ite_false, exists_eq_left', exists_eq_left, keyOf, implies_true, fillC, capOf]
    exact cmp_drop rfl
  · simp (disch := omega) only [C.impl_box_lines, ↓SXd, SXu, slBounds, ↓sop, ↓aop, ↓reduceIte, LV.cells, AOp.dst, LV.I, LV.B, LV.U, LV.S, LV.nil, Nat.reduceEqDiff, Nat.reduceAdd, Nat.reduceMul, Nat.reduceSub, Nat.reduceLeDiff, Nat.reduceBEq, Nat.reduceDiv, Nat.reduceMod, Int.reduceToNat, Int.reduceLT, Int.reduceLE, Int.reduceAdd, Int.reduceSub, Int.reduceMul, Int.reduceEq, Int.reduceNeg, reduceCtorEq, resV, resAll, ARes.ev, LV.flat, ite_true, ite_false, exists_eq_left', exists_eq_left, keyOf, implies_true, fillC, capOf]
    refine callK_of (g_size hS) ?_
    simp (disch := omega) only [ne_eq, not_false_eq_true, hy0, q2, ↓SXd, SXu, slBounds, ↓sop, ↓aop, ↓reduceIte, LV.cells, AOp.dst, LV.I, LV.B, LV.U, LV.S, LV.nil, Nat.reduceEqDiff, Nat.reduceAdd, Nat.reduceMul, Nat.reduceSub, Nat.reduceLeDiff, Nat.reduceBEq, Nat.reduceDiv, Nat.reduceMod, Int.reduceToNat, Int.reduceLT, Int.reduceLE, Int.reduceAdd, Int.reduceSub, Int.reduceMul, Int.reduceEq, Int.reduceNeg, reduceCtorEq, resV, resAll, ARes.ev, LV.flat, ite_true, ite_false, exists_eq_left', exists_eq_left, keyOf, implies_true, fillC, capOf]
    exact cmp_drop rfl
  · simp (disch := omega) only [C.impl_box_lines, ↓SXd, SXu, slBounds, ↓sop, ↓aop, ↓reduceIte, LV.cells, AOp.dst, LV.I, LV.B, LV.U, LV.S, LV.nil, Nat.reduceEqDiff, Nat.reduceAdd, Nat.reduceMul, Nat.reduceSub, Nat.reduceLeDiff, Nat.reduceBEq, Nat.reduceDiv, Nat.reduceMod, Int.reduceToNat, Int.reduceLT, Int.reduceLE, Int.reduceAdd, Int.reduceSub, Int.reduceMul, Int.reduceEq, Int.reduceNeg, reduceCtorEq, resV, resAll, ARes.ev, LV.flat, ite_true, ite_false, exists_eq_left', exists_eq_left, keyOf, implies_true, fillC, capOf]
    refine callK_of (g_size hS) ?_
    simp (disch := omega) only [ne_eq, not_false_eq_true, hz0, q3, ↓SXd, SXu, slBounds, ↓sop, ↓aop, ↓reduceIte, LV.cells, AOp.dst, LV.I, LV.B, LV.U, LV.S, LV.nil, Nat.reduceEqDiff, Nat.reduceAdd, Nat.reduceMul, Nat.reduceSub, Nat.reduceLeDiff, Nat.reduceBEq, Nat.reduceDiv, Nat.reduceMod, Int.reduceToNat, Int.reduceLT, Int.reduceLE, Int.reduceAdd, Int.reduceSub, Int.reduceMul, Int.reduceEq, Int.reduceNeg, reduceCtorEq, resV, resAll, ARes.ev, LV.flat, ite_true, ite_false, exists_eq_left', exists_eq_left, keyOf, implies_true, fillC, capOf]
    exact cmp_drop rfl

theorem g_IsShadow {x y z : Int} {t o t' o' t2 o2 : Nat} {tp fr sd : List Int} {M : Mem} (h1 : Ints M t o tp) (h2 : Ints M t' o' fr) (h3 : Ints M t2 o2 sd) (l1 : tp.length ≤ 1000000000) (l2 : fr.length ≤ 1000000000) (l3 : sd.length ≤ 1000000000) :
    CallsTo PG F.impl_IsShadow [.agg [.I x, .I y, .I z, .ref t o tp.length, .ref t' o' fr.length, .ref t2 o2 sd.length]] M (.B (decide (ShdOK x y z tp fr sd))) M := by
  have ht := h1.lt
  have ht' := h2.lt
  have ht2 := h3.lt
  refine calls_run K.impl_IsShadow rfl ?_
  simp (disch := omega) only [C.impl_IsShadow, ↓SXd, SXu, slBounds, ↓sop, ↓aop, ↓reduceIte, LV.cells, AOp.dst, LV.I, LV.B, LV.U, LV.S, LV.nil, Nat.reduceEqDiff, Nat.reduceAdd, Nat.reduceMul, Nat.reduceSub, Nat.reduceLeDiff, Nat.reduceBEq, Nat.reduceDiv, Nat.reduceMod, Int.reduceToNat, Int.reduceLT, Int.reduceLE, Int.reduceAdd, Int.reduceSub, Int.reduceMul, Int.reduceEq, Int.reduceNeg, reduceCtorEq, resV, resAll, ARes.ev, LV.flat, ite_true, ite_false, exists_eq_left', exists_eq_left, keyOf, implies_true, fillC, capOf]
  refine callK_of (g_Shadow_box) ?_
  simp (disch := omega) only [↓SXd, SXu, slBounds, ↓sop, ↓aop, ↓reduceIte, LV.cells, AOp.dst, LV.I, LV.B, LV.U, LV.S, LV.nil, Nat.reduceEqDiff, Nat.reduceAdd, Nat.reduceMul, Nat.reduceSub, Nat.reduceLeDiff, Nat.reduceBEq, Nat.reduceDiv, Nat.reduceMod, Int.reduceToNat, Int.reduceLT, Int.reduceLE, Int.reduceAdd, Int.reduceSub, Int.reduceMul, Int.reduceEq, Int.reduceNeg, reduceCtorEq, resV, resAll, ARes.ev, LV.flat, ite_true, ite_false, exists_eq_left', exists_eq_left, keyOf, implies_true, fillC, capOf]
  refine callK_of (g_valid) ?_
  simp (disch := omega) only [↓SXd, SXu, slBounds, ↓sop, ↓aop, ↓reduceIte, LV.cells, AOp.dst, LV.I, LV.B, LV.U, LV.S, LV.nil, Nat.reduceEqDiff, Nat.reduceAdd, Nat.reduceMul, Nat.reduceSub, Nat.reduceLeDiff, Nat.reduceBEq, Nat.reduceDiv, Nat.reduceMod, Int.reduceToNat, Int.reduceLT, Int.reduceLE, Int.reduceAdd, Int.reduceSub, Int.reduceMul, Int.reduceEq, Int.reduceNeg, reduceCtorEq, resV, resAll, ARes.ev, LV.flat, ite_true, ite_false, exists_eq_left', exists_eq_left, keyOf, implies_true, fillC, capOf]
  unfold ShdOK
  by_cases hS : Sides x y z
  · simp (disch := omega) only [hS, true_and, ↓SXd, SXu, slBounds, ↓sop, ↓aop, ↓reduceIte, LV.cells, AOp.dst, LV.I, LV.B, LV.U, LV.S, LV.nil, Nat.reduceEqDiff, Nat.reduceAdd, Nat.reduceMul, Nat.reduceSub, Nat.reduceLeDiff, Nat.reduceBEq, Nat.reduceDiv, Nat.reduceMod, Int.reduceToNat, Int.reduceLT, Int.reduceLE, Int.reduceAdd, Int.reduceSub, Int.reduceMul, Int.reduceEq, Int.reduceNeg, reduceCtorEq, resV, resAll, ARes.ev, LV.flat, ite_true, ite_false, exists_eq_left', exists_eq_left, keyOf, implies_true, fillC, capOf]
    refine ev_loop (fun m fr1 M' => ∃ d : Nat, d + m = 3 ∧ M' = M ++ [some (.row [.I x, .I y, .I z, .ref t o tp.length, .ref t' o' fr.length, .ref t2 o2 sd.length] true 0)] ∧ (∀ j, j < d → Ones (shdList j tp fr sd) ∧ ((shdList j tp fr sd).length : Int) = linesOf x y z j) ∧ fr1 1 = .ptr M.length 0 ∧ fr1 9 = .I d) 3
      ⟨0, rfl, rfl, by omega, rfl, rfl⟩ ?_
    rintro m fr1 M' ⟨d, hd, rfl, hj, f1, f9⟩
    simp (disch := omega) only [f1, f9, ↓SXd, SXu, slBounds, ↓sop, ↓aop, ↓reduceIte, LV.cells, AOp.dst, LV.I, LV.B, LV.U, LV.S, LV.nil, Nat.reduceEqDiff, Nat.reduceAdd, Nat.reduceMul, Nat.reduceSub, Nat.reduceLeDiff, Nat.reduceBEq, Nat.reduceDiv, Nat.reduceMod, Int.reduceToNat, Int.reduceLT, Int.reduceLE, Int.reduceAdd, Int.reduceSub, Int.reduceMul, Int.reduceEq, Int.reduceNeg, reduceCtorEq, resV, resAll, ARes.ev, LV.flat, ite_true, ite_false, exists_eq_left', exists_eq_left, keyOf, implies_true, fillC, capOf]
    refine condC_dec (fun hlt => ?_) (fun hlt => ?_)
    · have hd3 : d < 3 := by omega
      simp (disch := omega) only [f1, f9, ↓SXd, SXu, slBounds, ↓sop, ↓aop, ↓reduceIte, LV.cells, AOp.dst, LV.I, LV.B, LV.U, LV.S, LV.nil, Nat.reduceEqDiff, Nat.reduceAdd, Nat.reduceMul, Nat.reduceSub, Nat.reduceLeDiff, Nat.reduceBEq, Nat.reduceDiv, Nat.reduceMod, Int.reduceToNat, Int.reduceLT, Int.reduceLE, Int.reduceAdd, Int.reduceSub, Int.reduceMul, Int.reduceEq, Int.reduceNeg, reduceCtorEq, resV, resAll, ARes.ev, LV.flat, ite_true, ite_false, exists_eq_left', exists_eq_left, keyOf, implies_true, fillC, capOf]
      obtain ⟨tt, oo, hq, hI⟩ : ∃ tt oo, (if d = 0 then LV.ref t2 o2 sd.length else if d = 1 then LV.ref t' o' fr.length else LV.ref t o tp.length) = .ref tt oo (shdList d tp fr sd).length ∧ Ints M tt oo (shdList d tp fr sd) := by
        unfold shdList
        rcases (show d = 0 ∨ d = 1 ∨ d = 2 by omega) with rfl | rfl | rfl
        · exact ⟨_, _, rfl, h3⟩
        · exact ⟨_, _, rfl, h2⟩
        · exact ⟨_, _, rfl, h1⟩
      have hlist := g_Shadow_list (x := x) (y := y) (z := z) (t := t) (t' := t') (t2 := t2) (o := o) (o' := o') (o2 := o2) (n := tp.length) (n' := fr.length) (n2 := sd.length) (M := M ++ [some (.row [.I x, .I y, .I z, .ref t o tp.length, .ref t' o' fr.length, .ref t2 o2 sd.length] true 0)]) hd3 (by simp; omega) (by simp; omega) (by simp; omega)
      rw [hq] at hlist
      have hll : (shdList d tp fr sd).length ≤ 1000000000 := by unfold shdList; split <;> (try split) <;> assumption
      have hbad : ¬ (Ones (shdList d tp fr sd) ∧ ((shdList d tp fr sd).length : Int) = linesOf x y z d) → ¬ ((Ones tp ∧ (tp.length : Int) = x * y) ∧ (Ones fr ∧ (fr.length : Int) = x * z) ∧ (Ones sd ∧ (sd.length : Int) = y * z)) := by
        intro hb ⟨a1, a2, a3⟩
        apply hb
        rcases (show d = 0 ∨ d = 1 ∨ d = 2 by omega) with rfl | rfl | rfl
        · exact a3
        · exact a2
        · exact a1
      generalize hxs : shdList d tp fr sd = xs at hlist hI hll hbad
      refine callK_of (hlist) ?_
      simp (disch := omega) only [f1, f9, ↓SXd, SXu, slBounds, ↓sop, ↓aop, ↓reduceIte, LV.cells, AOp.dst, LV.I, LV.B, LV.U, LV.S, LV.nil, Nat.reduceEqDiff, Nat.reduceAdd, Nat.reduceMul, Nat.reduceSub, Nat.reduceLeDiff, Nat.reduceBEq, Nat.reduceDiv, Nat.reduceMod, Int.reduceToNat, Int.reduceLT, Int.reduceLE, Int.reduceAdd, Int.reduceSub, Int.reduceMul, Int.reduceEq, Int.reduceNeg, reduceCtorEq, resV, resAll, ARes.ev, LV.flat, ite_true, ite_false, exists_eq_left', exists_eq_left, keyOf, implies_true, fillC, capOf]
      refine callK_of (g_Shadow_box) ?_
      simp (disch := omega) only [f1, f9, ↓SXd, SXu, slBounds, ↓sop, ↓aop, ↓reduceIte, LV.cells, AOp.dst, LV.I, LV.B, LV.U, LV.S, LV.nil, Nat.reduceEqDiff, Nat.reduceAdd, Nat.reduceMul, Nat.reduceSub, Nat.reduceLeDiff, Nat.reduceBEq, Nat.reduceDiv, Nat.reduceMod, Int.reduceToNat, Int.reduceLT, Int.reduceLE, Int.reduceAdd, Int.reduceSub, Int.reduceMul, Int.reduceEq, Int.reduceNeg, reduceCtorEq, resV, resAll, ARes.ev, LV.flat, ite_true, ite_false, exists_eq_left', exists_eq_left, keyOf, implies_true, fillC, capOf]
      refine callK_of (g_lines hS hd3) ?_
      simp (disch := omega) only [f1, f9, ↓SXd, SXu, slBounds, ↓sop, ↓aop, ↓reduceIte, LV.cells, AOp.dst, LV.I, LV.B, LV.U, LV.S, LV.nil, Nat.reduceEqDiff, Nat.reduceAdd, Nat.reduceMul, Nat.reduceSub, Nat.reduceLeDiff, Nat.reduceBEq, Nat.reduceDiv, Nat.reduceMod, Int.reduceToNat, Int.reduceLT, Int.reduceLE, Int.reduceAdd, Int.reduceSub, Int.reduceMul, Int.reduceEq, Int.reduceNeg, reduceCtorEq, resV, resAll, ARes.ev, LV.flat, ite_true, ite_false, exists_eq_left', exists_eq_left, keyOf, implies_true, fillC, capOf]
      by_cases hlen : (xs.length : Int) = linesOf x y z d
      · simp (disch := omega) only [f1, f9, hlen, ↓SXd, SXu, slBounds, ↓sop, ↓aop, ↓reduceIte, LV.cells, AOp.dst, LV.I, LV.B, LV.U, LV.S, LV.nil, Nat.reduceEqDiff, Nat.reduceAdd, Nat.reduceMul, Nat.reduceSub, Nat.reduceLeDiff, Nat.reduceBEq, Nat.reduceDiv, Nat.reduceMod, Int.reduceToNat, Int.reduceLT, Int.reduceLE, Int.reduceAdd, Int.reduceSub, Int.reduceMul, Int.reduceEq, Int.reduceNeg, reduceCtorEq, resV, resAll, ARes.ev, LV.flat, ite_true, ite_false, exists_eq_left', exists_eq_left, keyOf, implies_true, fillC, capOf]
        refine callK_of (g_allWithin hI.app hll) ?_
        simp (disch := omega) only [f1, f9, ↓SXd, SXu, slBounds, ↓sop, ↓aop, ↓reduceIte, LV.cells, AOp.dst, LV.I, LV.B, LV.U, LV.S, LV.nil, Nat.reduceEqDiff, Nat.reduceAdd, Nat.reduceMul, Nat.reduceSub, Nat.reduceLeDiff, Nat.reduceBEq, Nat.reduceDiv, Nat.reduceMod, Int.reduceToNat, Int.reduceLT, Int.reduceLE, Int.reduceAdd, Int.reduceSub, Int.reduceMul, Int.reduceEq, Int.reduceNeg, reduceCtorEq, resV, resAll, ARes.ev, LV.flat, ite_true, ite_false, exists_eq_left', exists_eq_left, keyOf, implies_true, fillC, capOf]
        by_cases hone : Ones xs
        · simp (disch := omega) only [f1, f9, hone, ↓SXd, SXu, slBounds, ↓sop, ↓aop, ↓reduceIte, LV.cells, AOp.dst, LV.I, LV.B, LV.U, LV.S, LV.nil, Nat.reduceEqDiff, Nat.reduceAdd, Nat.reduceMul, Nat.reduceSub, Nat.reduceLeDiff, Nat.reduceBEq, Nat.reduceDiv, Nat.reduceMod, Int.reduceToNat, Int.reduceLT, Int.reduceLE, Int.reduceAdd, Int.reduceSub, Int.reduceMul, Int.reduceEq, Int.reduceNeg, reduceCtorEq, resV, resAll, ARes.ev, LV.flat, ite_true, ite_false, exists_eq_left', exists_eq_left, keyOf, implies_true, fillC, capOf]
          exact ⟨m - 1, by omega, d + 1, by omega, rfl, fun j hj1 => by
            rcases Nat.lt_or_ge j d with h2 | h2
            · exact hj j h2
            · rw [show j = d by omega, hxs]; exact ⟨hone, hlen⟩, f1, eqI (natI _)⟩
        · simp (disch := omega) only [f1, f9, hone, ↓SXd, SXu, slBounds, ↓sop, ↓aop, ↓reduceIte, LV.cells, AOp.dst, LV.I, LV.B, LV.U, LV.S, LV.nil, Nat.reduceEqDiff, Nat.reduceAdd, Nat.reduceMul, Nat.reduceSub, Nat.reduceLeDiff, Nat.reduceBEq, Nat.reduceDiv, Nat.reduceMod, Int.reduceToNat, Int.reduceLT, Int.reduceLE, Int.reduceAdd, Int.reduceSub, Int.reduceMul, Int.reduceEq, Int.reduceNeg, reduceCtorEq, resV, resAll, ARes.ev, LV.flat, ite_true, ite_false, exists_eq_left', exists_eq_left, keyOf, implies_true, fillC, capOf]
          rw [decide_eq_false (hbad fun e => hone e.1)]
          exact cmp_drop rfl
      · simp (disch := omega) only [f1, f9, hlen, ↓SXd, SXu, slBounds, ↓sop, ↓aop, ↓reduceIte, LV.cells, AOp.dst, LV.I, LV.B, LV.U, LV.S, LV.nil, Nat.reduceEqDiff, Nat.reduceAdd, Nat.reduceMul, Nat.reduceSub, Nat.reduceLeDiff, Nat.reduceBEq, Nat.reduceDiv, Nat.reduceMod, Int.reduceToNat, Int.reduceLT, Int.reduceLE, Int.reduceAdd, Int.reduceSub, Int.reduceMul, Int.reduceEq, Int.reduceNeg, reduceCtorEq, resV, resAll, ARes.ev, LV.flat, ite_true, ite_false, exists_eq_left', exists_eq_left, keyOf, implies_true, fillC, capOf]
        rw [decide_eq_false (hbad fun e => hlen e.2)]
        exact cmp_drop rfl
    · simp (disch := omega) only [f1, f9, ↓SXd, SXu, slBounds, ↓sop, ↓aop, ↓reduceIte, LV.cells, AOp.dst, LV.I, LV.B, LV.U, LV.S, LV.nil, Nat.reduceEqDiff, Nat.reduceAdd, Nat.reduceMul, Nat.reduceSub, Nat.reduceLeDiff, Nat.reduceBEq, Nat.reduceDiv, Nat.reduceMod, Int.reduceToNat, Int.reduceLT, Int.reduceLE, Int.reduceAdd, Int.reduceSub, Int.reduceMul, Int.reduceEq, Int.reduceNeg, reduceCtorEq, resV, resAll, ARes.ev, LV.flat, ite_true, ite_false, exists_eq_left', exists_eq_left, keyOf, implies_true, fillC, capOf]
      rw [decide_eq_true ⟨hj 2 (by omega), hj 1 (by omega), hj 0 (by omega)⟩]
      exact cmp_drop rfl
  · simp (disch := omega) only [hS, false_and, ↓SXd, SXu, slBounds, ↓sop, ↓aop, ↓reduceIte, LV.cells, AOp.dst, LV.I, LV.B, LV.U, LV.S, LV.nil, Nat.reduceEqDiff, Nat.reduceAdd, Nat.reduceMul, Nat.reduceSub, Nat.reduceLeDiff, Nat.reduceBEq, Nat.reduceDiv, Nat.reduceMod, Int.reduceToNat, Int.reduceLT, Int.reduceLE, Int.reduceAdd, Int.reduceSub, Int.reduceMul, Int.reduceEq, Int.reduceNeg, reduceCtorEq, resV, resAll, ARes.ev, LV.flat, ite_true, ite_false, exists_eq_left', exists_eq_left, keyOf, implies_true, fillC, capOf]
    exact cmp_drop rfl
end Go.Ab

/- Contracts: lines of a box; allowed cells, the program's side. -/
namespace Go.Ab
open Go
set_option linter.unusedSimpArgs false
set_option linter.unusedVariables false

theorem g_others {d : Nat} {M : Mem} (hd : d < 3) : CallsTo PG F.impl_others [.I d] M (.tup [.I (if d = 0 then 1 else 0), .I (if d = 2 then 1 else 2)]) M := by
  refine calls_run K.impl_others rfl ?_
  rcases (show d = 0 ∨ d = 1 ∨ d = 2 by omega) with rfl | rfl | rfl
  all_goals
    simp (disch := omega) only [C.impl_others, ↓SXd, SXu, slBounds, ↓sop, ↓aop, ↓reduceIte, LV.cells, AOp.dst, LV.I, LV.B, LV.U, LV.S, LV.nil, Nat.reduceEqDiff, Nat.reduceAdd, Nat.reduceMul, Nat.reduceSub, Nat.reduceLeDiff, Nat.reduceBEq, Nat.reduceDiv, Nat.reduceMod, Int.reduceToNat, Int.reduceLT, Int.reduceLE, Int.reduceAdd, Int.reduceSub, Int.reduceMul, Int.reduceEq, Int.reduceNeg, reduceCtorEq, resV, resAll, ARes.ev, LV.flat, ite_true, ite_false, exists_eq_left', exists_eq_left, keyOf, implies_true, fillC, capOf]
    exact cmp_drop0 rfl
/-- The place of a cell's line in a direction. -/
def lineOf (y z : Int) (c : Cell) (d : Nat) : Int := if d = 0 then c.b * z + c.c else if d = 1 then c.a * z + c.c else c.a * y + c.b
theorem lineOf_in {x y z : Int} {c : Cell} {d : Nat} (hS : Sides x y z) (hc : c.inBox x y z) (hd : d < 3) : 0 ≤ lineOf y z c d ∧ lineOf y z c d < linesOf x y z d := by
  obtain ⟨hx, hy, hz⟩ := hS
  obtain ⟨⟨_, _⟩, ⟨_, _⟩, ⟨_, _⟩⟩ := hc
  have e2 : y = 1 ∨ y = 2 ∨ y = 3 ∨ y = 4 := by omega
  have e3 : z = 1 ∨ z = 2 ∨ z = 3 ∨ z = 4 := by omega
  rcases (show d = 0 ∨ d = 1 ∨ d = 2 by omega) with rfl | rfl | rfl <;> simp only [lineOf, linesOf, if_true, Nat.one_ne_zero, if_false, show ¬ ((2 : Nat) = 0) by decide, show ¬ ((2 : Nat) = 1) by decide] <;> rcases e2 with rfl | rfl | rfl | rfl <;> rcases e3 with rfl | rfl | rfl | rfl <;> omega
theorem g_line {x y z : Int} {c : Cell} {d : Nat} {M : Mem} (hS : Sides x y z) (hc : c.inBox x y z) (hd : d < 3) : CallsTo PG F.impl_box_line [.agg [.I x, .I y, .I z], .agg [.I c.a, .I c.b, .I c.c], .I d] M (.I (lineOf y z c d)) M := by
  have hl := lineOf_in hS hc hd
  have hp := prod_le hS
  have hm : ∀ {a b k : Int}, 0 ≤ a → a ≤ 3 → 1 ≤ b → b ≤ 4 → 0 ≤ a * b ∧ a * b ≤ 12 := fun {a b k} h1 h2 h3 h4 => by
    rcases (show b = 1 ∨ b = 2 ∨ b = 3 ∨ b = 4 by omega) with rfl | rfl | rfl | rfl <;> omega
  obtain ⟨⟨_, _⟩, ⟨_, _⟩, ⟨_, _⟩⟩ := id hS
  obtain ⟨⟨_, _⟩, ⟨_, _⟩, ⟨_, _⟩⟩ := id hc
  obtain ⟨_, _⟩ := hm (a := c.a) (b := y) (k := 0) (by omega) (by omega) (by omega) (by omega)
  obtain ⟨_, _⟩ := hm (a := c.a) (b := z) (k := 0) (by omega) (by omega) (by omega) (by omega)
  obtain ⟨_, _⟩ := hm (a := c.b) (b := z) (k := 0) (by omega) (by omega) (by omega) (by omega)
  refine calls_run K.impl_box_line rfl ?_
  rcases (show d = 0 ∨ d = 1 ∨ d = 2 by omega) with rfl | rfl | rfl
  all_goals
    simp (disch := omega) only [C.impl_box_line, ↓SXd, SXu, slBounds, ↓sop, ↓aop, ↓reduceIte, LV.cells, AOp.dst, LV.I, LV.B, LV.U, LV.S, LV.nil, Nat.reduceEqDiff, Nat.reduceAdd, Nat.reduceMul, Nat.reduceSub, Nat.reduceLeDiff, Nat.reduceBEq, Nat.reduceDiv, Nat.reduceMod, Int.reduceToNat, Int.reduceLT, Int.reduceLE, Int.reduceAdd, Int.reduceSub, Int.reduceMul, Int.reduceEq, Int.reduceNeg, reduceCtorEq, resV, resAll, ARes.ev, LV.flat, ite_true, ite_false, exists_eq_left', exists_eq_left, keyOf, implies_true, fillC, capOf]
    refine callK_of (g_others (by omega)) ?_
    simp (disch := omega) only [↓SXd, SXu, slBounds, ↓sop, ↓aop, ↓reduceIte, LV.cells, AOp.dst, LV.I, LV.B, LV.U, LV.S, LV.nil, Nat.reduceEqDiff, Nat.reduceAdd, Nat.reduceMul, Nat.reduceSub, Nat.reduceLeDiff, Nat.reduceBEq, Nat.reduceDiv, Nat.reduceMod, Int.reduceToNat, Int.reduceLT, Int.reduceLE, Int.reduceAdd, Int.reduceSub, Int.reduceMul, Int.reduceEq, Int.reduceNeg, reduceCtorEq, resV, resAll, ARes.ev, LV.flat, ite_true, ite_false, exists_eq_left', exists_eq_left, keyOf, implies_true, fillC, capOf]
    exact cmp_drop rfl
end Go.Ab

/- Contracts: views, the program's side. -/
namespace Go.Ab
open Go
set_option linter.unusedSimpArgs false
set_option linter.unusedVariables false

/-- One more cube in a view. -/
def viewStep (y z : Int) (d : Nat) (v : List Int) (c : Cell) : List Int := v.set (lineOf y z c d).toNat (v.getD (lineOf y z c d).toNat 0 + 1)
def viewL (x y z : Int) (d : Nat) (cs : List Cell) : List Int := cs.foldl (viewStep y z d) (List.replicate (linesOf x y z d).toNat 0)
theorem foldl_len {y z : Int} {d : Nat} : ∀ {cs : List Cell} {v : List Int}, (cs.foldl (viewStep y z d) v).length = v.length
  | [], _ => rfl
  | c :: cs, v => by rw [List.foldl_cons, foldl_len]; simp [viewStep]
theorem viewL_len {x y z : Int} {d : Nat} {cs : List Cell} : (viewL x y z d cs).length = (linesOf x y z d).toNat := by unfold viewL; rw [foldl_len]; simp
theorem fold_bound {y z : Int} {d : Nat} : ∀ {cs : List Cell} {v : List Int} {n : Int}, (∀ j, 0 ≤ v.getD j 0 ∧ v.getD j 0 ≤ n) → ∀ j, 0 ≤ (cs.foldl (viewStep y z d) v).getD j 0 ∧ (cs.foldl (viewStep y z d) v).getD j 0 ≤ n + cs.length
  | [], v, n, h, j => by have := h j; simp only [List.foldl_nil, List.length_nil]; omega
  | c :: cs, v, n, h, j => by
    rw [List.foldl_cons]
    have := fold_bound (y := y) (z := z) (d := d) (cs := cs) (v := viewStep y z d v c) (n := n + 1) (fun i => by
      have h1 := h i
      have h2 := h (lineOf y z c d).toNat
      unfold viewStep
      rw [List.getD_eq_getElem?_getD, List.getElem?_set]
      split
      · split
        · simp only [Option.getD_some]; omega
        · simp; omega
      · rw [← List.getD_eq_getElem?_getD]; omega) j
    simp only [List.length_cons]; omega
theorem take_foldl {y z : Int} {d i : Nat} {cs : List Cell} {v : List Int} (h : i < cs.length) : (cs.take (i + 1)).foldl (viewStep y z d) v = viewStep y z d ((cs.take i).foldl (viewStep y z d) v) (cs.getD i default) := by
  rw [List.take_succ, List.getElem?_eq_getElem h, Option.toList_some, List.foldl_append]
  have e : cs.getD i default = cs[i] := by simp [h]
  rw [e]; rfl

theorem g_view {x y z : Int} {d : Nat} {p : Cell → Bool} {M : Mem} (hS : Sides x y z) (hd : d < 3) : CallsTo PG F.impl_box_view [.agg [.I x, .I y, .I z], .W (bs x y z p), .I d] M (.ref M.length 0 (viewL x y z d (pick x y z p)).length) (M ++ [some (.row (intL (viewL x y z d (pick x y z p))) true 1)]) := by
  have hlp : 1 ≤ linesOf x y z d ∧ linesOf x y z d ≤ 16 := by
    have := prod_le hS
    rcases (show d = 0 ∨ d = 1 ∨ d = 2 by omega) with rfl | rfl | rfl
    · exact this.2.2
    · exact this.2.1
    · exact this.1
  have hpl := pick_len hS p
  refine calls_run K.impl_box_view rfl ?_
  simp (disch := omega) only [C.impl_box_view, ↓SXd, SXu, slBounds, ↓sop, ↓aop, ↓reduceIte, LV.cells, AOp.dst, LV.I, LV.B, LV.U, LV.S, LV.nil, Nat.reduceEqDiff, Nat.reduceAdd, Nat.reduceMul, Nat.reduceSub, Nat.reduceLeDiff, Nat.reduceBEq, Nat.reduceDiv, Nat.reduceMod, Int.reduceToNat, Int.reduceLT, Int.reduceLE, Int.reduceAdd, Int.reduceSub, Int.reduceMul, Int.reduceEq, Int.reduceNeg, reduceCtorEq, resV, resAll, ARes.ev, LV.flat, ite_true, ite_false, exists_eq_left', exists_eq_left, keyOf, implies_true, fillC, capOf]
  refine callK_of (g_lines hS hd) ?_
  simp (disch := omega) only [made_int, ↓SXd, SXu, slBounds, ↓sop, ↓aop, ↓reduceIte, LV.cells, AOp.dst, LV.I, LV.B, LV.U, LV.S, LV.nil, Nat.reduceEqDiff, Nat.reduceAdd, Nat.reduceMul, Nat.reduceSub, Nat.reduceLeDiff, Nat.reduceBEq, Nat.reduceDiv, Nat.reduceMod, Int.reduceToNat, Int.reduceLT, Int.reduceLE, Int.reduceAdd, Int.reduceSub, Int.reduceMul, Int.reduceEq, Int.reduceNeg, reduceCtorEq, resV, resAll, ARes.ev, LV.flat, ite_true, ite_false, exists_eq_left', exists_eq_left, keyOf, implies_true, fillC, capOf]
  refine callK_of (g_list hS) ?_
  simp (disch := omega) only [↓SXd, SXu, slBounds, ↓sop, ↓aop, ↓reduceIte, LV.cells, AOp.dst, LV.I, LV.B, LV.U, LV.S, LV.nil, Nat.reduceEqDiff, Nat.reduceAdd, Nat.reduceMul, Nat.reduceSub, Nat.reduceLeDiff, Nat.reduceBEq, Nat.reduceDiv, Nat.reduceMod, Int.reduceToNat, Int.reduceLT, Int.reduceLE, Int.reduceAdd, Int.reduceSub, Int.reduceMul, Int.reduceEq, Int.reduceNeg, reduceCtorEq, resV, resAll, ARes.ev, LV.flat, ite_true, ite_false, exists_eq_left', exists_eq_left, keyOf, implies_true, fillC, capOf]
  have hz : ∀ j, 0 ≤ (List.replicate (linesOf x y z d).toNat (0 : Int)).getD j 0 ∧ (List.replicate (linesOf x y z d).toNat (0 : Int)).getD j 0 ≤ 0 := fun j => by
    rw [List.getD_eq_getElem?_getD, List.getElem?_replicate]; split <;> simp
  have hin : ∀ c ∈ pick x y z p, c.inBox x y z := fun c hc => ((mem_pick hS).1 hc).1
  have hvl := viewL_len (x := x) (y := y) (z := z) (d := d) (cs := pick x y z p)
  refine ev_loop (fun m fr M' => ∃ i : Nat, i + m = (pick x y z p).length ∧ Pre M M' ∧ Live M' M.length (.row [.I x, .I y, .I z] true 0) ∧ Live M' (M.length + 1) (.row (intL (((pick x y z p).take i).foldl (viewStep y z d) (List.replicate (linesOf x y z d).toNat 0))) true 1) ∧ Live M' (M.length + 2) (.row (triL (pick x y z p)) true 3) ∧
    fr 2 = .I d ∧ fr 3 = .ptr M.length 0 ∧ fr 7 = .ref (M.length + 1) 0 (linesOf x y z d).toNat ∧ fr 16 = .ref (M.length + 2) 0 (pick x y z p).length ∧ fr 17 = .I (pick x y z p).length ∧ fr 18 = .I i) (pick x y z p).length
    ⟨0, by omega, Pre.app _ _, Live.new, Live.newj rfl, Live.newj rfl, rfl, rfl, rfl, rfl, rfl, rfl⟩ ?_
  rintro m fr M' ⟨i, hi, hpre, b3, bo, bl, f2, f3, f7, f16, f17, f18⟩
  simp (disch := omega) only [f2, f3, f7, f16, f17, f18, ↓SXd, SXu, slBounds, ↓sop, ↓aop, ↓reduceIte, LV.cells, AOp.dst, LV.I, LV.B, LV.U, LV.S, LV.nil, Nat.reduceEqDiff, Nat.reduceAdd, Nat.reduceMul, Nat.reduceSub, Nat.reduceLeDiff, Nat.reduceBEq, Nat.reduceDiv, Nat.reduceMod, Int.reduceToNat, Int.reduceLT, Int.reduceLE, Int.reduceAdd, Int.reduceSub, Int.reduceMul, Int.reduceEq, Int.reduceNeg, reduceCtorEq, resV, resAll, ARes.ev, LV.flat, ite_true, ite_false, exists_eq_left', exists_eq_left, keyOf, implies_true, fillC, capOf]
  refine condC_dec (fun hlt => ?_) (fun hlt => ?_)
  · have hil : i < (pick x y z p).length := by omega
    have hg := bl.tri0 hil
    have hc := hin _ (getD_mem' (d := default) hil)
    have htf := take_foldl (y := y) (z := z) (d := d) (v := List.replicate (linesOf x y z d).toNat 0) hil
    have hbd := fold_bound (y := y) (z := z) (d := d) (cs := (pick x y z p).take i) hz
    have hfl := foldl_len (y := y) (z := z) (d := d) (cs := (pick x y z p).take i) (v := List.replicate (linesOf x y z d).toNat 0)
    have htl := List.length_take_le i (pick x y z p)
    rw [List.length_replicate] at hfl
    generalize (pick x y z p).getD i default = c at hg hc htf
    generalize ((pick x y z p).take i).foldl (viewStep y z d) (List.replicate (linesOf x y z d).toNat 0) = v at bo htf hbd hfl
    obtain ⟨l1, l2⟩ := lineOf_in hS hc hd
    obtain ⟨v1, v2⟩ := hbd (lineOf y z c d).toNat
    have hlt2 : (lineOf y z c d).toNat < v.length := by omega
    have hlm := bl.lt
    have hcell := (Live.app (L := [some (.row [.I c.a, .I c.b, .I c.c] true 0)]) bo).cell (o := (lineOf y z c d).toNat)
    rw [intL_get hlt2] at hcell
    simp (disch := omega) only [f2, f3, f7, f16, f17, f18, hg, Cell.row, splice, b3.app.cells, ↓SXd, SXu, slBounds, ↓sop, ↓aop, ↓reduceIte, LV.cells, AOp.dst, LV.I, LV.B, LV.U, LV.S, LV.nil, Nat.reduceEqDiff, Nat.reduceAdd, Nat.reduceMul, Nat.reduceSub, Nat.reduceLeDiff, Nat.reduceBEq, Nat.reduceDiv, Nat.reduceMod, Int.reduceToNat, Int.reduceLT, Int.reduceLE, Int.reduceAdd, Int.reduceSub, Int.reduceMul, Int.reduceEq, Int.reduceNeg, reduceCtorEq, resV, resAll, ARes.ev, LV.flat, ite_true, ite_false, exists_eq_left', exists_eq_left, keyOf, implies_true, fillC, capOf]
    refine callK_of (g_line hS hc hd) ?_
    simp (disch := omega) only [f2, f3, f7, f16, f17, f18, hcell, Nat.mul_one, Nat.zero_add, ↓SXd, SXu, slBounds, ↓sop, ↓aop, ↓reduceIte, LV.cells, AOp.dst, LV.I, LV.B, LV.U, LV.S, LV.nil, Nat.reduceEqDiff, Nat.reduceAdd, Nat.reduceMul, Nat.reduceSub, Nat.reduceLeDiff, Nat.reduceBEq, Nat.reduceDiv, Nat.reduceMod, Int.reduceToNat, Int.reduceLT, Int.reduceLE, Int.reduceAdd, Int.reduceSub, Int.reduceMul, Int.reduceEq, Int.reduceNeg, reduceCtorEq, resV, resAll, ARes.ev, LV.flat, ite_true, ite_false, exists_eq_left', exists_eq_left, keyOf, implies_true, fillC, capOf]
    refine memK_int (Live.app bo) hlt2 fun N k1 k2 k3 => ?_
    simp (disch := omega) only [f2, f3, f7, f16, f17, f18, ↓SXd, SXu, slBounds, ↓sop, ↓aop, ↓reduceIte, LV.cells, AOp.dst, LV.I, LV.B, LV.U, LV.S, LV.nil, Nat.reduceEqDiff, Nat.reduceAdd, Nat.reduceMul, Nat.reduceSub, Nat.reduceLeDiff, Nat.reduceBEq, Nat.reduceDiv, Nat.reduceMod, Int.reduceToNat, Int.reduceLT, Int.reduceLE, Int.reduceAdd, Int.reduceSub, Int.reduceMul, Int.reduceEq, Int.reduceNeg, reduceCtorEq, resV, resAll, ARes.ev, LV.flat, ite_true, ite_false, exists_eq_left', exists_eq_left, keyOf, implies_true, fillC, capOf]
    have hp1 : Pre M' (M' ++ [some (.row [.I c.a, .I c.b, .I c.c] true 0)]) := Pre.app _ _
    rw [show v.set (lineOf y z c d).toNat (v.getD (lineOf y z c d).toNat 0 + 1) = viewStep y z d v c from rfl, ← htf] at k2
    exact ⟨m - 1, by omega, i + 1, by omega, pre_step (hpre.trans hp1) (by omega) (j := 0) k1 k3, live_step b3.app (by omega) k3, k2, live_step bl.app (by omega) k3, f2, f3, f7, f16, f17, eqI (natI _)⟩
  · simp (disch := omega) only [f2, f3, f7, f16, f17, f18, ↓SXd, SXu, slBounds, ↓sop, ↓aop, ↓reduceIte, LV.cells, AOp.dst, LV.I, LV.B, LV.U, LV.S, LV.nil, Nat.reduceEqDiff, Nat.reduceAdd, Nat.reduceMul, Nat.reduceSub, Nat.reduceLeDiff, Nat.reduceBEq, Nat.reduceDiv, Nat.reduceMod, Int.reduceToNat, Int.reduceLT, Int.reduceLE, Int.reduceAdd, Int.reduceSub, Int.reduceMul, Int.reduceEq, Int.reduceNeg, reduceCtorEq, resV, resAll, ARes.ev, LV.flat, ite_true, ite_false, exists_eq_left', exists_eq_left, keyOf, implies_true, fillC, capOf]
    have : i = (pick x y z p).length := by omega
    subst this
    rw [List.take_length] at bo
    change Live M' (M.length + 1) (.row (intL (viewL x y z d (pick x y z p))) true 1) at bo
    exact cmp_keepL hpre (by omega) bo (intL_lo _) (by simp [rn, rn0, rn1, hvl])
end Go.Ab

/- The abstract code of some functions (written by a program of mine from the translation, by way of prepF). -/
namespace Go.Ab.C
open Go.Ab
def impl_Shadow_allowed : AFn :=
  ⟨1, 7, [.tmp 2],
    .seq (.ops [(none, .box 1 (.t 0)),
       (none, .mv 2 (.c (.U 0)))])
    (.seq (.ops [(none, .loadN 3 6 (.t 1)),
        (none, .call (some 4) F.impl_Shadow_box [(.t 3)]),
        (none, .mkf 5 F.impl_Shadow_allowed_1 [(.t 1)]),
        (none, .call (some 6) F.impl_box_those [(.t 4), (.t 5)]),
        (none, .mv 2 (.t 6))])
     (.ret))⟩
def impl_Shadow_allowed_1 : AFn :=
  ⟨2, 20, [.tmp 3],
    .seq (.ops [(none, .box 2 (.t 0)),
       (none, .mv 3 (.c (.B false)))])
    (.seq (.seq (.ops [(none, .mv 5 (.c (.I 0)))])
      (.block 0 (.loop (.seq (.ops [(none, .bin 6 .lss (.t 5) (.c (.I 3)))])
         (.seq (.cond (.t 6) (.skip)
           (.exit 0))
          (.seq (.block 1 (.seq (.ops [(none, .mv 7 (.t 5)),
                (none, .mv 4 (.t 7))])
             (.seq (.draw [⟨(none, .loadN 8 6 (.t 1)), [], []⟩,
                 ⟨(none, .mv 9 (.t 4)), [], []⟩,
                 ⟨(none, .loadN 11 6 (.t 1)), [], []⟩,
                 ⟨(none, .loadN 13 3 (.t 2)), [], []⟩,
                 ⟨(none, .mv 14 (.t 4)), [], []⟩,
                 ⟨(none, .call (some 10) F.impl_Shadow_list [(.t 8), (.t 9)]), [], [2, 3, 4]⟩,
                 ⟨(none, .call (some 12) F.impl_Shadow_box [(.t 11)]), [], [3, 4]⟩,
                 ⟨(none, .call (some 15) F.impl_box_line [(.t 12), (.t 13), (.t 14)]), [], []⟩,
                 ⟨(none, .idxS 16 1 (.t 10) (.t 15)), [], []⟩,
                 ⟨(none, .load1 17 (.t 16)), [], []⟩,
                 ⟨(none, .bin 18 .eql (.t 17) (.c (.I 0))), [], []⟩])
              (.cond (.t 18) (.seq (.ops [(none, .mv 3 (.c (.B false)))])
                (.ret))
               (.skip)))))
           (.ops [(none, .bin 19 .add (.t 5) (.c (.I 1))),
              (none, .mv 5 (.t 19))])))))))
     (.seq (.ops [(none, .mv 3 (.c (.B true)))])
      (.ret)))⟩
end Go.Ab.C

/- That the program has this code. -/
namespace Go.Ab.K
open Go Go.Ab
theorem impl_Shadow_allowed : prepF Go.Proofs.Try.prog F.impl_Shadow_allowed = some C.impl_Shadow_allowed := by kernel_rfl
theorem impl_Shadow_allowed_1 : prepF Go.Proofs.Try.prog F.impl_Shadow_allowed_1 = some C.impl_Shadow_allowed_1 := by kernel_rfl
end Go.Ab.K

/- Contracts: allowed cells, the program's side. -/
namespace Go.Ab
open Go
set_option linter.unusedSimpArgs false
set_option linter.unusedVariables false

/-- Of a cell's lines the first k are lit. -/
def litK (y z : Int) (tp fr sd : List Int) (k : Nat) (c : Cell) : Bool := decide (∀ j, j < k → (shdList j tp fr sd).getD (lineOf y z c j).toNat 0 ≠ 0)
def allowedB (y z : Int) (tp fr sd : List Int) (c : Cell) : Bool := litK y z tp fr sd 3 c
theorem litK_succ {y z : Int} {tp fr sd : List Int} {k : Nat} {c : Cell} : litK y z tp fr sd (k + 1) c = (litK y z tp fr sd k c && !decide ((shdList k tp fr sd).getD (lineOf y z c k).toNat 0 = 0)) := by
  unfold litK
  rw [Bool.eq_iff_iff, Bool.and_eq_true, decide_eq_true_iff, decide_eq_true_iff, Bool.not_eq_true', decide_eq_false_iff_not]
  refine ⟨fun h => ⟨fun j hj => h j (by omega), h k (by omega)⟩, fun ⟨h1, h2⟩ j hj => ?_⟩
  rcases Nat.lt_or_ge j k with h3 | h3
  · exact h1 j h3
  · rw [show j = k by omega]; exact h2
theorem lit_mono {y z : Int} {tp fr sd : List Int} {k : Nat} {c : Cell} (hk : k < 3) (h : (shdList k tp fr sd).getD (lineOf y z c k).toNat 0 = 0) : allowedB y z tp fr sd c = false := decide_eq_false fun a => a k hk h
theorem ShdOK.list {x y z : Int} {tp fr sd : List Int} (h : ShdOK x y z tp fr sd) {d : Nat} (hd : d < 3) : Ones (shdList d tp fr sd) ∧ ((shdList d tp fr sd).length : Int) = linesOf x y z d := by
  obtain ⟨_, a1, a2, a3⟩ := h
  rcases (show d = 0 ∨ d = 1 ∨ d = 2 by omega) with rfl | rfl | rfl
  · exact a3
  · exact a2
  · exact a1

theorem g_allowed_1 {x y z : Int} {c : Cell} {t o t' o' t2 o2 u : Nat} {tp fr sd : List Int} {M : Mem} (h1 : Ints M t o tp) (h2 : Ints M t' o' fr) (h3 : Ints M t2 o2 sd) (hok : ShdOK x y z tp fr sd) (hc : c.inBox x y z)
    (hb : Live M u (.row [.I x, .I y, .I z, .ref t o tp.length, .ref t' o' fr.length, .ref t2 o2 sd.length] true 0)) :
    CallsTo PG F.impl_Shadow_allowed_1 ([.agg [.I c.a, .I c.b, .I c.c]] ++ [(u, 0)].map fun p => .ptr p.1 p.2) M (.B (allowedB y z tp fr sd c)) M := by
  have ht := h1.lt
  have ht' := h2.lt
  have ht2 := h3.lt
  have hul := hb.lt
  have hS := hok.1
  have hp := prod_le hS
  refine calls_run K.impl_Shadow_allowed_1 rfl ?_
  simp (disch := omega) only [C.impl_Shadow_allowed_1, List.map_cons, List.map_nil, ↓SXd, SXu, slBounds, ↓sop, ↓aop, ↓reduceIte, LV.cells, AOp.dst, LV.I, LV.B, LV.U, LV.S, LV.nil, Nat.reduceEqDiff, Nat.reduceAdd, Nat.reduceMul, Nat.reduceSub, Nat.reduceLeDiff, Nat.reduceBEq, Nat.reduceDiv, Nat.reduceMod, Int.reduceToNat, Int.reduceLT, Int.reduceLE, Int.reduceAdd, Int.reduceSub, Int.reduceMul, Int.reduceEq, Int.reduceNeg, reduceCtorEq, resV, resAll, ARes.ev, LV.flat, ite_true, ite_false, exists_eq_left', exists_eq_left, keyOf, implies_true, fillC, capOf]
  refine ev_loop (fun m fr1 M' => ∃ d : Nat, d + m = 3 ∧ M' = M ++ [some (.row [.I c.a, .I c.b, .I c.c] true 0)] ∧ litK y z tp fr sd d c = true ∧ fr1 1 = .ptr u 0 ∧ fr1 2 = .ptr M.length 0 ∧ fr1 5 = .I d) 3
    ⟨0, rfl, rfl, decide_eq_true (by omega), rfl, rfl, rfl⟩ ?_
  rintro m fr1 M' ⟨d, hd, rfl, hlit, f1, f2, f5⟩
  simp (disch := omega) only [f1, f2, f5, ↓SXd, SXu, slBounds, ↓sop, ↓aop, ↓reduceIte, LV.cells, AOp.dst, LV.I, LV.B, LV.U, LV.S, LV.nil, Nat.reduceEqDiff, Nat.reduceAdd, Nat.reduceMul, Nat.reduceSub, Nat.reduceLeDiff, Nat.reduceBEq, Nat.reduceDiv, Nat.reduceMod, Int.reduceToNat, Int.reduceLT, Int.reduceLE, Int.reduceAdd, Int.reduceSub, Int.reduceMul, Int.reduceEq, Int.reduceNeg, reduceCtorEq, resV, resAll, ARes.ev, LV.flat, ite_true, ite_false, exists_eq_left', exists_eq_left, keyOf, implies_true, fillC, capOf]
  refine condC_dec (fun hlt => ?_) (fun hlt => ?_)
  · have hd3 : d < 3 := by omega
    obtain ⟨tt, oo, hq, hI⟩ : ∃ tt oo, (if d = 0 then LV.ref t2 o2 sd.length else if d = 1 then LV.ref t' o' fr.length else LV.ref t o tp.length) = .ref tt oo (shdList d tp fr sd).length ∧ Ints M tt oo (shdList d tp fr sd) := by
      unfold shdList
      rcases (show d = 0 ∨ d = 1 ∨ d = 2 by omega) with rfl | rfl | rfl
      · exact ⟨_, _, rfl, h3⟩
      · exact ⟨_, _, rfl, h2⟩
      · exact ⟨_, _, rfl, h1⟩
    have hlist := g_Shadow_list (x := x) (y := y) (z := z) (t := t) (t' := t') (t2 := t2) (o := o) (o' := o') (o2 := o2) (n := tp.length) (n' := fr.length) (n2 := sd.length) (M := M ++ [some (.row [.I c.a, .I c.b, .I c.c] true 0)]) hd3 (by simp; omega) (by simp; omega) (by simp; omega)
    rw [hq] at hlist
    obtain ⟨_, hlen⟩ := hok.list hd3
    obtain ⟨hl1, hl2⟩ := lineOf_in hS hc hd3
    have hsucc := litK_succ (y := y) (z := z) (tp := tp) (fr := fr) (sd := sd) (k := d) (c := c)
    have hmono := lit_mono (y := y) (z := z) (tp := tp) (fr := fr) (sd := sd) (c := c) hd3
    generalize shdList d tp fr sd = xs at hlist hI hlen hsucc hmono
    simp (disch := omega) only [f1, f2, f5, hb.app.cells, ↓SXd, SXu, slBounds, ↓sop, ↓aop, ↓reduceIte, LV.cells, AOp.dst, LV.I, LV.B, LV.U, LV.S, LV.nil, Nat.reduceEqDiff, Nat.reduceAdd, Nat.reduceMul, Nat.reduceSub, Nat.reduceLeDiff, Nat.reduceBEq, Nat.reduceDiv, Nat.reduceMod, Int.reduceToNat, Int.reduceLT, Int.reduceLE, Int.reduceAdd, Int.reduceSub, Int.reduceMul, Int.reduceEq, Int.reduceNeg, reduceCtorEq, resV, resAll, ARes.ev, LV.flat, ite_true, ite_false, exists_eq_left', exists_eq_left, keyOf, implies_true, fillC, capOf]
    refine callK_of (hlist) ?_
    simp (disch := omega) only [f1, f2, f5, ↓SXd, SXu, slBounds, ↓sop, ↓aop, ↓reduceIte, LV.cells, AOp.dst, LV.I, LV.B, LV.U, LV.S, LV.nil, Nat.reduceEqDiff, Nat.reduceAdd, Nat.reduceMul, Nat.reduceSub, Nat.reduceLeDiff, Nat.reduceBEq, Nat.reduceDiv, Nat.reduceMod, Int.reduceToNat, Int.reduceLT, Int.reduceLE, Int.reduceAdd, Int.reduceSub, Int.reduceMul, Int.reduceEq, Int.reduceNeg, reduceCtorEq, resV, resAll, ARes.ev, LV.flat, ite_true, ite_false, exists_eq_left', exists_eq_left, keyOf, implies_true, fillC, capOf]
    refine callK_of (g_Shadow_box) ?_
    simp (disch := omega) only [f1, f2, f5, ↓SXd, SXu, slBounds, ↓sop, ↓aop, ↓reduceIte, LV.cells, AOp.dst, LV.I, LV.B, LV.U, LV.S, LV.nil, Nat.reduceEqDiff, Nat.reduceAdd, Nat.reduceMul, Nat.reduceSub, Nat.reduceLeDiff, Nat.reduceBEq, Nat.reduceDiv, Nat.reduceMod, Int.reduceToNat, Int.reduceLT, Int.reduceLE, Int.reduceAdd, Int.reduceSub, Int.reduceMul, Int.reduceEq, Int.reduceNeg, reduceCtorEq, resV, resAll, ARes.ev, LV.flat, ite_true, ite_false, exists_eq_left', exists_eq_left, keyOf, implies_true, fillC, capOf]
    have hgx := Ints.get (hI.app (L := [some (.row [.I c.a, .I c.b, .I c.c] true 0)])) (k := (lineOf y z c d).toNat) (by omega)
    refine callK_of (g_line hS hc hd3) ?_
    simp (disch := omega) only [f1, f2, f5, hgx, ↓SXd, SXu, slBounds, ↓sop, ↓aop, ↓reduceIte, LV.cells, AOp.dst, LV.I, LV.B, LV.U, LV.S, LV.nil, Nat.reduceEqDiff, Nat.reduceAdd, Nat.reduceMul, Nat.reduceSub, Nat.reduceLeDiff, Nat.reduceBEq, Nat.reduceDiv, Nat.reduceMod, Int.reduceToNat, Int.reduceLT, Int.reduceLE, Int.reduceAdd, Int.reduceSub, Int.reduceMul, Int.reduceEq, Int.reduceNeg, reduceCtorEq, resV, resAll, ARes.ev, LV.flat, ite_true, ite_false, exists_eq_left', exists_eq_left, keyOf, implies_true, fillC, capOf]
    by_cases hz : xs.getD (lineOf y z c d).toNat 0 = 0
    · simp (disch := omega) only [f1, f2, f5, hz, ↓SXd, SXu, slBounds, ↓sop, ↓aop, ↓reduceIte, LV.cells, AOp.dst, LV.I, LV.B, LV.U, LV.S, LV.nil, Nat.reduceEqDiff, Nat.reduceAdd, Nat.reduceMul, Nat.reduceSub, Nat.reduceLeDiff, Nat.reduceBEq, Nat.reduceDiv, Nat.reduceMod, Int.reduceToNat, Int.reduceLT, Int.reduceLE, Int.reduceAdd, Int.reduceSub, Int.reduceMul, Int.reduceEq, Int.reduceNeg, reduceCtorEq, resV, resAll, ARes.ev, LV.flat, ite_true, ite_false, exists_eq_left', exists_eq_left, keyOf, implies_true, fillC, capOf]
      rw [hmono hz]
      exact cmp_drop rfl
    · simp (disch := omega) only [f1, f2, f5, hz, ↓SXd, SXu, slBounds, ↓sop, ↓aop, ↓reduceIte, LV.cells, AOp.dst, LV.I, LV.B, LV.U, LV.S, LV.nil, Nat.reduceEqDiff, Nat.reduceAdd, Nat.reduceMul, Nat.reduceSub, Nat.reduceLeDiff, Nat.reduceBEq, Nat.reduceDiv, Nat.reduceMod, Int.reduceToNat, Int.reduceLT, Int.reduceLE, Int.reduceAdd, Int.reduceSub, Int.reduceMul, Int.reduceEq, Int.reduceNeg, reduceCtorEq, resV, resAll, ARes.ev, LV.flat, ite_true, ite_false, exists_eq_left', exists_eq_left, keyOf, implies_true, fillC, capOf]
      exact ⟨m - 1, by omega, d + 1, by omega, rfl, by rw [hsucc, hlit, decide_eq_false hz]; rfl, f1, f2, eqI (natI _)⟩
  · simp (disch := omega) only [f1, f2, f5, ↓SXd, SXu, slBounds, ↓sop, ↓aop, ↓reduceIte, LV.cells, AOp.dst, LV.I, LV.B, LV.U, LV.S, LV.nil, Nat.reduceEqDiff, Nat.reduceAdd, Nat.reduceMul, Nat.reduceSub, Nat.reduceLeDiff, Nat.reduceBEq, Nat.reduceDiv, Nat.reduceMod, Int.reduceToNat, Int.reduceLT, Int.reduceLE, Int.reduceAdd, Int.reduceSub, Int.reduceMul, Int.reduceEq, Int.reduceNeg, reduceCtorEq, resV, resAll, ARes.ev, LV.flat, ite_true, ite_false, exists_eq_left', exists_eq_left, keyOf, implies_true, fillC, capOf]
    have : d = 3 := by omega
    subst this
    rw [show allowedB y z tp fr sd c = true from hlit]
    exact cmp_drop rfl

theorem g_allowed {x y z : Int} {t o t' o' t2 o2 : Nat} {tp fr sd : List Int} {M : Mem} (h1 : Ints M t o tp) (h2 : Ints M t' o' fr) (h3 : Ints M t2 o2 sd) (hok : ShdOK x y z tp fr sd) :
    CallsTo PG F.impl_Shadow_allowed [.agg [.I x, .I y, .I z, .ref t o tp.length, .ref t' o' fr.length, .ref t2 o2 sd.length]] M (.W (bs x y z (allowedB y z tp fr sd))) M := by
  have hS := hok.1
  have hv := vol_cast hS
  refine calls_run K.impl_Shadow_allowed rfl ?_
  simp (disch := omega) only [C.impl_Shadow_allowed, ↓SXd, SXu, slBounds, ↓sop, ↓aop, ↓reduceIte, LV.cells, AOp.dst, LV.I, LV.B, LV.U, LV.S, LV.nil, Nat.reduceEqDiff, Nat.reduceAdd, Nat.reduceMul, Nat.reduceSub, Nat.reduceLeDiff, Nat.reduceBEq, Nat.reduceDiv, Nat.reduceMod, Int.reduceToNat, Int.reduceLT, Int.reduceLE, Int.reduceAdd, Int.reduceSub, Int.reduceMul, Int.reduceEq, Int.reduceNeg, reduceCtorEq, resV, resAll, ARes.ev, LV.flat, ite_true, ite_false, exists_eq_left', exists_eq_left, keyOf, implies_true, fillC, capOf]
  refine callK_of (g_Shadow_box) ?_
  simp (disch := omega) only [↓SXd, SXu, slBounds, ↓sop, ↓aop, ↓reduceIte, LV.cells, AOp.dst, LV.I, LV.B, LV.U, LV.S, LV.nil, Nat.reduceEqDiff, Nat.reduceAdd, Nat.reduceMul, Nat.reduceSub, Nat.reduceLeDiff, Nat.reduceBEq, Nat.reduceDiv, Nat.reduceMod, Int.reduceToNat, Int.reduceLT, Int.reduceLE, Int.reduceAdd, Int.reduceSub, Int.reduceMul, Int.reduceEq, Int.reduceNeg, reduceCtorEq, resV, resAll, ARes.ev, LV.flat, ite_true, ite_false, exists_eq_left', exists_eq_left, keyOf, implies_true, fillC, capOf]
  refine callK_of (g_those hS (p := allowedB y z tp fr sd) (f := F.impl_Shadow_allowed_1) (caps := [(M.length, 0)]) fun M' hp i hi => ?_) ?_
  · have hpM : Pre M M' := (Pre.app _ _).trans hp
    exact g_allowed_1 (h1.pre hpM) (h2.pre hpM) (h3.pre hpM) hok (cellAt_in hS (by omega) (by omega)).1 (Live.new.pre hp)
  simp (disch := omega) only [↓SXd, SXu, slBounds, ↓sop, ↓aop, ↓reduceIte, LV.cells, AOp.dst, LV.I, LV.B, LV.U, LV.S, LV.nil, Nat.reduceEqDiff, Nat.reduceAdd, Nat.reduceMul, Nat.reduceSub, Nat.reduceLeDiff, Nat.reduceBEq, Nat.reduceDiv, Nat.reduceMod, Int.reduceToNat, Int.reduceLT, Int.reduceLE, Int.reduceAdd, Int.reduceSub, Int.reduceMul, Int.reduceEq, Int.reduceNeg, reduceCtorEq, resV, resAll, ARes.ev, LV.flat, ite_true, ite_false, exists_eq_left', exists_eq_left, keyOf, implies_true, fillC, capOf]
  exact cmp_drop rfl
end Go.Ab

/- Plain: how often a line of a box is met by cells of a list; cells that are alone in a line. -/
namespace Go.Ab
open Go
set_option linter.unusedSimpArgs false
set_option linter.unusedVariables false

def onLine (y z : Int) (d : Nat) (i : Nat) (c : Cell) : Bool := decide ((lineOf y z c d).toNat = i)
theorem fold_get {y z : Int} {d : Nat} : ∀ {cs : List Cell} {v : List Int} {i : Nat}, i < v.length → (cs.foldl (viewStep y z d) v).getD i 0 = v.getD i 0 + (cs.countP (onLine y z d i) : Nat)
  | [], v, i, _ => by simp
  | c :: cs, v, i, h => by
    rw [List.foldl_cons, fold_get (by simpa [viewStep] using h), List.countP_cons]
    unfold viewStep
    rw [getD_set]
    by_cases e : (lineOf y z c d).toNat = i
    · rw [if_pos ⟨e.symm, by omega⟩, show onLine y z d i c = true from decide_eq_true e]
      subst e; simp; omega
    · rw [if_neg (fun h => e h.1.symm), show onLine y z d i c = false from decide_eq_false e]
      simp
theorem viewL_get {x y z : Int} {d i : Nat} {cs : List Cell} (h : i < (linesOf x y z d).toNat) : (viewL x y z d cs).getD i 0 = (cs.countP (onLine y z d i) : Nat) := by
  unfold viewL
  rw [fold_get (by simpa using h)]
  simp [List.getD_eq_getElem?_getD, List.getElem?_replicate, h]

/-- A cell alone, among cells, in one of its lines of the first k directions. -/
def aloneK (y z : Int) (cs : List Cell) : Nat → Cell → Bool
  | 0, _ => false
  | k + 1, c => aloneK y z cs k c || decide (cs.countP (onLine y z k (lineOf y z c k).toNat) = 1)
theorem aloneK_iff {y z : Int} {cs : List Cell} {c : Cell} : ∀ {k : Nat}, aloneK y z cs k c = true ↔ ∃ d, d < k ∧ cs.countP (onLine y z d (lineOf y z c d).toNat) = 1
  | 0 => by simp [aloneK]
  | k + 1 => by
    unfold aloneK
    rw [Bool.or_eq_true, aloneK_iff, decide_eq_true_iff]
    constructor
    · rintro (⟨d, h, e⟩ | e)
      · exact ⟨d, by omega, e⟩
      · exact ⟨k, by omega, e⟩
    · rintro ⟨d, h, e⟩
      by_cases hd : d < k
      · exact .inl ⟨d, hd, e⟩
      · exact .inr (by rw [← show d = k by omega]; exact e)

/-- The lit lines of a shadow. -/
def litL (xs : List Int) (n : Nat) : List Nat := (List.range n).filter fun i => decide (xs.getD i 0 = 1)
def litTo (tp fr sd : List Int) (d i : Nat) : List (Nat × Nat) := ((List.range d).flatMap fun e => (litL (shdList e tp fr sd) (shdList e tp fr sd).length).map fun j => (e, j)) ++ (litL (shdList d tp fr sd) i).map fun j => (d, j)
def lits (tp fr sd : List Int) : List (Nat × Nat) := litTo tp fr sd 3 0
theorem litTo_zero {tp fr sd : List Int} : litTo tp fr sd 0 0 = [] := rfl
theorem litTo_next {tp fr sd : List Int} {d : Nat} : litTo tp fr sd d (shdList d tp fr sd).length = litTo tp fr sd (d + 1) 0 := by
  unfold litTo
  rw [List.range_succ, List.flatMap_append]
  simp [litL]
theorem litTo_succ {tp fr sd : List Int} {d i : Nat} : litTo tp fr sd d (i + 1) = litTo tp fr sd d i ++ (if (shdList d tp fr sd).getD i 0 = 1 then [(d, i)] else []) := by
  unfold litTo litL
  rw [List.range_succ, List.filter_append, List.map_append, List.append_assoc]
  congr 2
  by_cases h : (shdList d tp fr sd).getD i 0 = 1
  · rw [if_pos h, List.filter_cons_of_pos (by simpa using h)]; rfl
  · rw [if_neg h, List.filter_cons_of_neg (by simpa using h)]; rfl
theorem mem_lits {tp fr sd : List Int} {d i : Nat} : (d, i) ∈ lits tp fr sd ↔ d < 3 ∧ i < (shdList d tp fr sd).length ∧ (shdList d tp fr sd).getD i 0 = 1 := by
  unfold lits litTo
  simp only [litL, List.range_zero, List.filter_nil, List.map_nil, List.append_nil, List.mem_flatMap, List.mem_map, List.mem_filter, List.mem_range, decide_eq_true_eq, Prod.mk.injEq]
  constructor
  · rintro ⟨e, he, j, ⟨hj, h1⟩, rfl, rfl⟩; exact ⟨he, hj, h1⟩
  · rintro ⟨he, hj, h1⟩; exact ⟨d, he, i, ⟨hj, h1⟩, rfl, rfl⟩
theorem litTo_len {tp fr sd : List Int} {n : Nat} (h : ∀ d, (shdList d tp fr sd).length ≤ n) : ∀ {d i : Nat}, i ≤ n → (litTo tp fr sd d i).length ≤ (d + 1) * n := by
  have hl : ∀ xs k, (litL xs k).length ≤ k := fun xs k => by
    unfold litL; have := List.length_filter_le (fun i => decide (xs.getD i 0 = 1)) (List.range k); simpa using this
  intro d
  induction d with
  | zero => intro i hi; have := hl (shdList 0 tp fr sd) i; simp [litTo]; omega
  | succ d ih =>
    intro i hi
    have h1 := ih (h d)
    rw [litTo_next] at h1
    have h2 : litTo tp fr sd (d + 1) i = litTo tp fr sd (d + 1) 0 ++ (litL (shdList (d + 1) tp fr sd) i).map fun j => (d + 1, j) := by
      unfold litTo; simp [litL]
    have h3 := hl (shdList (d + 1) tp fr sd) i
    rw [h2, List.length_append, List.length_map, Nat.succ_mul]; omega
/-- The cells of p in a line. -/
def inLine (y z : Int) (p : Cell → Bool) (q : Nat × Nat) (c : Cell) : Bool := p c && onLine y z q.1 q.2 c
/-- The lines as sets. -/
def lineSets (x y z : Int) (p : Cell → Bool) (L : List (Nat × Nat)) : List LV := L.map fun q => .W (bs x y z (inLine y z p q))
theorem lineSets_lo {x y z : Int} {p : Cell → Bool} {n : Nat} {L : List (Nat × Nat)} : (lineSets x y z p L).all (LV.lo1 n) = true := by
  rw [List.all_eq_true]; intro v hv
  obtain ⟨l, _, rfl⟩ := List.mem_map.1 hv
  rfl
theorem lineSets_len {x y z : Int} {p : Cell → Bool} {L : List (Nat × Nat)} : (lineSets x y z p L).length = L.length := by simp [lineSets]
theorem lineSets_get {x y z : Int} {p : Cell → Bool} {L : List (Nat × Nat)} {i : Nat} (h : i < L.length) : (lineSets x y z p L)[i]? = some (.W (bs x y z (inLine y z p (L.getD i (0, 0))))) := by
  simp [lineSets, h]

/-- Among the first k lit lines one has the cell, and no other allowed one. -/
def mustTo (x y z : Int) (p : Cell → Bool) (L : List (Nat × Nat)) (c : Cell) : Bool := decide (∃ q ∈ L, (pick x y z (inLine y z p q)).length = 1 ∧ inLine y z p q c = true)
theorem mustTo_snoc {x y z : Int} {p : Cell → Bool} {L : List (Nat × Nat)} {q : Nat × Nat} {c : Cell} : mustTo x y z p (L ++ [q]) c = (mustTo x y z p L c || (decide ((pick x y z (inLine y z p q)).length = 1) && inLine y z p q c)) := by
  unfold mustTo
  rw [Bool.eq_iff_iff]
  simp only [decide_eq_true_eq, Bool.or_eq_true, Bool.and_eq_true, List.mem_append, List.mem_singleton]
  constructor
  · rintro ⟨r, h | rfl, h1, h2⟩
    · exact .inl ⟨r, h, h1, h2⟩
    · exact .inr ⟨h1, h2⟩
  · rintro (⟨r, h, h1, h2⟩ | ⟨h1, h2⟩)
    · exact ⟨r, .inl h, h1, h2⟩
    · exact ⟨q, .inr rfl, h1, h2⟩
theorem pick_count {x y z : Int} {p : Cell → Bool} {q : Nat × Nat} : (pick x y z (inLine y z p q)).length = (pick x y z p).countP (onLine y z q.1 q.2) := by
  unfold pick
  rw [List.countP_filter, List.countP_eq_length_filter]
  congr 1
  apply List.filter_congr
  intro c _
  unfold inLine; rw [Bool.and_comm]
/-- The cells that must be: of a shadow that is clean where its allowed cells are. -/
theorem must_eq {x y z : Int} {tp fr sd : List Int} (hok : ShdOK x y z tp fr sd) {c : Cell} (hc : c.inBox x y z) :
    mustTo x y z (allowedB y z tp fr sd) (lits tp fr sd) c = (allowedB y z tp fr sd c && aloneK y z (pick x y z (allowedB y z tp fr sd)) 3 c) := by
  unfold mustTo
  rw [Bool.eq_iff_iff, Bool.and_eq_true, aloneK_iff, decide_eq_true_iff]
  constructor
  · rintro ⟨⟨d, i⟩, hq, h1, h2⟩
    obtain ⟨hd, hi, hl⟩ := mem_lits.1 hq
    unfold inLine at h2
    rw [Bool.and_eq_true] at h2
    refine ⟨h2.1, d, hd, ?_⟩
    rw [pick_count] at h1
    rw [show (lineOf y z c d).toNat = i from of_decide_eq_true h2.2]; exact h1
  · rintro ⟨ha, d, hd, h1⟩
    have hin := lineOf_in hok.1 hc hd
    obtain ⟨ho, hlen⟩ := hok.list hd
    have hne : (shdList d tp fr sd).getD (lineOf y z c d).toNat 0 ≠ 0 := (of_decide_eq_true ha) d hd
    have hlt : (lineOf y z c d).toNat < (shdList d tp fr sd).length := by omega
    have h01 := ho _ (getD_mem' (d := (0 : Int)) hlt)
    refine ⟨(d, (lineOf y z c d).toNat), mem_lits.2 ⟨hd, hlt, by omega⟩, ?_, ?_⟩
    · rw [pick_count]; exact h1
    · unfold inLine onLine; rw [ha]; simp
end Go.Ab

/- The abstract code of some functions (written by a program of mine from the translation, by way of prepF). -/
namespace Go.Ab.C
open Go.Ab
def impl_IsShadowOf : AFn :=
  ⟨2, 25, [.tmp 4, .tmp 5],
    .seq (.ops [(none, .box 2 (.t 0)),
       (none, .box 3 (.t 1)),
       (none, .mv 4 (.c (.B false))),
       (none, .mv 5 (.c (.B false)))])
    (.seq (.seq (.ops [(none, .loadN 6 6 (.t 2)),
         (none, .call (some 7) F.impl_IsShadow [(.t 6)]),
         (none, .un 8 .not (.t 7)),
         (none, .mv 9 (.t 8)),
         (some (9, false), .loadN 10 4 (.t 3)),
         (some (9, false), .call (some 11) F.impl_IsHeap [(.t 10)]),
         (some (9, false), .un 12 .not (.t 11)),
         (none, .pick 13 (.t 9) (.c (.B true)) (.t 12))])
      (.cond (.t 13) (.seq (.ops [(none, .mv 4 (.c (.B false))),
           (none, .mv 5 (.c (.B false)))])
        (.ret))
       (.skip)))
     (.seq (.draw [⟨(none, .loadN 14 6 (.t 2)), [], []⟩,
         ⟨(none, .loadN 16 4 (.t 3)), [], []⟩,
         ⟨(none, .call (some 15) F.impl_Shadow_box [(.t 14)]), [], [1]⟩,
         ⟨(none, .call (some 17) F.impl_Heap_box [(.t 16)]), [], []⟩,
         ⟨(none, .eqs 18 false 3 (.t 15) (.t 17)), [], []⟩,
         ⟨(none, .mv 19 (.t 18)), [], []⟩,
         ⟨(some (19, true), .loadN 20 6 (.t 2)), [], []⟩,
         ⟨(some (19, true), .loadN 21 4 (.t 3)), [], []⟩,
         ⟨(some (19, true), .call (some 22) F.impl_Heap_cubes [(.t 21)]), [], [6]⟩,
         ⟨(some (19, true), .call (some 23) F.impl_Shadow_isOf [(.t 20), (.t 22)]), [], []⟩,
         ⟨(none, .pick 24 (.t 19) (.t 23) (.c (.B false))), [], []⟩,
         ⟨(none, .mv 4 (.t 24)), [], []⟩,
         ⟨(none, .mv 5 (.c (.B true))), [], []⟩])
      (.ret)))⟩
def spec_IsShadowOf : AFn :=
  ⟨2, 38, [.tmp 4, .tmp 5],
    .seq (.ops [(none, .box 2 (.t 0)),
       (none, .box 3 (.t 1)),
       (none, .mv 4 (.c (.B false))),
       (none, .mv 5 (.c (.B false)))])
    (.seq (.seq (.ops [(none, .loadN 6 6 (.t 2)),
         (none, .call (some 7) F.spec_l3Shadow [(.t 6)]),
         (none, .un 8 .not (.t 7)),
         (none, .mv 9 (.t 8)),
         (some (9, false), .loadN 10 4 (.t 3)),
         (some (9, false), .call (some 11) F.spec_l2Heap [(.t 10)]),
         (some (9, false), .un 12 .not (.t 11)),
         (none, .pick 13 (.t 9) (.c (.B true)) (.t 12))])
      (.cond (.t 13) (.seq (.ops [(none, .mv 4 (.c (.B false))),
           (none, .mv 5 (.c (.B false)))])
        (.ret))
       (.skip)))
     (.seq (.ops [(none, .fieldAddr 14 (.t 2) 0),
         (none, .load1 15 (.t 14)),
         (none, .fieldAddr 16 (.t 3) 0),
         (none, .load1 17 (.t 16)),
         (none, .bin 18 .eql (.t 15) (.t 17)),
         (none, .mv 19 (.t 18)),
         (some (19, true), .fieldAddr 20 (.t 2) 1),
         (some (19, true), .load1 21 (.t 20)),
         (some (19, true), .fieldAddr 22 (.t 3) 1),
         (some (19, true), .load1 23 (.t 22)),
         (some (19, true), .bin 24 .eql (.t 21) (.t 23)),
         (none, .pick 25 (.t 19) (.t 24) (.c (.B false))),
         (none, .mv 26 (.t 25)),
         (some (26, true), .fieldAddr 27 (.t 2) 2),
         (some (26, true), .load1 28 (.t 27)),
         (some (26, true), .fieldAddr 29 (.t 3) 2),
         (some (26, true), .load1 30 (.t 29)),
         (some (26, true), .bin 31 .eql (.t 28) (.t 30)),
         (none, .pick 32 (.t 26) (.t 31) (.c (.B false))),
         (none, .mv 33 (.t 32)),
         (some (33, true), .loadN 34 6 (.t 2)),
         (some (33, true), .loadN 35 4 (.t 3)),
         (some (33, true), .call (some 36) F.spec_l3Has [(.t 34), (.t 35)]),
         (none, .pick 37 (.t 33) (.t 36) (.c (.B false))),
         (none, .mv 4 (.t 37)),
         (none, .mv 5 (.c (.B true)))])
      (.ret)))⟩
end Go.Ab.C

/- That the program has this code. -/
namespace Go.Ab.K
open Go Go.Ab
theorem impl_IsShadowOf : prepF Go.Proofs.Try.prog F.impl_IsShadowOf = some C.impl_IsShadowOf := by kernel_rfl
theorem spec_IsShadowOf : prepF Go.Proofs.Try.prog F.spec_IsShadowOf = some C.spec_IsShadowOf := by kernel_rfl
end Go.Ab.K

/- The abstract code of some functions (written by a program of mine from the translation, by way of prepF). -/
namespace Go.Ab.C
open Go.Ab
def impl_box_shadow : AFn :=
  ⟨2, 50, [.cellN 4 6],
    .seq (.ops [(none, .box 2 (.t 0)),
       (none, .alloc 4 [(.I 0), (.I 0), (.I 0), .nil, .nil, .nil])])
    (.seq (.ops [(none, .build 9 [.nil, .nil, .nil] []),
        (none, .alloc 5 [.nil, .nil, .nil]),
        (none, .store 3 (.t 5) (.t 9))])
     (.seq (.seq (.ops [(none, .mv 10 (.c (.I 0)))])
       (.block 0 (.loop (.seq (.ops [(none, .bin 11 .lss (.t 10) (.c (.I 3)))])
          (.seq (.cond (.t 11) (.skip)
            (.exit 0))
           (.seq (.block 1 (.seq (.ops [(none, .mv 12 (.t 10)),
                 (none, .mv 6 (.t 12))])
              (.seq (.ops [(none, .mv 13 (.t 6)),
                  (none, .loadN 14 3 (.t 2)),
                  (none, .mv 15 (.t 1)),
                  (none, .mv 16 (.t 6)),
                  (none, .call (some 17) F.impl_box_view [(.t 14), (.t 15), (.t 16)]),
                  (none, .idxA 18 3 1 (.t 5) (.t 13)),
                  (none, .store 1 (.t 18) (.t 17))])
               (.seq (.ops [(none, .mv 19 (.t 6)),
                   (none, .idxA 20 3 1 (.t 5) (.t 19)),
                   (none, .load1 21 (.t 20)),
                   (none, .len 22 (.t 21)),
                   (none, .mv 23 (.c (.I 0)))])
                (.block 2 (.loop (.seq (.ops [(none, .bin 24 .lss (.t 23) (.t 22))])
                   (.seq (.cond (.t 24) (.skip)
                     (.exit 2))
                    (.seq (.block 3 (.seq (.ops [(none, .mv 25 (.t 23)),
                          (none, .idxS 26 1 (.t 21) (.t 23)),
                          (none, .load1 27 (.t 26)),
                          (none, .mv 7 (.t 25)),
                          (none, .mv 8 (.t 27))])
                       (.ops [(none, .mv 28 (.t 6)),
                          (none, .idxA 29 3 1 (.t 5) (.t 28)),
                          (none, .load1 30 (.t 29)),
                          (none, .mv 31 (.t 7)),
                          (none, .mv 32 (.t 8)),
                          (none, .mm 33 false [(.t 32), (.c (.I 1))]),
                          (none, .idxS 34 1 (.t 30) (.t 31)),
                          (none, .store 1 (.t 34) (.t 33))])))
                     (.ops [(none, .bin 35 .add (.t 23) (.c (.I 1))),
                        (none, .mv 23 (.t 35))]))))))))))
            (.ops [(none, .bin 36 .add (.t 10) (.c (.I 1))),
               (none, .mv 10 (.t 36))])))))))
      (.seq (.ops [(none, .idxA 37 3 1 (.t 2) (.c (.I 0))),
          (none, .load1 38 (.t 37)),
          (none, .idxA 39 3 1 (.t 2) (.c (.I 1))),
          (none, .load1 40 (.t 39)),
          (none, .idxA 41 3 1 (.t 2) (.c (.I 2))),
          (none, .load1 42 (.t 41)),
          (none, .idxA 43 3 1 (.t 5) (.c (.I 2))),
          (none, .load1 44 (.t 43)),
          (none, .idxA 45 3 1 (.t 5) (.c (.I 1))),
          (none, .load1 46 (.t 45)),
          (none, .idxA 47 3 1 (.t 5) (.c (.I 0))),
          (none, .load1 48 (.t 47)),
          (none, .build 49 [(.I 0), (.I 0), (.I 0), .nil, .nil, .nil] [(0, 1, (.t 38)), (1, 1, (.t 40)), (2, 1, (.t 42)), (3, 1, (.t 44)), (4, 1, (.t 46)), (5, 1, (.t 48))]),
          (none, .store 6 (.t 4) (.t 49))])
       (.ret))))⟩
def impl_Shadow_same : AFn :=
  ⟨2, 31, [.tmp 4],
    .seq (.ops [(none, .box 2 (.t 0)),
       (none, .box 3 (.t 1)),
       (none, .mv 4 (.c (.B false)))])
    (.seq (.draw [⟨(none, .loadN 5 6 (.t 2)), [], []⟩,
        ⟨(none, .loadN 7 6 (.t 3)), [], []⟩,
        ⟨(none, .call (some 6) F.impl_Shadow_box [(.t 5)]), [], [1]⟩,
        ⟨(none, .call (some 8) F.impl_Shadow_box [(.t 7)]), [], []⟩,
        ⟨(none, .eqs 9 false 3 (.t 6) (.t 8)), [], []⟩,
        ⟨(none, .mv 10 (.t 9)), [], []⟩,
        ⟨(some (10, true), .fieldAddr 11 (.t 2) 3), [], []⟩,
        ⟨(some (10, true), .load1 12 (.t 11)), [], []⟩,
        ⟨(some (10, true), .fieldAddr 13 (.t 3) 3), [], []⟩,
        ⟨(some (10, true), .load1 14 (.t 13)), [], []⟩,
        ⟨(some (10, true), .call (some 15) F.slices_Equal_Sint_int [(.t 12), (.t 14)]), [], []⟩,
        ⟨(none, .pick 16 (.t 10) (.t 15) (.c (.B false))), [], []⟩,
        ⟨(none, .mv 17 (.t 16)), [], []⟩,
        ⟨(some (17, true), .fieldAddr 18 (.t 2) 4), [], []⟩,
        ⟨(some (17, true), .load1 19 (.t 18)), [], []⟩,
        ⟨(some (17, true), .fieldAddr 20 (.t 3) 4), [], []⟩,
        ⟨(some (17, true), .load1 21 (.t 20)), [], []⟩,
        ⟨(some (17, true), .call (some 22) F.slices_Equal_Sint_int [(.t 19), (.t 21)]), [], []⟩,
        ⟨(none, .pick 23 (.t 17) (.t 22) (.c (.B false))), [], []⟩,
        ⟨(none, .mv 24 (.t 23)), [], []⟩,
        ⟨(some (24, true), .fieldAddr 25 (.t 2) 5), [], []⟩,
        ⟨(some (24, true), .load1 26 (.t 25)), [], []⟩,
        ⟨(some (24, true), .fieldAddr 27 (.t 3) 5), [], []⟩,
        ⟨(some (24, true), .load1 28 (.t 27)), [], []⟩,
        ⟨(some (24, true), .call (some 29) F.slices_Equal_Sint_int [(.t 26), (.t 28)]), [], []⟩,
        ⟨(none, .pick 30 (.t 24) (.t 29) (.c (.B false))), [], []⟩,
        ⟨(none, .mv 4 (.t 30)), [], []⟩])
     (.ret))⟩
def impl_Shadow_isOf : AFn :=
  ⟨2, 11, [.tmp 4],
    .seq (.ops [(none, .box 2 (.t 0)),
       (none, .mv 4 (.c (.B false)))])
    (.seq (.draw [⟨(none, .loadN 5 6 (.t 2)), [], []⟩,
        ⟨(none, .loadN 6 6 (.t 2)), [], []⟩,
        ⟨(none, .mv 8 (.t 1)), [], []⟩,
        ⟨(none, .call (some 7) F.impl_Shadow_box [(.t 6)]), [], [0, 2]⟩,
        ⟨(none, .call (some 9) F.impl_box_shadow [(.t 7), (.t 8)]), [], [0]⟩,
        ⟨(none, .call (some 10) F.impl_Shadow_same [(.t 5), (.t 9)]), [], []⟩,
        ⟨(none, .mv 4 (.t 10)), [], []⟩])
     (.ret))⟩
def impl_Shadow_fits : AFn :=
  ⟨1, 7, [.tmp 2],
    .seq (.ops [(none, .box 1 (.t 0)),
       (none, .mv 2 (.c (.B false)))])
    (.seq (.draw [⟨(none, .loadN 3 6 (.t 1)), [], []⟩,
        ⟨(none, .loadN 4 6 (.t 1)), [], []⟩,
        ⟨(none, .call (some 5) F.impl_Shadow_allowed [(.t 4)]), [], [0]⟩,
        ⟨(none, .call (some 6) F.impl_Shadow_isOf [(.t 3), (.t 5)]), [], []⟩,
        ⟨(none, .mv 2 (.t 6)), [], []⟩])
     (.ret))⟩
def impl_isFitting : AFn :=
  ⟨1, 9, [.tmp 2],
    .seq (.ops [(none, .box 1 (.t 0)),
       (none, .mv 2 (.c (.B false)))])
    (.seq (.ops [(none, .loadN 3 6 (.t 1)),
        (none, .call (some 4) F.impl_IsShadow [(.t 3)]),
        (none, .mv 5 (.t 4)),
        (some (5, true), .loadN 6 6 (.t 1)),
        (some (5, true), .call (some 7) F.impl_Shadow_fits [(.t 6)]),
        (none, .pick 8 (.t 5) (.t 7) (.c (.B false))),
        (none, .mv 2 (.t 8))])
     (.ret))⟩
end Go.Ab.C

/- That the program has this code. -/
namespace Go.Ab.K
open Go Go.Ab
theorem impl_box_shadow : prepF Go.Proofs.Try.prog F.impl_box_shadow = some C.impl_box_shadow := by kernel_rfl
theorem impl_Shadow_same : prepF Go.Proofs.Try.prog F.impl_Shadow_same = some C.impl_Shadow_same := by kernel_rfl
theorem impl_Shadow_isOf : prepF Go.Proofs.Try.prog F.impl_Shadow_isOf = some C.impl_Shadow_isOf := by kernel_rfl
theorem impl_Shadow_fits : prepF Go.Proofs.Try.prog F.impl_Shadow_fits = some C.impl_Shadow_fits := by kernel_rfl
theorem impl_isFitting : prepF Go.Proofs.Try.prog F.impl_isFitting = some C.impl_isFitting := by kernel_rfl
end Go.Ab.K

/- The abstract code of some functions (written by a program of mine from the translation, by way of prepF). -/
namespace Go.Ab.C
open Go.Ab
def spec_l3Has : AFn :=
  ⟨2, 24, [.tmp 4],
    .seq (.ops [(none, .box 2 (.t 0)),
       (none, .box 3 (.t 1)),
       (none, .mv 4 (.c (.B false)))])
    (.seq (.draw [⟨(none, .loadN 5 4 (.t 3)), [], []⟩,
        ⟨(none, .fieldAddr 7 (.t 2) 3), [], []⟩,
        ⟨(none, .load1 8 (.t 7)), [], []⟩,
        ⟨(none, .call (some 6) F.spec_l2Top [(.t 5)]), [], [1, 2]⟩,
        ⟨(none, .call (some 9) F.spec_l1Same [(.t 6), (.t 8)]), [], []⟩,
        ⟨(none, .mv 10 (.t 9)), [], []⟩,
        ⟨(some (10, true), .loadN 11 4 (.t 3)), [], []⟩,
        ⟨(some (10, true), .fieldAddr 13 (.t 2) 4), [], []⟩,
        ⟨(some (10, true), .load1 14 (.t 13)), [], []⟩,
        ⟨(some (10, true), .call (some 12) F.spec_l2Front [(.t 11)]), [], [7, 8]⟩,
        ⟨(some (10, true), .call (some 15) F.spec_l1Same [(.t 12), (.t 14)]), [], []⟩,
        ⟨(none, .pick 16 (.t 10) (.t 15) (.c (.B false))), [], []⟩,
        ⟨(none, .mv 17 (.t 16)), [], []⟩,
        ⟨(some (17, true), .loadN 18 4 (.t 3)), [], []⟩,
        ⟨(some (17, true), .fieldAddr 20 (.t 2) 5), [], []⟩,
        ⟨(some (17, true), .load1 21 (.t 20)), [], []⟩,
        ⟨(some (17, true), .call (some 19) F.spec_l2Side [(.t 18)]), [], [14, 15]⟩,
        ⟨(some (17, true), .call (some 22) F.spec_l1Same [(.t 19), (.t 21)]), [], []⟩,
        ⟨(none, .pick 23 (.t 17) (.t 22) (.c (.B false))), [], []⟩,
        ⟨(none, .mv 4 (.t 23)), [], []⟩])
     (.ret))⟩
def spec_l3Fit : AFn :=
  ⟨1, 11, [.tmp 2],
    .seq (.ops [(none, .box 1 (.t 0)),
       (none, .mv 2 (.c (.B false)))])
    (.seq (.draw [⟨(none, .loadN 3 6 (.t 1)), [], []⟩,
        ⟨(none, .call (some 4) F.spec_l3Shadow [(.t 3)]), [], []⟩,
        ⟨(none, .mv 5 (.t 4)), [], []⟩,
        ⟨(some (5, true), .loadN 6 6 (.t 1)), [], []⟩,
        ⟨(some (5, true), .loadN 7 6 (.t 1)), [], []⟩,
        ⟨(some (5, true), .call (some 8) F.spec_l3Allowed [(.t 7)]), [], [3]⟩,
        ⟨(some (5, true), .call (some 9) F.spec_l3Has [(.t 6), (.t 8)]), [], []⟩,
        ⟨(none, .pick 10 (.t 5) (.t 9) (.c (.B false))), [], []⟩,
        ⟨(none, .mv 2 (.t 10)), [], []⟩])
     (.ret))⟩
end Go.Ab.C

/- That the program has this code. -/
namespace Go.Ab.K
open Go Go.Ab
theorem spec_l3Has : prepF Go.Proofs.Try.prog F.spec_l3Has = some C.spec_l3Has := by kernel_rfl
theorem spec_l3Fit : prepF Go.Proofs.Try.prog F.spec_l3Fit = some C.spec_l3Fit := by kernel_rfl
end Go.Ab.K

/- The abstract code of some functions (written by a program of mine from the translation, by way of prepF). -/
namespace Go.Ab.C
open Go.Ab
def spec_l2Ones : AFn :=
  ⟨1, 21, [.tmp 2],
    .seq (.ops [(none, .mv 2 (.c .nil))])
    (.seq (.ops [(none, .buildSl 5 0 1 [] []),
        (none, .mv 3 (.t 5))])
     (.seq (.seq (.ops [(none, .mv 4 (.c (.I 0)))])
       (.block 0 (.loop (.seq (.seq (.ops [(none, .mv 6 (.t 4)),
              (none, .mv 7 (.t 0)),
              (none, .len 8 (.t 7)),
              (none, .bin 9 .lss (.t 6) (.t 8))])
           (.cond (.t 9) (.skip)
            (.exit 0)))
          (.seq (.block 1 (.ops [(none, .mv 12 (.t 3)),
               (none, .mv 13 (.t 0)),
               (none, .mv 14 (.t 4)),
               (none, .idxS 15 1 (.t 13) (.t 14)),
               (none, .load1 16 (.t 15)),
               (none, .call (some 17) F.spec_l1Least [(.t 16), (.c (.I 1))]),
               (none, .buildSl 18 1 1 [(.I 0)] [(0, 1, (.t 17))]),
               (none, .append 19 1 8 (.t 12) (.t 18)),
               (none, .mv 3 (.t 19))]))
           (.ops [(none, .mv 10 (.t 4)),
              (none, .bin 11 .add (.t 10) (.c (.I 1))),
              (none, .mv 4 (.t 11))]))))))
      (.seq (.ops [(none, .mv 20 (.t 3)),
          (none, .mv 2 (.t 20))])
       (.ret))))⟩
def spec_l2Top : AFn :=
  ⟨1, 6, [.tmp 2],
    .seq (.ops [(none, .box 1 (.t 0)),
       (none, .mv 2 (.c .nil))])
    (.seq (.ops [(none, .loadN 3 4 (.t 1)),
        (none, .call (some 4) F.spec_l2View [(.t 3), (.c (.I 2))]),
        (none, .call (some 5) F.spec_l2Ones [(.t 4)]),
        (none, .mv 2 (.t 5))])
     (.ret))⟩
def spec_l2Front : AFn :=
  ⟨1, 6, [.tmp 2],
    .seq (.ops [(none, .box 1 (.t 0)),
       (none, .mv 2 (.c .nil))])
    (.seq (.ops [(none, .loadN 3 4 (.t 1)),
        (none, .call (some 4) F.spec_l2View [(.t 3), (.c (.I 1))]),
        (none, .call (some 5) F.spec_l2Ones [(.t 4)]),
        (none, .mv 2 (.t 5))])
     (.ret))⟩
def spec_l2Side : AFn :=
  ⟨1, 6, [.tmp 2],
    .seq (.ops [(none, .box 1 (.t 0)),
       (none, .mv 2 (.c .nil))])
    (.seq (.ops [(none, .loadN 3 4 (.t 1)),
        (none, .call (some 4) F.spec_l2View [(.t 3), (.c (.I 0))]),
        (none, .call (some 5) F.spec_l2Ones [(.t 4)]),
        (none, .mv 2 (.t 5))])
     (.ret))⟩
end Go.Ab.C

/- That the program has this code. -/
namespace Go.Ab.K
open Go Go.Ab
theorem spec_l2Ones : prepF Go.Proofs.Try.prog F.spec_l2Ones = some C.spec_l2Ones := by kernel_rfl
theorem spec_l2Top : prepF Go.Proofs.Try.prog F.spec_l2Top = some C.spec_l2Top := by kernel_rfl
theorem spec_l2Front : prepF Go.Proofs.Try.prog F.spec_l2Front = some C.spec_l2Front := by kernel_rfl
theorem spec_l2Side : prepF Go.Proofs.Try.prog F.spec_l2Side = some C.spec_l2Side := by kernel_rfl
end Go.Ab.K

/- The abstract code of some functions (written by a program of mine from the translation, by way of prepF). -/
namespace Go.Ab.C
open Go.Ab
def spec_l1Same : AFn :=
  ⟨2, 26, [.tmp 4],
    .seq (.ops [(none, .mv 4 (.c (.B false)))])
    (.seq (.seq (.ops [(none, .mv 6 (.t 0)),
         (none, .len 7 (.t 6)),
         (none, .mv 8 (.t 1)),
         (none, .len 9 (.t 8)),
         (none, .bin 10 .neq (.t 7) (.t 9))])
      (.cond (.t 10) (.seq (.ops [(none, .mv 4 (.c (.B false)))])
        (.ret))
       (.skip)))
     (.seq (.seq (.ops [(none, .mv 5 (.c (.I 0)))])
       (.block 0 (.loop (.seq (.seq (.ops [(none, .mv 11 (.t 5)),
              (none, .mv 12 (.t 0)),
              (none, .len 13 (.t 12)),
              (none, .bin 14 .lss (.t 11) (.t 13))])
           (.cond (.t 14) (.skip)
            (.exit 0)))
          (.seq (.block 1 (.seq (.draw [⟨(none, .mv 17 (.t 0)), [], []⟩,
                ⟨(none, .mv 18 (.t 5)), [], []⟩,
                ⟨(none, .idxS 19 1 (.t 17) (.t 18)), [], []⟩,
                ⟨(none, .load1 20 (.t 19)), [], []⟩,
                ⟨(none, .mv 21 (.t 1)), [], []⟩,
                ⟨(none, .mv 22 (.t 5)), [], []⟩,
                ⟨(none, .idxS 23 1 (.t 21) (.t 22)), [], []⟩,
                ⟨(none, .load1 24 (.t 23)), [], []⟩,
                ⟨(none, .bin 25 .neq (.t 20) (.t 24)), [], []⟩])
             (.cond (.t 25) (.seq (.ops [(none, .mv 4 (.c (.B false)))])
               (.ret))
              (.skip))))
           (.ops [(none, .mv 15 (.t 5)),
              (none, .bin 16 .add (.t 15) (.c (.I 1))),
              (none, .mv 5 (.t 16))]))))))
      (.seq (.ops [(none, .mv 4 (.c (.B true)))])
       (.ret))))⟩
def slices_Equal_Sint_int : AFn :=
  ⟨2, 26, [.tmp 4],
    .seq (.ops [(none, .mv 4 (.c (.B false)))])
    (.seq (.seq (.ops [(none, .mv 6 (.t 0)),
         (none, .len 7 (.t 6)),
         (none, .mv 8 (.t 1)),
         (none, .len 9 (.t 8)),
         (none, .bin 10 .neq (.t 7) (.t 9))])
      (.cond (.t 10) (.seq (.ops [(none, .mv 4 (.c (.B false)))])
        (.ret))
       (.skip)))
     (.seq (.seq (.ops [(none, .mv 11 (.t 0)),
          (none, .len 12 (.t 11)),
          (none, .mv 13 (.c (.I 0)))])
       (.block 0 (.loop (.seq (.ops [(none, .bin 14 .lss (.t 13) (.t 12))])
          (.seq (.cond (.t 14) (.skip)
            (.exit 0))
           (.seq (.block 1 (.seq (.ops [(none, .mv 15 (.t 13)),
                 (none, .mv 5 (.t 15))])
              (.seq (.draw [⟨(none, .mv 16 (.t 0)), [], []⟩,
                  ⟨(none, .mv 17 (.t 5)), [], []⟩,
                  ⟨(none, .idxS 18 1 (.t 16) (.t 17)), [], []⟩,
                  ⟨(none, .load1 19 (.t 18)), [], []⟩,
                  ⟨(none, .mv 20 (.t 1)), [], []⟩,
                  ⟨(none, .mv 21 (.t 5)), [], []⟩,
                  ⟨(none, .idxS 22 1 (.t 20) (.t 21)), [], []⟩,
                  ⟨(none, .load1 23 (.t 22)), [], []⟩,
                  ⟨(none, .bin 24 .neq (.t 19) (.t 23)), [], []⟩])
               (.cond (.t 24) (.seq (.ops [(none, .mv 4 (.c (.B false)))])
                 (.ret))
                (.skip)))))
            (.ops [(none, .bin 25 .add (.t 13) (.c (.I 1))),
               (none, .mv 13 (.t 25))])))))))
      (.seq (.ops [(none, .mv 4 (.c (.B true)))])
       (.ret))))⟩
end Go.Ab.C

/- That the program has this code. -/
namespace Go.Ab.K
open Go Go.Ab
theorem spec_l1Same : prepF Go.Proofs.Try.prog F.spec_l1Same = some C.spec_l1Same := by kernel_rfl
theorem slices_Equal_Sint_int : prepF Go.Proofs.Try.prog F.slices_Equal_Sint_int = some C.slices_Equal_Sint_int := by kernel_rfl
end Go.Ab.K

/- The abstract code of some functions (written by a program of mine from the translation, by way of prepF). -/
namespace Go.Ab.C
open Go.Ab
def spec_l2Others : AFn :=
  ⟨1, 9, [.tmp 2, .tmp 3],
    .seq (.ops [(none, .mv 2 (.c (.I 0))),
       (none, .mv 3 (.c (.I 0)))])
    (.seq (.seq (.ops [(none, .mv 4 (.t 0))])
      (.block 0 (.seq (.ops [(none, .bin 6 .eql (.t 4) (.c (.I 0))),
           (none, .mv 5 (.t 6))])
        (.cond (.t 5) (.seq (.ops [(none, .mv 2 (.c (.I 1))),
             (none, .mv 3 (.c (.I 2)))])
          (.ret))
         (.seq (.ops [(none, .bin 8 .eql (.t 4) (.c (.I 1))),
             (none, .mv 7 (.t 8))])
          (.cond (.t 7) (.seq (.ops [(none, .mv 2 (.c (.I 0))),
               (none, .mv 3 (.c (.I 2)))])
            (.ret))
           (.skip)))))))
     (.seq (.ops [(none, .mv 2 (.c (.I 0))),
         (none, .mv 3 (.c (.I 1)))])
      (.ret)))⟩
def spec_l2View : AFn :=
  ⟨2, 54, [.tmp 4],
    .seq (.ops [(none, .box 2 (.t 0)),
       (none, .mv 4 (.c .nil))])
    (.seq (.ops [(none, .mv 10 (.t 1)),
        (none, .call (some 11) F.spec_l2Others [(.t 10)]),
        (none, .mv 9 (.t 11)),
        (none, .extract 12 (.t 9) 0),
        (none, .extract 13 (.t 9) 1),
        (none, .mv 5 (.t 12)),
        (none, .mv 6 (.t 13))])
     (.seq (.draw [⟨(none, .loadN 14 4 (.t 2)), [], []⟩,
         ⟨(none, .mv 15 (.t 5)), [], []⟩,
         ⟨(none, .loadN 17 4 (.t 2)), [], []⟩,
         ⟨(none, .mv 18 (.t 6)), [], []⟩,
         ⟨(none, .call (some 16) F.spec_l2Long [(.t 14), (.t 15)]), [], [2, 3]⟩,
         ⟨(none, .call (some 19) F.spec_l2Long [(.t 17), (.t 18)]), [], []⟩,
         ⟨(none, .bin 20 .mul (.t 16) (.t 19)), [], []⟩,
         ⟨(none, .mksl 21 1 8 [(.I 0)] (.t 20) (.t 20)), [], []⟩,
         ⟨(none, .mv 7 (.t 21)), [], []⟩])
      (.seq (.seq (.ops [(none, .mv 8 (.c (.I 0)))])
        (.block 0 (.loop (.seq (.seq (.ops [(none, .mv 22 (.t 8)),
               (none, .fieldAddr 23 (.t 2) 3),
               (none, .load1 24 (.t 23)),
               (none, .len 25 (.t 24)),
               (none, .bin 26 .lss (.t 22) (.t 25))])
            (.cond (.t 26) (.skip)
             (.exit 0)))
           (.seq (.block 1 (.draw [⟨(none, .mv 29 (.t 7)), [], []⟩,
                ⟨(none, .fieldAddr 30 (.t 2) 3), [], []⟩,
                ⟨(none, .load1 31 (.t 30)), [], []⟩,
                ⟨(none, .mv 32 (.t 8)), [], []⟩,
                ⟨(none, .mv 33 (.t 5)), [], []⟩,
                ⟨(none, .idxS 34 3 (.t 31) (.t 32)), [], []⟩,
                ⟨(none, .idxA 35 3 1 (.t 34) (.t 33)), [], []⟩,
                ⟨(none, .load1 36 (.t 35)), [], []⟩,
                ⟨(none, .loadN 37 4 (.t 2)), [], []⟩,
                ⟨(none, .mv 38 (.t 6)), [], []⟩,
                ⟨(none, .fieldAddr 41 (.t 2) 3), [], []⟩,
                ⟨(none, .load1 42 (.t 41)), [], []⟩,
                ⟨(none, .mv 43 (.t 8)), [], []⟩,
                ⟨(none, .mv 44 (.t 6)), [], []⟩,
                ⟨(none, .idxS 45 3 (.t 42) (.t 43)), [], []⟩,
                ⟨(none, .idxA 46 3 1 (.t 45) (.t 44)), [], []⟩,
                ⟨(none, .load1 47 (.t 46)), [], []⟩,
                ⟨(none, .call (some 39) F.spec_l2Long [(.t 37), (.t 38)]), [], [0, 1, 2, 3, 4, 5, 6, 7, 10, 11, 12, 13, 14, 15, 16]⟩,
                ⟨(none, .bin 40 .mul (.t 36) (.t 39)), [], []⟩,
                ⟨(none, .bin 48 .add (.t 40) (.t 47)), [], []⟩,
                ⟨(none, .idxS 49 1 (.t 29) (.t 48)), [], []⟩,
                ⟨(none, .load1 50 (.t 49)), [], []⟩,
                ⟨(none, .bin 51 .add (.t 50) (.c (.I 1))), [], []⟩,
                ⟨(none, .idxS 52 1 (.t 29) (.t 48)), [], []⟩,
                ⟨(none, .store 1 (.t 52) (.t 51)), [], []⟩]))
            (.ops [(none, .mv 27 (.t 8)),
               (none, .bin 28 .add (.t 27) (.c (.I 1))),
               (none, .mv 8 (.t 28))]))))))
       (.seq (.ops [(none, .mv 53 (.t 7)),
           (none, .mv 4 (.t 53))])
        (.ret)))))⟩
end Go.Ab.C

/- That the program has this code. -/
namespace Go.Ab.K
open Go Go.Ab
theorem spec_l2Others : prepF Go.Proofs.Try.prog F.spec_l2Others = some C.spec_l2Others := by kernel_rfl
theorem spec_l2View : prepF Go.Proofs.Try.prog F.spec_l2View = some C.spec_l2View := by kernel_rfl
end Go.Ab.K

/- The abstract code of some functions (written by a program of mine from the translation, by way of prepF). -/
namespace Go.Ab.C
open Go.Ab
def spec_l8Made : AFn :=
  ⟨2, 71, [.cellN 4 4],
    .seq (.ops [(none, .box 2 (.t 0)),
       (none, .box 3 (.t 1)),
       (none, .alloc 4 [(.I 0), (.I 0), (.I 0), .nil])])
    (.seq (.draw [⟨(none, .loadN 9 4 (.t 2)), [], []⟩,
        ⟨(none, .fieldAddr 10 (.t 3) 0), [], []⟩,
        ⟨(none, .idxA 11 3 1 (.t 10) (.c (.I 0))), [], []⟩,
        ⟨(none, .load1 12 (.t 11)), [], []⟩,
        ⟨(none, .loadN 14 4 (.t 2)), [], []⟩,
        ⟨(none, .fieldAddr 15 (.t 3) 0), [], []⟩,
        ⟨(none, .idxA 16 3 1 (.t 15) (.c (.I 1))), [], []⟩,
        ⟨(none, .load1 17 (.t 16)), [], []⟩,
        ⟨(none, .loadN 19 4 (.t 2)), [], []⟩,
        ⟨(none, .fieldAddr 20 (.t 3) 0), [], []⟩,
        ⟨(none, .idxA 21 3 1 (.t 20) (.c (.I 2))), [], []⟩,
        ⟨(none, .load1 22 (.t 21)), [], []⟩,
        ⟨(none, .alloc 5 [(.I 0), (.I 0), (.I 0), .nil]), [], []⟩,
        ⟨(none, .call (some 13) F.spec_l2Long [(.t 9), (.t 12)]), [12], [4, 5, 6, 7, 8, 9, 10, 11]⟩,
        ⟨(none, .call (some 18) F.spec_l2Long [(.t 14), (.t 17)]), [12], [8, 9, 10, 11]⟩,
        ⟨(none, .call (some 23) F.spec_l2Long [(.t 19), (.t 22)]), [12], []⟩,
        ⟨(none, .call (some 24) F.spec_l2Empty [(.t 13), (.t 18), (.t 23)]), [12], []⟩,
        ⟨(none, .store 4 (.t 5) (.t 24)), [], []⟩])
     (.seq (.seq (.ops [(none, .mv 6 (.c (.I 0)))])
       (.block 0 (.loop (.seq (.seq (.ops [(none, .mv 25 (.t 6)),
              (none, .fieldAddr 26 (.t 2) 3),
              (none, .load1 27 (.t 26)),
              (none, .len 28 (.t 27)),
              (none, .bin 29 .lss (.t 25) (.t 28))])
           (.cond (.t 29) (.skip)
            (.exit 0)))
          (.seq (.block 1 (.seq (.ops [(none, .build 32 [(.I 0), (.I 0), (.I 0)] []),
                (none, .alloc 7 [(.I 0), (.I 0), (.I 0)]),
                (none, .store 3 (.t 7) (.t 32))])
             (.seq (.seq (.ops [(none, .mv 8 (.c (.I 0)))])
               (.block 2 (.loop (.seq (.seq (.ops [(none, .mv 33 (.t 8)),
                      (none, .bin 34 .lss (.t 33) (.c (.I 3)))])
                   (.cond (.t 34) (.skip)
                    (.exit 2)))
                  (.seq (.block 3 (.seq (.draw [⟨(none, .mv 37 (.t 8)), [], []⟩,
                        ⟨(none, .fieldAddr 38 (.t 2) 3), [], []⟩,
                        ⟨(none, .load1 39 (.t 38)), [], []⟩,
                        ⟨(none, .mv 40 (.t 6)), [], []⟩,
                        ⟨(none, .mv 41 (.t 8)), [], []⟩,
                        ⟨(none, .fieldAddr 42 (.t 3) 0), [], []⟩,
                        ⟨(none, .idxA 43 3 1 (.t 42) (.t 41)), [], []⟩,
                        ⟨(none, .load1 44 (.t 43)), [], []⟩,
                        ⟨(none, .idxS 45 3 (.t 39) (.t 40)), [], []⟩,
                        ⟨(none, .idxA 46 3 1 (.t 45) (.t 44)), [], []⟩,
                        ⟨(none, .load1 47 (.t 46)), [], []⟩,
                        ⟨(none, .idxA 48 3 1 (.t 7) (.t 37)), [], []⟩,
                        ⟨(none, .store 1 (.t 48) (.t 47)), [], []⟩])
                     (.seq (.ops [(none, .mv 49 (.t 8)),
                         (none, .fieldAddr 50 (.t 3) 3),
                         (none, .idxA 51 3 1 (.t 50) (.t 49)),
                         (none, .load1 52 (.t 51)),
                         (none, .bin 53 .eql (.t 52) (.c (.I 1)))])
                      (.cond (.t 53) (.draw [⟨(none, .mv 54 (.t 8)), [], []⟩,
                          ⟨(none, .loadN 55 4 (.t 2)), [], []⟩,
                          ⟨(none, .mv 56 (.t 8)), [], []⟩,
                          ⟨(none, .fieldAddr 57 (.t 3) 0), [], []⟩,
                          ⟨(none, .idxA 58 3 1 (.t 57) (.t 56)), [], []⟩,
                          ⟨(none, .load1 59 (.t 58)), [], []⟩,
                          ⟨(none, .mv 62 (.t 8)), [], []⟩,
                          ⟨(none, .idxA 63 3 1 (.t 7) (.t 62)), [], []⟩,
                          ⟨(none, .load1 64 (.t 63)), [], []⟩,
                          ⟨(none, .call (some 60) F.spec_l2Long [(.t 55), (.t 59)]), [], [0, 6, 7, 8]⟩,
                          ⟨(none, .bin 61 .sub (.t 60) (.c (.I 1))), [], []⟩,
                          ⟨(none, .bin 65 .sub (.t 61) (.t 64)), [], []⟩,
                          ⟨(none, .idxA 66 3 1 (.t 7) (.t 54)), [], []⟩,
                          ⟨(none, .store 1 (.t 66) (.t 65)), [], []⟩])
                       (.skip)))))
                   (.ops [(none, .mv 35 (.t 8)),
                      (none, .bin 36 .add (.t 35) (.c (.I 1))),
                      (none, .mv 8 (.t 36))]))))))
              (.ops [(none, .loadN 67 4 (.t 5)),
                 (none, .loadN 68 3 (.t 7)),
                 (none, .call (some 69) F.spec_l2With [(.t 67), (.t 68)]),
                 (none, .store 4 (.t 5) (.t 69))]))))
           (.ops [(none, .mv 30 (.t 6)),
              (none, .bin 31 .add (.t 30) (.c (.I 1))),
              (none, .mv 6 (.t 31))]))))))
      (.seq (.ops [(none, .loadN 70 4 (.t 5)),
          (none, .store 4 (.t 4) (.t 70))])
       (.ret))))⟩
end Go.Ab.C

/- That the program has this code. -/
namespace Go.Ab.K
open Go Go.Ab
theorem spec_l8Made : prepF Go.Proofs.Try.prog F.spec_l8Made = some C.spec_l8Made := by kernel_rfl
end Go.Ab.K

/- The abstract code of some functions (written by a program of mine from the translation, by way of prepF). -/
namespace Go.Ab.C
open Go.Ab
def spec_l8Odd : AFn :=
  ⟨1, 26, [.tmp 2],
    .seq (.ops [(none, .box 1 (.t 0)),
       (none, .mv 2 (.c (.I 0)))])
    (.seq (.ops [(none, .mv 3 (.c (.I 0)))])
     (.seq (.seq (.ops [(none, .mv 4 (.c (.I 0)))])
       (.block 0 (.loop (.seq (.seq (.ops [(none, .mv 6 (.t 4)),
              (none, .bin 7 .lss (.t 6) (.c (.I 3)))])
           (.cond (.t 7) (.skip)
            (.exit 0)))
          (.seq (.block 1 (.seq (.ops [(none, .mv 5 (.c (.I 0)))])
             (.block 2 (.loop (.seq (.seq (.ops [(none, .mv 10 (.t 5)),
                    (none, .mv 11 (.t 4)),
                    (none, .bin 12 .lss (.t 10) (.t 11))])
                 (.cond (.t 12) (.skip)
                  (.exit 2)))
                (.seq (.block 3 (.seq (.draw [⟨(none, .mv 15 (.t 5)), [], []⟩,
                      ⟨(none, .idxA 16 3 1 (.t 1) (.t 15)), [], []⟩,
                      ⟨(none, .load1 17 (.t 16)), [], []⟩,
                      ⟨(none, .mv 18 (.t 4)), [], []⟩,
                      ⟨(none, .idxA 19 3 1 (.t 1) (.t 18)), [], []⟩,
                      ⟨(none, .load1 20 (.t 19)), [], []⟩,
                      ⟨(none, .bin 21 .gtr (.t 17) (.t 20)), [], []⟩])
                   (.cond (.t 21) (.ops [(none, .mv 22 (.t 3)),
                       (none, .bin 23 .add (.t 22) (.c (.I 1))),
                       (none, .mv 3 (.t 23))])
                    (.skip))))
                 (.ops [(none, .mv 13 (.t 5)),
                    (none, .bin 14 .add (.t 13) (.c (.I 1))),
                    (none, .mv 5 (.t 14))])))))))
           (.ops [(none, .mv 8 (.t 4)),
              (none, .bin 9 .add (.t 8) (.c (.I 1))),
              (none, .mv 4 (.t 9))]))))))
      (.seq (.ops [(none, .mv 24 (.t 3)),
          (none, .bin 25 .rem (.t 24) (.c (.I 2))),
          (none, .mv 2 (.t 25))])
       (.ret))))⟩
def spec_l8Turns : AFn :=
  ⟨0, 62, [.tmp 0],
    .seq (.ops [(none, .mv 0 (.c .nil))])
    (.seq (.ops [(none, .buildSl 6 0 6 [] []),
        (none, .mv 1 (.t 6))])
     (.seq (.seq (.ops [(none, .mv 2 (.c (.I 0)))])
       (.block 0 (.loop (.seq (.seq (.ops [(none, .mv 7 (.t 2)),
              (none, .bin 8 .lss (.t 7) (.c (.I 3)))])
           (.cond (.t 8) (.skip)
            (.exit 0)))
          (.seq (.block 1 (.seq (.ops [(none, .mv 3 (.c (.I 0)))])
             (.block 2 (.loop (.seq (.seq (.ops [(none, .mv 11 (.t 3)),
                    (none, .bin 12 .lss (.t 11) (.c (.I 3)))])
                 (.cond (.t 12) (.skip)
                  (.exit 2)))
                (.seq (.block 3 (.seq (.ops [(none, .mv 4 (.c (.I 0)))])
                   (.block 4 (.loop (.seq (.seq (.ops [(none, .mv 15 (.t 4)),
                          (none, .bin 16 .lss (.t 15) (.c (.I 8))),
                          (none, .mv 17 (.t 16)),
                          (some (17, true), .mv 18 (.t 2)),
                          (some (17, true), .mv 19 (.t 3)),
                          (some (17, true), .bin 20 .neq (.t 18) (.t 19)),
                          (none, .pick 21 (.t 17) (.t 20) (.c (.B false)))])
                       (.cond (.t 21) (.skip)
                        (.exit 4)))
                      (.seq (.block 5 (.seq (.ops [(none, .mv 24 (.t 2)),
                            (none, .mv 25 (.t 3)),
                            (none, .mv 26 (.t 2)),
                            (none, .bin 27 .sub (.c (.I 3)) (.t 26)),
                            (none, .mv 28 (.t 3)),
                            (none, .bin 29 .sub (.t 27) (.t 28)),
                            (none, .build 30 [(.I 0), (.I 0), (.I 0)] [(0, 1, (.t 24)), (1, 1, (.t 25)), (2, 1, (.t 29))]),
                            (none, .mv 31 (.t 4)),
                            (none, .bin 32 .shr (.t 31) (.c (.U 2))),
                            (none, .bin 33 .and (.t 32) (.c (.I 1))),
                            (none, .mv 34 (.t 4)),
                            (none, .bin 35 .shr (.t 34) (.c (.U 1))),
                            (none, .bin 36 .and (.t 35) (.c (.I 1))),
                            (none, .mv 37 (.t 4)),
                            (none, .bin 38 .and (.t 37) (.c (.I 1))),
                            (none, .build 39 [(.I 0), (.I 0), (.I 0)] [(0, 1, (.t 33)), (1, 1, (.t 36)), (2, 1, (.t 38))]),
                            (none, .build 40 [(.I 0), (.I 0), (.I 0), (.I 0), (.I 0), (.I 0)] [(0, 3, (.t 30)), (3, 3, (.t 39))]),
                            (none, .alloc 5 [(.I 0), (.I 0), (.I 0), (.I 0), (.I 0), (.I 0)]),
                            (none, .store 6 (.t 5) (.t 40))])
                         (.seq (.draw [⟨(none, .fieldAddr 41 (.t 5) 0), [], []⟩,
                             ⟨(none, .loadN 42 3 (.t 41)), [], []⟩,
                             ⟨(none, .fieldAddr 44 (.t 5) 3), [], []⟩,
                             ⟨(none, .idxA 45 3 1 (.t 44) (.c (.I 0))), [], []⟩,
                             ⟨(none, .load1 46 (.t 45)), [], []⟩,
                             ⟨(none, .fieldAddr 47 (.t 5) 3), [], []⟩,
                             ⟨(none, .idxA 48 3 1 (.t 47) (.c (.I 1))), [], []⟩,
                             ⟨(none, .load1 49 (.t 48)), [], []⟩,
                             ⟨(none, .bin 50 .add (.t 46) (.t 49)), [], []⟩,
                             ⟨(none, .fieldAddr 51 (.t 5) 3), [], []⟩,
                             ⟨(none, .idxA 52 3 1 (.t 51) (.c (.I 2))), [], []⟩,
                             ⟨(none, .load1 53 (.t 52)), [], []⟩,
                             ⟨(none, .bin 54 .add (.t 50) (.t 53)), [], []⟩,
                             ⟨(none, .bin 55 .rem (.t 54) (.c (.I 2))), [], []⟩,
                             ⟨(none, .call (some 43) F.spec_l8Odd [(.t 42)]), [], [2, 3, 4, 5, 6, 7, 8, 9, 10, 11, 12, 13]⟩,
                             ⟨(none, .bin 56 .eql (.t 43) (.t 55)), [], []⟩])
                          (.cond (.t 56) (.ops [(none, .mv 57 (.t 1)),
                              (none, .loadN 58 6 (.t 5)),
                              (none, .buildSl 59 1 6 [(.I 0), (.I 0), (.I 0), (.I 0), (.I 0), (.I 0)] [(0, 6, (.t 58))]),
                              (none, .append 60 6 48 (.t 57) (.t 59)),
                              (none, .mv 1 (.t 60))])
                           (.skip)))))
                       (.ops [(none, .mv 22 (.t 4)),
                          (none, .bin 23 .add (.t 22) (.c (.I 1))),
                          (none, .mv 4 (.t 23))])))))))
                 (.ops [(none, .mv 13 (.t 3)),
                    (none, .bin 14 .add (.t 13) (.c (.I 1))),
                    (none, .mv 3 (.t 14))])))))))
           (.ops [(none, .mv 9 (.t 2)),
              (none, .bin 10 .add (.t 9) (.c (.I 1))),
              (none, .mv 2 (.t 10))]))))))
      (.seq (.ops [(none, .mv 61 (.t 1)),
          (none, .mv 0 (.t 61))])
       (.ret))))⟩
def spec_l2Long : AFn :=
  ⟨2, 14, [.tmp 4],
    .seq (.ops [(none, .box 2 (.t 0)),
       (none, .mv 4 (.c (.I 0)))])
    (.seq (.ops [(none, .fieldAddr 5 (.t 2) 0),
        (none, .load1 6 (.t 5)),
        (none, .fieldAddr 7 (.t 2) 1),
        (none, .load1 8 (.t 7)),
        (none, .fieldAddr 9 (.t 2) 2),
        (none, .load1 10 (.t 9)),
        (none, .build 11 [(.I 0), (.I 0), (.I 0)] [(0, 1, (.t 6)), (1, 1, (.t 8)), (2, 1, (.t 10))]),
        (none, .mv 12 (.t 1)),
        (none, .index 13 3 1 false (.t 11) (.t 12)),
        (none, .mv 4 (.t 13))])
     (.ret))⟩
end Go.Ab.C

/- That the program has this code. -/
namespace Go.Ab.K
open Go Go.Ab
theorem spec_l8Odd : prepF Go.Proofs.Try.prog F.spec_l8Odd = some C.spec_l8Odd := by kernel_rfl
theorem spec_l8Turns : prepF Go.Proofs.Try.prog F.spec_l8Turns = some C.spec_l8Turns := by kernel_rfl
theorem spec_l2Long : prepF Go.Proofs.Try.prog F.spec_l2Long = some C.spec_l2Long := by kernel_rfl
end Go.Ab.K

/- What laws are told of heaps as results. -/
namespace Go.Ab
open Go

structure Hp where
  x : Int
  y : Int
  z : Int
  cs : List Cell
def Hp.none : Hp := ⟨0, 0, 0, []⟩
abbrev Hp.row (r : Hp) (w : LV) : Blk := .row [.I r.x, .I r.y, .I r.z, w] true 0
/-- A heap, or the one of all zeros, what else there is, and whether there is one. -/
def HeapRes (M : Mem) (r : Option Hp) (ext : List LV) (v : LV) (N : Mem) : Prop :=
  ∃ w, v = .tup (.agg [.I (r.getD Hp.none).x, .I (r.getD Hp.none).y, .I (r.getD Hp.none).z, w] :: (ext ++ [.B r.isSome])) ∧ SlC N w (r.getD Hp.none).cs ∧ Newer M w ∧ Pre M N
theorem Older.off {M : Mem} {v : LV} {u : Nat} (h : Older M v) (hu : M.length ≤ u) : Off v u := by
  cases v with
  | ref t o n => have := h t o n rfl; show u ≠ t; omega
  | _ => trivial
end Go.Ab

/- Plain words: the 24 turns of a box. -/
namespace Go.Ab
open Go

def Cell.at (c : Cell) (d : Int) : Int := if d = 0 then c.a else if d = 1 then c.b else c.c
def Dir (d : Int) : Prop := d = 0 ∨ d = 1 ∨ d = 2
/-- How many pairs are out of order, modulo 2. -/
def oddOf (c : Cell) : Int := ((if c.a > c.b then 1 else 0) + (if c.a > c.c then 1 else 0) + (if c.b > c.c then 1 else 0)) % 2
structure Turn where
  fr : Cell
  fl : Cell
deriving DecidableEq
def Turn.row (t : Turn) : List LV := t.fr.row ++ t.fl.row
def sixL (l : List Turn) : List LV := l.flatMap Turn.row
/-- The turn that the n-th attempt finds. -/
def turnAt (n : Nat) : Option Turn :=
  if n / 24 ≠ n / 8 % 3 ∧ oddOf ⟨n / 24, n / 8 % 3, 3 - n / 24 - n / 8 % 3⟩ = (n % 8 / 4 + n % 8 / 2 % 2 + n % 8 % 2) % 2 then
    some ⟨⟨n / 24, n / 8 % 3, 3 - n / 24 - n / 8 % 3⟩, ⟨n % 8 / 4, n % 8 / 2 % 2, n % 8 % 2⟩⟩ else none
def turnsU (n : Nat) : List Turn := (List.range n).filterMap turnAt
theorem turnsU_succ {n : Nat} : turnsU (n + 1) = turnsU n ++ (turnAt n).toList := by
  unfold turnsU
  rw [List.range_succ, List.filterMap_append]
  cases h : turnAt n <;> simp [h]
def turns : List Turn := turnsU 72
theorem turns_len : turns.length = 24 := by decide +kernel
theorem turnsU_skip {a : Nat} (h : a < 3) : turnsU ((a * 3 + a) * 8) = turnsU ((a * 3 + (a + 1)) * 8) := by
  rcases (show a = 0 ∨ a = 1 ∨ a = 2 by omega) with rfl | rfl | rfl <;> decide +kernel
theorem turnsU_len {n : Nat} : (turnsU n).length ≤ n := by
  unfold turnsU
  have := List.length_filterMap_le turnAt (List.range n)
  simpa using this
theorem sixL_append (l m : List Turn) : sixL (l ++ m) = sixL l ++ sixL m := by simp [sixL]
theorem sixL_len (l : List Turn) : (sixL l).length = l.length * 6 := by
  induction l with
  | nil => rfl
  | cons t l ih => rw [show sixL (t :: l) = t.row ++ sixL l from rfl, List.length_append, ih, List.length_cons]; simp [Turn.row, Cell.row]; omega
theorem sixL_at {l : List Turn} : ∀ {k : Nat}, (hk : k < l.length) → ((sixL l).drop (k * 6)).take 6 = l[k].row := by
  induction l with
  | nil => intro k hk; simp at hk
  | cons t l ih =>
    intro k hk
    have e : sixL (t :: l) = t.row ++ sixL l := rfl
    have hr : t.row.length = 6 := rfl
    cases k with
    | zero => rw [e, Nat.zero_mul, List.drop_zero, List.take_append_of_le_length (by omega), List.take_of_length_le (by omega)]; rfl
    | succ k =>
      rw [e, List.drop_append, List.drop_eq_nil_of_le (by omega), List.nil_append, hr, show (k + 1) * 6 - 6 = k * 6 by omega, ih (by simpa using hk)]
      rfl

def sideOf (x y z d : Int) : Int := if d = 0 then x else if d = 1 then y else z
/-- A coordinate of a cell behind a turn: taken from direction s, mirrored or not. -/
def turnC (x y z : Int) (c : Cell) (s f : Int) : Int := if f = 1 then sideOf x y z s - 1 - c.at s else c.at s
def mapT (x y z : Int) (t : Turn) (c : Cell) : Cell := ⟨turnC x y z c t.fr.a t.fl.a, turnC x y z c t.fr.b t.fl.b, turnC x y z c t.fr.c t.fl.c⟩
/-- The three directions, in any order. -/
def OkT (t : Turn) : Prop := Dir t.fr.a ∧ Dir t.fr.b ∧ Dir t.fr.c
instance (d : Int) : Decidable (Dir d) := by unfold Dir; exact inferInstance
instance (t : Turn) : Decidable (OkT t) := by unfold OkT; exact inferInstance
theorem turns_ok : ∀ t ∈ turns, OkT t := by decide +kernel
def turnHp (x y z : Int) (t : Turn) (cs : List Cell) : Hp := ⟨sideOf x y z t.fr.a, sideOf x y z t.fr.b, sideOf x y z t.fr.c, pick (sideOf x y z t.fr.a) (sideOf x y z t.fr.b) (sideOf x y z t.fr.c) fun d => decide (d ∈ cs.map (mapT x y z t))⟩
section
variable {x y z : Int}
theorem sideOf_in (hS : Sides x y z) (d : Int) : 1 ≤ sideOf x y z d ∧ sideOf x y z d ≤ 4 := by
  obtain ⟨hx, hy, hz⟩ := hS
  unfold sideOf; split <;> (try split) <;> omega
theorem at_in {c : Cell} (hc : c.inBox x y z) (d : Int) : 0 ≤ c.at d ∧ c.at d < sideOf x y z d := by
  obtain ⟨⟨_, _⟩, ⟨_, _⟩, ⟨_, _⟩⟩ := hc
  unfold Cell.at sideOf; split <;> (try split) <;> omega
theorem turnC_in {c : Cell} (hc : c.inBox x y z) (s f : Int) : 0 ≤ turnC x y z c s f ∧ turnC x y z c s f ≤ sideOf x y z s - 1 := by
  have := at_in hc s
  unfold turnC; split <;> omega
theorem mapT_in {c : Cell} (hc : c.inBox x y z) (t : Turn) : (mapT x y z t c).inBox (sideOf x y z t.fr.a) (sideOf x y z t.fr.b) (sideOf x y z t.fr.c) := ⟨turnC_in hc _ _, turnC_in hc _ _, turnC_in hc _ _⟩
theorem turnSides (hS : Sides x y z) (t : Turn) : Sides (sideOf x y z t.fr.a) (sideOf x y z t.fr.b) (sideOf x y z t.fr.c) := ⟨sideOf_in hS _, sideOf_in hS _, sideOf_in hS _⟩
end
end Go.Ab
