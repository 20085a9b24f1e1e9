/- Parts of the proof of FnDominoesSaid: Uh Hb Hc Hd C_Dc2 K_Dc2 Dc2 C_De2 K_De2 C_De K_De De C_Dd2 K_Dd2 Dd2 De2 He C_Th K_Th C_Tg K_Tg C_Tf K_Tf C_Te K_Te Te Tf Tg Th C_Pe K_Pe C_Pc K_Pc C_Pb K_Pb Pa C_Nc K_Nc Nc Pb Oe Pc Pd Pe C_Wb K_Wb Va Wa C_Uk K_Uk C_Uj K_Uj C_Ui K_Ui Ui Uj Uk Wb C_Hh0 K_Hh0 Hh0 Hh C_Tl K_Tl C_Tk K_Tk C_Tj K_Tj Tj. -/
import Derived.Test.YtggnfklcgopflaaA6
import Derived.Test.YtggnfklcgopflaaA4
import Derived.Test.YtggnfklcgopflaaA3
import Derived.Test.YtggnfklcgopflaaProg
import Derived.KernelRfl
import Derived.Test.YtggnfklcgopflaaA5
set_option linter.all false
/- Contracts: views, the reference's side. -/
namespace Go.Ab
open Go
set_option linter.unusedSimpArgs false
set_option linter.unusedVariables false
set_option maxRecDepth 20000

theorem h_l2Others {d : Nat} {M : Mem} (hd : d < 3) : CallsTo PG F.spec_l2Others [.I d] M (.tup [.I (if d = 0 then 1 else 0), .I (if d = 2 then 1 else 2)]) M := by
  refine calls_run K.spec_l2Others rfl ?_
  rcases (show d = 0 ∨ d = 1 ∨ d = 2 by omega) with rfl | rfl | rfl
  all_goals
    simp (disch := omega) only [C.spec_l2Others, ↓SXd, SXu, slBounds, ↓sop, ↓aop, ↓reduceIte, LV.cells, AOp.dst, LV.I, LV.B, LV.U, LV.S, LV.nil, Nat.reduceEqDiff, Nat.reduceAdd, Nat.reduceMul, Nat.reduceSub, Nat.reduceLeDiff, Nat.reduceBEq, Nat.reduceDiv, Nat.reduceMod, Int.reduceToNat, Int.reduceLT, Int.reduceLE, Int.reduceAdd, Int.reduceSub, Int.reduceMul, Int.reduceEq, Int.reduceNeg, reduceCtorEq, resV, resAll, ARes.ev, LV.flat, ite_true, ite_false, exists_eq_left', exists_eq_left, keyOf, implies_true, fillC, capOf]
    exact cmp_drop0 rfl
theorem h_l2View {x y z : Int} {d t o : Nat} {cs : List Cell} {M : Mem} (h : Tri M t o cs) (hH : HeapOK x y z cs) (hd : d < 3) : CallsTo PG F.spec_l2View [.agg [.I x, .I y, .I z, .ref t o cs.length], .I d] M (.ref M.length 0 (viewL x y z d cs).length) (M ++ [some (.row (intL (viewL x y z d cs)) true 1)]) := by
  have hS := hH.1
  have hlp : 1 ≤ linesOf x y z d ∧ linesOf x y z d ≤ 16 := by
    have := prod_le hS
    rcases (show d = 0 ∨ d = 1 ∨ d = 2 by omega) with rfl | rfl | rfl
    · exact this.2.2
    · exact this.2.1
    · exact this.1
  have hlen := hH.len
  have ht := h.lt
  have hz : ∀ j, 0 ≤ (List.replicate (linesOf x y z d).toNat (0 : Int)).getD j 0 ∧ (List.replicate (linesOf x y z d).toNat (0 : Int)).getD j 0 ≤ 0 := fun j => by
    rw [List.getD_eq_getElem?_getD, List.getElem?_replicate]; split <;> simp
  have hvl := viewL_len (x := x) (y := y) (z := z) (d := d) (cs := cs)
  have hda : Dir (if d = 0 then 1 else 0) := by unfold Dir; split <;> omega
  have hdb : Dir (if d = 2 then 1 else 2) := by unfold Dir; split <;> omega
  have hprod : sideOf x y z (if d = 0 then 1 else 0) * sideOf x y z (if d = 2 then 1 else 2) = linesOf x y z d := by
    rcases (show d = 0 ∨ d = 1 ∨ d = 2 by omega) with rfl | rfl | rfl <;> rfl
  have hline : ∀ c : Cell, c.at (if d = 0 then 1 else 0) * sideOf x y z (if d = 2 then 1 else 2) + c.at (if d = 2 then 1 else 2) = lineOf y z c d := fun c => by
    rcases (show d = 0 ∨ d = 1 ∨ d = 2 by omega) with rfl | rfl | rfl <;> rfl
  have hrA : 0 ≤ (if d = 0 then (1 : Int) else 0) ∧ (if d = 0 then (1 : Int) else 0) < 3 := by split <;> omega
  have hrB : 0 ≤ (if d = 2 then (1 : Int) else 2) ∧ (if d = 2 then (1 : Int) else 2) < 3 := by split <;> omega
  refine calls_run K.spec_l2View rfl ?_
  simp (disch := omega) only [C.spec_l2View, ↓SXd, SXu, slBounds, ↓sop, ↓aop, ↓reduceIte, LV.cells, AOp.dst, LV.I, LV.B, LV.U, LV.S, LV.nil, Nat.reduceEqDiff, Nat.reduceAdd, Nat.reduceMul, Nat.reduceSub, Nat.reduceLeDiff, Nat.reduceBEq, Nat.reduceDiv, Nat.reduceMod, Int.reduceToNat, Int.reduceLT, Int.reduceLE, Int.reduceAdd, Int.reduceSub, Int.reduceMul, Int.reduceEq, Int.reduceNeg, reduceCtorEq, resV, resAll, ARes.ev, LV.flat, ite_true, ite_false, exists_eq_left', exists_eq_left, keyOf, implies_true, fillC, capOf]
  refine callK_of (h_l2Others hd) ?_
  simp (disch := omega) only [↓SXd, SXu, slBounds, ↓sop, ↓aop, ↓reduceIte, LV.cells, AOp.dst, LV.I, LV.B, LV.U, LV.S, LV.nil, Nat.reduceEqDiff, Nat.reduceAdd, Nat.reduceMul, Nat.reduceSub, Nat.reduceLeDiff, Nat.reduceBEq, Nat.reduceDiv, Nat.reduceMod, Int.reduceToNat, Int.reduceLT, Int.reduceLE, Int.reduceAdd, Int.reduceSub, Int.reduceMul, Int.reduceEq, Int.reduceNeg, reduceCtorEq, resV, resAll, ARes.ev, LV.flat, ite_true, ite_false, exists_eq_left', exists_eq_left, keyOf, implies_true, fillC, capOf]
  generalize (if d = 0 then (1 : Int) else 0) = A at hda hprod hline hrA ⊢
  generalize (if d = 2 then (1 : Int) else 2) = B at hdb hprod hline hrB ⊢
  obtain ⟨rA1, rA2⟩ := hrA
  obtain ⟨rB1, rB2⟩ := hrB
  refine callK_of (h_l2Long hda) ?_
  simp (disch := omega) only [↓SXd, SXu, slBounds, ↓sop, ↓aop, ↓reduceIte, LV.cells, AOp.dst, LV.I, LV.B, LV.U, LV.S, LV.nil, Nat.reduceEqDiff, Nat.reduceAdd, Nat.reduceMul, Nat.reduceSub, Nat.reduceLeDiff, Nat.reduceBEq, Nat.reduceDiv, Nat.reduceMod, Int.reduceToNat, Int.reduceLT, Int.reduceLE, Int.reduceAdd, Int.reduceSub, Int.reduceMul, Int.reduceEq, Int.reduceNeg, reduceCtorEq, resV, resAll, ARes.ev, LV.flat, ite_true, ite_false, exists_eq_left', exists_eq_left, keyOf, implies_true, fillC, capOf]
  refine callK_of (h_l2Long hdb) ?_
  simp (disch := omega) only [hprod, made_int, ↓SXd, SXu, slBounds, ↓sop, ↓aop, ↓reduceIte, LV.cells, AOp.dst, LV.I, LV.B, LV.U, LV.S, LV.nil, Nat.reduceEqDiff, Nat.reduceAdd, Nat.reduceMul, Nat.reduceSub, Nat.reduceLeDiff, Nat.reduceBEq, Nat.reduceDiv, Nat.reduceMod, Int.reduceToNat, Int.reduceLT, Int.reduceLE, Int.reduceAdd, Int.reduceSub, Int.reduceMul, Int.reduceEq, Int.reduceNeg, reduceCtorEq, resV, resAll, ARes.ev, LV.flat, ite_true, ite_false, exists_eq_left', exists_eq_left, keyOf, implies_true, fillC, capOf]
  refine ev_loop (fun m fr M' => ∃ i : Nat, i + m = cs.length ∧ Pre M M' ∧ Live M' M.length (.row [.I x, .I y, .I z, .ref t o cs.length] true 0) ∧ Live M' (M.length + 1) (.row (intL ((cs.take i).foldl (viewStep y z d) (List.replicate (linesOf x y z d).toNat 0))) true 1) ∧
    fr 2 = .ptr M.length 0 ∧ fr 5 = .I A ∧ fr 6 = .I B ∧ fr 7 = .ref (M.length + 1) 0 (linesOf x y z d).toNat ∧ fr 8 = .I i) cs.length
    ⟨0, by omega, Pre.app _ _, Live.new, Live.newj rfl, rfl, rfl, rfl, rfl, rfl⟩ ?_
  rintro m fr M' ⟨i, hi, hpre, b2, bo, f2, f5, f6, f7, f8⟩
  simp (disch := omega) only [f2, f5, f6, f7, f8, b2.cell, ↓SXd, SXu, slBounds, ↓sop, ↓aop, ↓reduceIte, LV.cells, AOp.dst, LV.I, LV.B, LV.U, LV.S, LV.nil, Nat.reduceEqDiff, Nat.reduceAdd, Nat.reduceMul, Nat.reduceSub, Nat.reduceLeDiff, Nat.reduceBEq, Nat.reduceDiv, Nat.reduceMod, Int.reduceToNat, Int.reduceLT, Int.reduceLE, Int.reduceAdd, Int.reduceSub, Int.reduceMul, Int.reduceEq, Int.reduceNeg, reduceCtorEq, resV, resAll, ARes.ev, LV.flat, ite_true, ite_false, exists_eq_left', exists_eq_left, keyOf, implies_true, fillC, capOf]
  refine condC_dec (fun hlt => ?_) (fun hlt => ?_)
  · have hil : i < cs.length := by omega
    have hc := hH.mem (getD_mem' (d := default) hil)
    have gA := Tri.gets_at (h.pre hpre) hil hda
    have gB := Tri.gets_at (h.pre hpre) hil hdb
    have htf := take_foldl (y := y) (z := z) (d := d) (v := List.replicate (linesOf x y z d).toNat 0) hil
    have hbd := fold_bound (y := y) (z := z) (d := d) (cs := cs.take i) hz
    have hfl := foldl_len (y := y) (z := z) (d := d) (cs := cs.take i) (v := List.replicate (linesOf x y z d).toNat 0)
    have htl := List.length_take_le i cs
    rw [List.length_replicate] at hfl
    generalize cs.getD i default = c at gA gB hc htf
    generalize (cs.take i).foldl (viewStep y z d) (List.replicate (linesOf x y z d).toNat 0) = v at bo htf hbd hfl
    obtain ⟨l1, l2⟩ := lineOf_in hS hc hd
    obtain ⟨v1, v2⟩ := hbd (lineOf y z c d).toNat
    have hlt2 : (lineOf y z c d).toNat < v.length := by omega
    have hlc := hline c
    have aA := at_in hc A
    have aB := at_in hc B
    have sB := sideOf_in hS B
    have sA := sideOf_in hS A
    have hmul : 0 ≤ c.at A * sideOf x y z B ∧ c.at A * sideOf x y z B ≤ 16 := by
      rcases (show sideOf x y z B = 1 ∨ sideOf x y z B = 2 ∨ sideOf x y z B = 3 ∨ sideOf x y z B = 4 by omega) with e | e | e | e <;> rw [e] <;> omega
    have hcell := bo.cell (o := (lineOf y z c d).toNat)
    rw [intL_get hlt2] at hcell
    simp (disch := omega) only [f2, f5, f6, f7, f8, b2.cell, b2.cells, gA, gB, Nat.mul_one, Nat.zero_add, ↓SXd, SXu, slBounds, ↓sop, ↓aop, ↓reduceIte, LV.cells, AOp.dst, LV.I, LV.B, LV.U, LV.S, LV.nil, Nat.reduceEqDiff, Nat.reduceAdd, Nat.reduceMul, Nat.reduceSub, Nat.reduceLeDiff, Nat.reduceBEq, Nat.reduceDiv, Nat.reduceMod, Int.reduceToNat, Int.reduceLT, Int.reduceLE, Int.reduceAdd, Int.reduceSub, Int.reduceMul, Int.reduceEq, Int.reduceNeg, reduceCtorEq, resV, resAll, ARes.ev, LV.flat, ite_true, ite_false, exists_eq_left', exists_eq_left, keyOf, implies_true, fillC, capOf]
    refine callK_of (h_l2Long hdb) ?_
    simp (disch := omega) only [f2, f5, f6, f7, f8, hlc, hcell, Nat.mul_one, Nat.zero_add, ↓SXd, SXu, slBounds, ↓sop, ↓aop, ↓reduceIte, LV.cells, AOp.dst, LV.I, LV.B, LV.U, LV.S, LV.nil, Nat.reduceEqDiff, Nat.reduceAdd, Nat.reduceMul, Nat.reduceSub, Nat.reduceLeDiff, Nat.reduceBEq, Nat.reduceDiv, Nat.reduceMod, Int.reduceToNat, Int.reduceLT, Int.reduceLE, Int.reduceAdd, Int.reduceSub, Int.reduceMul, Int.reduceEq, Int.reduceNeg, reduceCtorEq, resV, resAll, ARes.ev, LV.flat, ite_true, ite_false, exists_eq_left', exists_eq_left, keyOf, implies_true, fillC, capOf]
    refine memK_int bo hlt2 fun N k1 k2 k3 => ?_
    simp (disch := omega) only [f2, f5, f6, f7, f8, ↓SXd, SXu, slBounds, ↓sop, ↓aop, ↓reduceIte, LV.cells, AOp.dst, LV.I, LV.B, LV.U, LV.S, LV.nil, Nat.reduceEqDiff, Nat.reduceAdd, Nat.reduceMul, Nat.reduceSub, Nat.reduceLeDiff, Nat.reduceBEq, Nat.reduceDiv, Nat.reduceMod, Int.reduceToNat, Int.reduceLT, Int.reduceLE, Int.reduceAdd, Int.reduceSub, Int.reduceMul, Int.reduceEq, Int.reduceNeg, reduceCtorEq, resV, resAll, ARes.ev, LV.flat, ite_true, ite_false, exists_eq_left', exists_eq_left, keyOf, implies_true, fillC, capOf]
    rw [show v.set (lineOf y z c d).toNat (v.getD (lineOf y z c d).toNat 0 + 1) = viewStep y z d v c from rfl, ← htf] at k2
    exact ⟨m - 1, by omega, i + 1, by omega, pre_step hpre (by omega) (j := 0) k1 k3, live_step b2 (by omega) k3, k2, f2, f5, f6, f7, eqI (natI _)⟩
  · simp (disch := omega) only [f2, f5, f6, f7, f8, ↓SXd, SXu, slBounds, ↓sop, ↓aop, ↓reduceIte, LV.cells, AOp.dst, LV.I, LV.B, LV.U, LV.S, LV.nil, Nat.reduceEqDiff, Nat.reduceAdd, Nat.reduceMul, Nat.reduceSub, Nat.reduceLeDiff, Nat.reduceBEq, Nat.reduceDiv, Nat.reduceMod, Int.reduceToNat, Int.reduceLT, Int.reduceLE, Int.reduceAdd, Int.reduceSub, Int.reduceMul, Int.reduceEq, Int.reduceNeg, reduceCtorEq, resV, resAll, ARes.ev, LV.flat, ite_true, ite_false, exists_eq_left', exists_eq_left, keyOf, implies_true, fillC, capOf]
    have : i = cs.length := by omega
    subst this
    rw [List.take_length] at bo
    change Live M' (M.length + 1) (.row (intL (viewL x y z d cs)) true 1) at bo
    exact cmp_keepL hpre (by omega) bo (intL_lo _) (by simp [rn, rn0, rn1, hvl])
end Go.Ab

/- Contracts: the cells without cubes, as a heap, and stacks; the reference's side. -/
namespace Go.Ab
open Go
set_option linter.unusedSimpArgs false
set_option linter.unusedVariables false
set_option maxRecDepth 20000

theorem take_snoc' {α : Type} {l : List α} {i : Nat} {d : α} (h : i < l.length) : l.take (i + 1) = l.take i ++ [l.getD i d] := by
  rw [List.take_succ, List.getElem?_eq_getElem h]; simp [h]
section
variable {x y z : Int} {t o : Nat} {cs : List Cell} {M : Mem} (h : Tri M t o cs) (hn : cs.length ≤ 1000000000)
include h hn
theorem h_OtherCells : CallsR PG F.spec_OtherCells [.agg [.I x, .I y, .I z, .ref t o cs.length]] M fun v N => (HeapOK x y z cs → ∃ u, v = .tup [.agg [.I x, .I y, .I z, .ref u 0 (pick x y z (freeP cs)).length], .B true] ∧ Live N u (.row (triL (pick x y z (freeP cs))) true 3) ∧ M.length ≤ u) ∧ (¬ HeapOK x y z cs → v = .tup [.agg [.I 0, .I 0, .I 0, .nil], .B false]) ∧ Pre M N := by
  refine callsR_run K.spec_OtherCells rfl ?_
  simp (disch := omega) only [C.spec_OtherCells, ↓SXd, SXu, slBounds, ↓sop, ↓aop, ↓reduceIte, LV.cells, AOp.dst, LV.I, LV.B, LV.U, LV.S, LV.nil, Nat.reduceEqDiff, Nat.reduceAdd, Nat.reduceMul, Nat.reduceSub, Nat.reduceLeDiff, Nat.reduceBEq, Nat.reduceDiv, Nat.reduceMod, Int.reduceToNat, Int.reduceLT, Int.reduceLE, Int.reduceAdd, Int.reduceSub, Int.reduceMul, Int.reduceEq, Int.reduceNeg, reduceCtorEq, resV, resAll, ARes.ev, LV.flat, ite_true, ite_false, exists_eq_left', exists_eq_left, keyOf, implies_true, fillC, capOf]
  refine callK_of (h_l2Heap h.app hn) ?_
  simp (disch := omega) only [↓SXd, SXu, slBounds, ↓sop, ↓aop, ↓reduceIte, LV.cells, AOp.dst, LV.I, LV.B, LV.U, LV.S, LV.nil, Nat.reduceEqDiff, Nat.reduceAdd, Nat.reduceMul, Nat.reduceSub, Nat.reduceLeDiff, Nat.reduceBEq, Nat.reduceDiv, Nat.reduceMod, Int.reduceToNat, Int.reduceLT, Int.reduceLE, Int.reduceAdd, Int.reduceSub, Int.reduceMul, Int.reduceEq, Int.reduceNeg, reduceCtorEq, resV, resAll, ARes.ev, LV.flat, ite_true, ite_false, exists_eq_left', exists_eq_left, keyOf, implies_true, fillC, capOf]
  by_cases hH : HeapOK x y z cs
  · rw [decide_eq_true hH]
    have hS := hH.1
    have hv := vol_cast hS
    have ht := h.lt
    have hcl : (cellsOf x y z).length = vol x y z := by simp [cellsOf]
    simp (disch := omega) only [↓SXd, SXu, slBounds, ↓sop, ↓aop, ↓reduceIte, LV.cells, AOp.dst, LV.I, LV.B, LV.U, LV.S, LV.nil, Nat.reduceEqDiff, Nat.reduceAdd, Nat.reduceMul, Nat.reduceSub, Nat.reduceLeDiff, Nat.reduceBEq, Nat.reduceDiv, Nat.reduceMod, Int.reduceToNat, Int.reduceLT, Int.reduceLE, Int.reduceAdd, Int.reduceSub, Int.reduceMul, Int.reduceEq, Int.reduceNeg, reduceCtorEq, resV, resAll, ARes.ev, LV.flat, ite_true, ite_false, exists_eq_left', exists_eq_left, keyOf, implies_true, fillC, capOf]
    refine callK_of (h_l2Empty) ?_
    simp (disch := omega) only [splice, ↓SXd, SXu, slBounds, ↓sop, ↓aop, ↓reduceIte, LV.cells, AOp.dst, LV.I, LV.B, LV.U, LV.S, LV.nil, Nat.reduceEqDiff, Nat.reduceAdd, Nat.reduceMul, Nat.reduceSub, Nat.reduceLeDiff, Nat.reduceBEq, Nat.reduceDiv, Nat.reduceMod, Int.reduceToNat, Int.reduceLT, Int.reduceLE, Int.reduceAdd, Int.reduceSub, Int.reduceMul, Int.reduceEq, Int.reduceNeg, reduceCtorEq, resV, resAll, ARes.ev, LV.flat, ite_true, ite_false, exists_eq_left', exists_eq_left, keyOf, implies_true, fillC, capOf]
    refine callK_of (h_l2All hS) ?_
    simp (disch := omega) only [splice, ↓SXd, SXu, slBounds, ↓sop, ↓aop, ↓reduceIte, LV.cells, AOp.dst, LV.I, LV.B, LV.U, LV.S, LV.nil, Nat.reduceEqDiff, Nat.reduceAdd, Nat.reduceMul, Nat.reduceSub, Nat.reduceLeDiff, Nat.reduceBEq, Nat.reduceDiv, Nat.reduceMod, Int.reduceToNat, Int.reduceLT, Int.reduceLE, Int.reduceAdd, Int.reduceSub, Int.reduceMul, Int.reduceEq, Int.reduceNeg, reduceCtorEq, resV, resAll, ARes.ev, LV.flat, ite_true, ite_false, exists_eq_left', exists_eq_left, keyOf, implies_true, fillC, capOf]
    refine ev_loop (fun m fr1 M' => ∃ i u : Nat, i + m = (cellsOf x y z).length ∧ Pre M M' ∧ Live M' M.length (.row [.I x, .I y, .I z, .ref t o cs.length] true 0) ∧ Live M' (M.length + 1) (.row [.I 0, .I 0, .I 0, .nil] true 0) ∧
      Live M' (M.length + 2) (.row [.I x, .I y, .I z, .ref u 0 (((cellsOf x y z).take i).filter (freeP cs)).length] true 0) ∧ Live M' (M.length + 4) (.row (triL (cellsOf x y z)) true 3) ∧ Live M' u (.row (triL (((cellsOf x y z).take i).filter (freeP cs))) true 3) ∧ (u = M.length + 3 ∨ M.length + 4 < u) ∧
      fr1 1 = .ptr M.length 0 ∧ fr1 2 = .ptr (M.length + 1) 0 ∧ fr1 4 = .ptr (M.length + 2) 0 ∧ fr1 5 = .ref (M.length + 4) 0 (cellsOf x y z).length ∧ fr1 6 = .I i) (cellsOf x y z).length
      ⟨0, M.length + 3, by omega, Pre.app _ _, Live.new, Live.newj rfl, Live.newj rfl, Live.newj rfl, Live.newj rfl, .inl rfl, rfl, rfl, rfl, rfl, rfl⟩ ?_
    rintro m fr1 M' ⟨i, u, hi, hpre, b1, b2, b3, b4, bu, hu, f1, f2, f4, f5, f6⟩
    simp (disch := omega) only [f1, f2, f4, f5, f6, ↓SXd, SXu, slBounds, ↓sop, ↓aop, ↓reduceIte, LV.cells, AOp.dst, LV.I, LV.B, LV.U, LV.S, LV.nil, Nat.reduceEqDiff, Nat.reduceAdd, Nat.reduceMul, Nat.reduceSub, Nat.reduceLeDiff, Nat.reduceBEq, Nat.reduceDiv, Nat.reduceMod, Int.reduceToNat, Int.reduceLT, Int.reduceLE, Int.reduceAdd, Int.reduceSub, Int.reduceMul, Int.reduceEq, Int.reduceNeg, reduceCtorEq, resV, resAll, ARes.ev, LV.flat, ite_true, ite_false, exists_eq_left', exists_eq_left, keyOf, implies_true, fillC, capOf]
    refine condC_dec (fun hlt => ?_) (fun hlt => ?_)
    · have hil : i < (cellsOf x y z).length := by omega
      have hci := b4.tri0 hil
      have hts := take_snoc' (d := default) hil
      have hal : (((cellsOf x y z).take i).filter (freeP cs)).length ≤ 64 := by
        have q1 := List.length_filter_le (freeP cs) ((cellsOf x y z).take i)
        have q2 := List.length_take_le i (cellsOf x y z)
        omega
      generalize (cellsOf x y z).getD i default = c at hci hts
      have hstep : ((cellsOf x y z).take (i + 1)).filter (freeP cs) = ((cellsOf x y z).take i).filter (freeP cs) ++ (if freeP cs c then [c] else []) := by
        rw [hts, List.filter_append, List.filter_cons, List.filter_nil]
      simp (disch := omega) only [f1, f2, f4, f5, f6, b1.cells, hci, Cell.row, ↓SXd, SXu, slBounds, ↓sop, ↓aop, ↓reduceIte, LV.cells, AOp.dst, LV.I, LV.B, LV.U, LV.S, LV.nil, Nat.reduceEqDiff, Nat.reduceAdd, Nat.reduceMul, Nat.reduceSub, Nat.reduceLeDiff, Nat.reduceBEq, Nat.reduceDiv, Nat.reduceMod, Int.reduceToNat, Int.reduceLT, Int.reduceLE, Int.reduceAdd, Int.reduceSub, Int.reduceMul, Int.reduceEq, Int.reduceNeg, reduceCtorEq, resV, resAll, ARes.ev, LV.flat, ite_true, ite_false, exists_eq_left', exists_eq_left, keyOf, implies_true, fillC, capOf]
      refine callK_of (h_l2Has (h.pre hpre) (by omega)) ?_
      simp (disch := omega) only [f1, f2, f4, f5, f6, ↓SXd, SXu, slBounds, ↓sop, ↓aop, ↓reduceIte, LV.cells, AOp.dst, LV.I, LV.B, LV.U, LV.S, LV.nil, Nat.reduceEqDiff, Nat.reduceAdd, Nat.reduceMul, Nat.reduceSub, Nat.reduceLeDiff, Nat.reduceBEq, Nat.reduceDiv, Nat.reduceMod, Int.reduceToNat, Int.reduceLT, Int.reduceLE, Int.reduceAdd, Int.reduceSub, Int.reduceMul, Int.reduceEq, Int.reduceNeg, reduceCtorEq, resV, resAll, ARes.ev, LV.flat, ite_true, ite_false, exists_eq_left', exists_eq_left, keyOf, implies_true, fillC, capOf]
      rw [cell_eta]
      have hfp : freeP cs c = !decide (c ∈ cs) := rfl
      by_cases hm : c ∈ cs
      · rw [decide_eq_true hm] at hfp ⊢
        simp (disch := omega) only [f1, f2, f4, f5, f6, ↓SXd, SXu, slBounds, ↓sop, ↓aop, ↓reduceIte, LV.cells, AOp.dst, LV.I, LV.B, LV.U, LV.S, LV.nil, Nat.reduceEqDiff, Nat.reduceAdd, Nat.reduceMul, Nat.reduceSub, Nat.reduceLeDiff, Nat.reduceBEq, Nat.reduceDiv, Nat.reduceMod, Int.reduceToNat, Int.reduceLT, Int.reduceLE, Int.reduceAdd, Int.reduceSub, Int.reduceMul, Int.reduceEq, Int.reduceNeg, reduceCtorEq, resV, resAll, ARes.ev, LV.flat, ite_true, ite_false, exists_eq_left', exists_eq_left, keyOf, implies_true, fillC, capOf]
        rw [hfp, if_neg (by simp), List.append_nil] at hstep
        rw [← hstep] at b3 bu
        exact ⟨m - 1, by omega, i + 1, u, by omega, hpre, b1, b2, b3, b4, bu, hu, f1, f2, f4, f5, eqI (natI _)⟩
      · rw [decide_eq_false hm] at hfp ⊢
        simp (disch := omega) only [f1, f2, f4, f5, f6, b3.cell, hci, Cell.row, splice, ↓SXd, SXu, slBounds, ↓sop, ↓aop, ↓reduceIte, LV.cells, AOp.dst, LV.I, LV.B, LV.U, LV.S, LV.nil, Nat.reduceEqDiff, Nat.reduceAdd, Nat.reduceMul, Nat.reduceSub, Nat.reduceLeDiff, Nat.reduceBEq, Nat.reduceDiv, Nat.reduceMod, Int.reduceToNat, Int.reduceLT, Int.reduceLE, Int.reduceAdd, Int.reduceSub, Int.reduceMul, Int.reduceEq, Int.reduceNeg, reduceCtorEq, resV, resAll, ARes.ev, LV.flat, ite_true, ite_false, exists_eq_left', exists_eq_left, keyOf, implies_true, fillC, capOf]
        rw [hfp, if_pos (by rfl)] at hstep
        refine appendK_cell bu (by omega) fun N' l1 l2 l3 => ?_
        have hl4 := b4.lt
        have d3 := live_step b3 (by omega) l3
        simp (disch := omega) only [f1, f2, f4, f5, f6, ↓SXd, SXu, slBounds, ↓sop, ↓aop, ↓reduceIte, LV.cells, AOp.dst, LV.I, LV.B, LV.U, LV.S, LV.nil, Nat.reduceEqDiff, Nat.reduceAdd, Nat.reduceMul, Nat.reduceSub, Nat.reduceLeDiff, Nat.reduceBEq, Nat.reduceDiv, Nat.reduceMod, Int.reduceToNat, Int.reduceLT, Int.reduceLE, Int.reduceAdd, Int.reduceSub, Int.reduceMul, Int.reduceEq, Int.reduceNeg, reduceCtorEq, resV, resAll, ARes.ev, LV.flat, ite_true, ite_false, exists_eq_left', exists_eq_left, keyOf, implies_true, fillC, capOf]
        refine memK_one d3 (by simp) fun N3 j1 j2 j3 => ?_
        simp (disch := omega) only [f1, f2, f4, f5, f6, ↓SXd, SXu, slBounds, ↓sop, ↓aop, ↓reduceIte, LV.cells, AOp.dst, LV.I, LV.B, LV.U, LV.S, LV.nil, Nat.reduceEqDiff, Nat.reduceAdd, Nat.reduceMul, Nat.reduceSub, Nat.reduceLeDiff, Nat.reduceBEq, Nat.reduceDiv, Nat.reduceMod, Int.reduceToNat, Int.reduceLT, Int.reduceLE, Int.reduceAdd, Int.reduceSub, Int.reduceMul, Int.reduceEq, Int.reduceNeg, reduceCtorEq, resV, resAll, ARes.ev, LV.flat, ite_true, ite_false, exists_eq_left', exists_eq_left, keyOf, implies_true, fillC, capOf]
        rw [cell_eta, ← hstep] at l2 j2
        exact ⟨m - 1, by omega, i + 1, M'.length + 1, by omega, pre_step (pre_step hpre (by omega) l1 l3) (by omega) (j := 0) j1 j3, live_step (live_step b1 (by omega) l3) (by omega) j3, live_step (live_step b2 (by omega) l3) (by omega) j3, j2, live_step (live_step b4 (by omega) l3) (by omega) j3, live_step l2 (by omega) j3, by omega, f1, f2, f4, f5, eqI (natI _)⟩
    · simp (disch := omega) only [f1, f2, f4, f5, f6, b3.cells, ↓SXd, SXu, slBounds, ↓sop, ↓aop, ↓reduceIte, LV.cells, AOp.dst, LV.I, LV.B, LV.U, LV.S, LV.nil, Nat.reduceEqDiff, Nat.reduceAdd, Nat.reduceMul, Nat.reduceSub, Nat.reduceLeDiff, Nat.reduceBEq, Nat.reduceDiv, Nat.reduceMod, Int.reduceToNat, Int.reduceLT, Int.reduceLE, Int.reduceAdd, Int.reduceSub, Int.reduceMul, Int.reduceEq, Int.reduceNeg, reduceCtorEq, resV, resAll, ARes.ev, LV.flat, ite_true, ite_false, exists_eq_left', exists_eq_left, keyOf, implies_true, fillC, capOf]
      have : i = (cellsOf x y z).length := by omega
      subst this
      rw [List.take_length] at b3 bu
      change Live M' u (.row (triL (pick x y z (freeP cs))) true 3) at bu
      refine memK_box b2 (by simp) fun N3 k1 k2 k3 => ?_
      simp (disch := omega) only [f1, f2, f4, f5, f6, k2.cells, ↓SXd, SXu, slBounds, ↓sop, ↓aop, ↓reduceIte, LV.cells, AOp.dst, LV.I, LV.B, LV.U, LV.S, LV.nil, Nat.reduceEqDiff, Nat.reduceAdd, Nat.reduceMul, Nat.reduceSub, Nat.reduceLeDiff, Nat.reduceBEq, Nat.reduceDiv, Nat.reduceMod, Int.reduceToNat, Int.reduceLT, Int.reduceLE, Int.reduceAdd, Int.reduceSub, Int.reduceMul, Int.reduceEq, Int.reduceNeg, reduceCtorEq, resV, resAll, ARes.ev, LV.flat, ite_true, ite_false, exists_eq_left', exists_eq_left, keyOf, implies_true, fillC, capOf]
      exact ⟨fun _ => ⟨u, by rw [List.take_length]; rfl, live_step bu (by omega) k3, by omega⟩, fun hno => absurd hH hno, pre_step hpre (by omega) (j := 0) k1 k3⟩
  · rw [decide_eq_false hH]
    simp (disch := omega) only [splice, ↓SXd, SXu, slBounds, ↓sop, ↓aop, ↓reduceIte, LV.cells, AOp.dst, LV.I, LV.B, LV.U, LV.S, LV.nil, Nat.reduceEqDiff, Nat.reduceAdd, Nat.reduceMul, Nat.reduceSub, Nat.reduceLeDiff, Nat.reduceBEq, Nat.reduceDiv, Nat.reduceMod, Int.reduceToNat, Int.reduceLT, Int.reduceLE, Int.reduceAdd, Int.reduceSub, Int.reduceMul, Int.reduceEq, Int.reduceNeg, reduceCtorEq, resV, resAll, ARes.ev, LV.flat, ite_true, ite_false, exists_eq_left', exists_eq_left, keyOf, implies_true, fillC, capOf]
    exact ⟨fun hh => absurd hh hH, fun _ => rfl, Pre.app _ _⟩
end
def stackP (y : Int) (hs : List Int) (c : Cell) : Bool := decide (c.c < hs.getD (c.a * y + c.b).toNat 0)
theorem h_l2Stack {x y z : Int} {u q : Nat} {hs : List Int} {M : Mem} (hS : Sides x y z) (hX : Ints M u q hs) (hl : (hs.length : Int) = x * y) : CallsR PG F.spec_l2Stack [.I x, .I y, .I z, .ref u q hs.length] M fun v N => ∃ w, v = .agg [.I x, .I y, .I z, .ref w 0 (pick x y z (stackP y hs)).length] ∧ Live N w (.row (triL (pick x y z (stackP y hs))) true 3) ∧ M.length ≤ w ∧ Pre M N := by
  have hv := vol_cast hS
  have hul := hX.lt
  have hcl : (cellsOf x y z).length = vol x y z := by simp [cellsOf]
  obtain ⟨⟨_, _⟩, ⟨_, _⟩, ⟨_, _⟩⟩ := id hS
  refine callsR_run K.spec_l2Stack rfl ?_
  simp (disch := omega) only [C.spec_l2Stack, ↓SXd, SXu, slBounds, ↓sop, ↓aop, ↓reduceIte, LV.cells, AOp.dst, LV.I, LV.B, LV.U, LV.S, LV.nil, Nat.reduceEqDiff, Nat.reduceAdd, Nat.reduceMul, Nat.reduceSub, Nat.reduceLeDiff, Nat.reduceBEq, Nat.reduceDiv, Nat.reduceMod, Int.reduceToNat, Int.reduceLT, Int.reduceLE, Int.reduceAdd, Int.reduceSub, Int.reduceMul, Int.reduceEq, Int.reduceNeg, reduceCtorEq, resV, resAll, ARes.ev, LV.flat, ite_true, ite_false, exists_eq_left', exists_eq_left, keyOf, implies_true, fillC, capOf]
  refine callK_of (h_l2Empty) ?_
  simp (disch := omega) only [splice, ↓SXd, SXu, slBounds, ↓sop, ↓aop, ↓reduceIte, LV.cells, AOp.dst, LV.I, LV.B, LV.U, LV.S, LV.nil, Nat.reduceEqDiff, Nat.reduceAdd, Nat.reduceMul, Nat.reduceSub, Nat.reduceLeDiff, Nat.reduceBEq, Nat.reduceDiv, Nat.reduceMod, Int.reduceToNat, Int.reduceLT, Int.reduceLE, Int.reduceAdd, Int.reduceSub, Int.reduceMul, Int.reduceEq, Int.reduceNeg, reduceCtorEq, resV, resAll, ARes.ev, LV.flat, ite_true, ite_false, exists_eq_left', exists_eq_left, keyOf, implies_true, fillC, capOf]
  refine callK_of (h_l2All hS) ?_
  simp (disch := omega) only [splice, ↓SXd, SXu, slBounds, ↓sop, ↓aop, ↓reduceIte, LV.cells, AOp.dst, LV.I, LV.B, LV.U, LV.S, LV.nil, Nat.reduceEqDiff, Nat.reduceAdd, Nat.reduceMul, Nat.reduceSub, Nat.reduceLeDiff, Nat.reduceBEq, Nat.reduceDiv, Nat.reduceMod, Int.reduceToNat, Int.reduceLT, Int.reduceLE, Int.reduceAdd, Int.reduceSub, Int.reduceMul, Int.reduceEq, Int.reduceNeg, reduceCtorEq, resV, resAll, ARes.ev, LV.flat, ite_true, ite_false, exists_eq_left', exists_eq_left, keyOf, implies_true, fillC, capOf]
  refine ev_loop (fun m fr1 M' => ∃ i u' : Nat, i + m = (cellsOf x y z).length ∧ Pre M M' ∧ Live M' M.length (.row [.I 0, .I 0, .I 0, .nil] true 0) ∧
    Live M' (M.length + 2) (.row [.I x, .I y, .I z, .ref u' 0 (((cellsOf x y z).take i).filter (stackP y hs)).length] true 0) ∧ Live M' (M.length + 3) (.row (triL (cellsOf x y z)) true 3) ∧ Live M' u' (.row (triL (((cellsOf x y z).take i).filter (stackP y hs))) true 3) ∧ (u' = M.length + 1 ∨ M.length + 3 < u') ∧
    fr1 1 = .I y ∧ fr1 3 = .ref u q hs.length ∧ fr1 8 = .ptr M.length 0 ∧ fr1 9 = .ptr (M.length + 2) 0 ∧ fr1 10 = .ref (M.length + 3) 0 (cellsOf x y z).length ∧ fr1 11 = .I i) (cellsOf x y z).length
    ⟨0, M.length + 1, by omega, Pre.app _ _, Live.new, Live.newj rfl, Live.newj rfl, Live.newj rfl, .inl rfl, rfl, rfl, rfl, rfl, rfl, rfl⟩ ?_
  rintro m fr1 M' ⟨i, u', hi, hpre, b2, b3, b4, bu, hu, f1, f3, f8, f9, f10, f11⟩
  simp (disch := omega) only [f1, f3, f8, f9, f10, f11, ↓SXd, SXu, slBounds, ↓sop, ↓aop, ↓reduceIte, LV.cells, AOp.dst, LV.I, LV.B, LV.U, LV.S, LV.nil, Nat.reduceEqDiff, Nat.reduceAdd, Nat.reduceMul, Nat.reduceSub, Nat.reduceLeDiff, Nat.reduceBEq, Nat.reduceDiv, Nat.reduceMod, Int.reduceToNat, Int.reduceLT, Int.reduceLE, Int.reduceAdd, Int.reduceSub, Int.reduceMul, Int.reduceEq, Int.reduceNeg, reduceCtorEq, resV, resAll, ARes.ev, LV.flat, ite_true, ite_false, exists_eq_left', exists_eq_left, keyOf, implies_true, fillC, capOf]
  refine condC_dec (fun hlt => ?_) (fun hlt => ?_)
  · have hil : i < (cellsOf x y z).length := by omega
    have hci := b4.tri0 hil
    have ga := Tri.get_a b4.has hil
    have gb := Tri.get_b b4.has hil
    have gc := Tri.get_c b4.has hil
    have hcin := (mem_cellsOf hS).1 (getD_mem' (d := default) hil)
    have hts := take_snoc' (d := default) hil
    have hal : (((cellsOf x y z).take i).filter (stackP y hs)).length ≤ 64 := by
      have q1 := List.length_filter_le (stackP y hs) ((cellsOf x y z).take i)
      have q2 := List.length_take_le i (cellsOf x y z)
      omega
    generalize (cellsOf x y z).getD i default = c at hci hts ga gb gc hcin
    have hstep : ((cellsOf x y z).take (i + 1)).filter (stackP y hs) = ((cellsOf x y z).take i).filter (stackP y hs) ++ (if stackP y hs c then [c] else []) := by
      rw [hts, List.filter_append, List.filter_cons, List.filter_nil]
    rw [Nat.zero_add] at ga gb gc
    obtain ⟨⟨_, _⟩, ⟨_, _⟩, ⟨_, _⟩⟩ := id hcin
    have hpk : 0 ≤ c.a * y + c.b ∧ c.a * y + c.b < x * y ∧ 0 ≤ c.a * y ∧ c.a * y ≤ 12 := by
      rcases (show y = 1 ∨ y = 2 ∨ y = 3 ∨ y = 4 by omega) with rfl | rfl | rfl | rfl <;> omega
    obtain ⟨_, _, _, _⟩ := hpk
    have hkl : (c.a * y + c.b).toNat < hs.length := by omega
    have hx := Ints.get (hX.pre hpre) hkl
    have hidx : ((c.a * y + c.b).toNat : Int) = c.a * y + c.b := by omega
    have hfp : stackP y hs c = decide (c.c < hs.getD (c.a * y + c.b).toNat 0) := rfl
    generalize hs.getD (c.a * y + c.b).toNat 0 = hh at hx hfp
    by_cases hm : c.c < hh
    · rw [decide_eq_true hm] at hfp
      simp (disch := omega) only [f1, f3, f8, f9, f10, f11, ga, gb, gc, Nat.add_zero, Nat.mul_one, hx, hm, b3.cell, hci, Cell.row, splice, ↓SXd, SXu, slBounds, ↓sop, ↓aop, ↓reduceIte, LV.cells, AOp.dst, LV.I, LV.B, LV.U, LV.S, LV.nil, Nat.reduceEqDiff, Nat.reduceAdd, Nat.reduceMul, Nat.reduceSub, Nat.reduceLeDiff, Nat.reduceBEq, Nat.reduceDiv, Nat.reduceMod, Int.reduceToNat, Int.reduceLT, Int.reduceLE, Int.reduceAdd, Int.reduceSub, Int.reduceMul, Int.reduceEq, Int.reduceNeg, reduceCtorEq, resV, resAll, ARes.ev, LV.flat, ite_true, ite_false, exists_eq_left', exists_eq_left, keyOf, implies_true, fillC, capOf]
      rw [hfp, if_pos (by rfl)] at hstep
      refine appendK_cell bu (by omega) fun N' l1 l2 l3 => ?_
      have hl4 := b4.lt
      have d3 := live_step b3 (by omega) l3
      simp (disch := omega) only [f1, f3, f8, f9, f10, f11, ↓SXd, SXu, slBounds, ↓sop, ↓aop, ↓reduceIte, LV.cells, AOp.dst, LV.I, LV.B, LV.U, LV.S, LV.nil, Nat.reduceEqDiff, Nat.reduceAdd, Nat.reduceMul, Nat.reduceSub, Nat.reduceLeDiff, Nat.reduceBEq, Nat.reduceDiv, Nat.reduceMod, Int.reduceToNat, Int.reduceLT, Int.reduceLE, Int.reduceAdd, Int.reduceSub, Int.reduceMul, Int.reduceEq, Int.reduceNeg, reduceCtorEq, resV, resAll, ARes.ev, LV.flat, ite_true, ite_false, exists_eq_left', exists_eq_left, keyOf, implies_true, fillC, capOf]
      refine memK_one d3 (by simp) fun N3 j1 j2 j3 => ?_
      simp (disch := omega) only [f1, f3, f8, f9, f10, f11, ↓SXd, SXu, slBounds, ↓sop, ↓aop, ↓reduceIte, LV.cells, AOp.dst, LV.I, LV.B, LV.U, LV.S, LV.nil, Nat.reduceEqDiff, Nat.reduceAdd, Nat.reduceMul, Nat.reduceSub, Nat.reduceLeDiff, Nat.reduceBEq, Nat.reduceDiv, Nat.reduceMod, Int.reduceToNat, Int.reduceLT, Int.reduceLE, Int.reduceAdd, Int.reduceSub, Int.reduceMul, Int.reduceEq, Int.reduceNeg, reduceCtorEq, resV, resAll, ARes.ev, LV.flat, ite_true, ite_false, exists_eq_left', exists_eq_left, keyOf, implies_true, fillC, capOf]
      rw [cell_eta, ← hstep] at l2 j2
      exact ⟨m - 1, by omega, i + 1, M'.length + 1, by omega, pre_step (pre_step hpre (by omega) l1 l3) (by omega) (j := 0) j1 j3, live_step (live_step b2 (by omega) l3) (by omega) j3, j2, live_step (live_step b4 (by omega) l3) (by omega) j3, live_step l2 (by omega) j3, by omega, f1, f3, f8, f9, f10, eqI (natI _)⟩
    · rw [decide_eq_false hm] at hfp
      simp (disch := omega) only [f1, f3, f8, f9, f10, f11, ga, gb, gc, Nat.add_zero, Nat.mul_one, hx, hm, ↓SXd, SXu, slBounds, ↓sop, ↓aop, ↓reduceIte, LV.cells, AOp.dst, LV.I, LV.B, LV.U, LV.S, LV.nil, Nat.reduceEqDiff, Nat.reduceAdd, Nat.reduceMul, Nat.reduceSub, Nat.reduceLeDiff, Nat.reduceBEq, Nat.reduceDiv, Nat.reduceMod, Int.reduceToNat, Int.reduceLT, Int.reduceLE, Int.reduceAdd, Int.reduceSub, Int.reduceMul, Int.reduceEq, Int.reduceNeg, reduceCtorEq, resV, resAll, ARes.ev, LV.flat, ite_true, ite_false, exists_eq_left', exists_eq_left, keyOf, implies_true, fillC, capOf]
      rw [hfp, if_neg (by simp), List.append_nil] at hstep
      rw [← hstep] at b3 bu
      exact ⟨m - 1, by omega, i + 1, u', by omega, hpre, b2, b3, b4, bu, hu, f1, f3, f8, f9, f10, eqI (natI _)⟩
  · simp (disch := omega) only [f1, f3, f8, f9, f10, f11, b3.cells, ↓SXd, SXu, slBounds, ↓sop, ↓aop, ↓reduceIte, LV.cells, AOp.dst, LV.I, LV.B, LV.U, LV.S, LV.nil, Nat.reduceEqDiff, Nat.reduceAdd, Nat.reduceMul, Nat.reduceSub, Nat.reduceLeDiff, Nat.reduceBEq, Nat.reduceDiv, Nat.reduceMod, Int.reduceToNat, Int.reduceLT, Int.reduceLE, Int.reduceAdd, Int.reduceSub, Int.reduceMul, Int.reduceEq, Int.reduceNeg, reduceCtorEq, resV, resAll, ARes.ev, LV.flat, ite_true, ite_false, exists_eq_left', exists_eq_left, keyOf, implies_true, fillC, capOf]
    have : i = (cellsOf x y z).length := by omega
    subst this
    rw [List.take_length] at b3 bu
    change Live M' u' (.row (triL (pick x y z (stackP y hs))) true 3) at bu
    refine memK_box b2 (by simp) fun N3 k1 k2 k3 => ?_
    simp (disch := omega) only [f1, f3, f8, f9, f10, f11, k2.cells, ↓SXd, SXu, slBounds, ↓sop, ↓aop, ↓reduceIte, LV.cells, AOp.dst, LV.I, LV.B, LV.U, LV.S, LV.nil, Nat.reduceEqDiff, Nat.reduceAdd, Nat.reduceMul, Nat.reduceSub, Nat.reduceLeDiff, Nat.reduceBEq, Nat.reduceDiv, Nat.reduceMod, Int.reduceToNat, Int.reduceLT, Int.reduceLE, Int.reduceAdd, Int.reduceSub, Int.reduceMul, Int.reduceEq, Int.reduceNeg, reduceCtorEq, resV, resAll, ARes.ev, LV.flat, ite_true, ite_false, exists_eq_left', exists_eq_left, keyOf, implies_true, fillC, capOf]
    exact ⟨u', by rw [List.take_length]; rfl, live_step bu (by omega) k3, by omega, pre_step hpre (by omega) (j := 0) k1 k3⟩
end Go.Ab

/- Contracts: the heaps that the laws draw. -/
namespace Go.Ab
open Go
set_option linter.unusedSimpArgs false
set_option linter.unusedVariables false
set_option maxRecDepth 20000

section
variable {p t o a : Nat} {bs : List Nat} {M : Mem}
theorem d_amongNew {xs : List Int} (h : CurAt M p t o bs a) (ha : a ≤ 999990) (h0 : 0 < xs.length) (hxl : xs.length ≤ 1000) : CallsR PG F.spec_l1Cur_among [.ptr p 0, .ref M.length 0 xs.length] (M ++ [some (.row (intL xs) true 1)]) fun v N => (∃ b : Int, v = .I b ∧ b ∈ xs) ∧ DrawN M p t o bs (a + 2) N :=
  (d_among (h.pre (Pre.app _ _)) ha (Live.new (b := .row (intL xs) true 1)).has (by obtain ⟨⟨_, _, _, hp⟩, _⟩ := h; have := hp.lt; omega) h0 hxl).mono fun v N hv => ⟨hv.1, DrawN.of_pre (Pre.app _ _) hv.2⟩
theorem DrawN.up {M N : Mem} {p t o : Nat} {bs : List Nat} {a b : Nat} (h : DrawN M p t o bs a N) (hab : a ≤ b) : DrawN M p t o bs b N := ⟨h.1.keep (fun _ _ => rfl) hab, h.2⟩
theorem d_sides (h : CurAt M p t o bs a) (ha : a ≤ 999900) : CallsR PG F.spec_l1Cur_sides [.ptr p 0] M fun v N => (∃ x y z : Int, v = .tup [.I x, .I y, .I z]) ∧ DrawN M p t o bs (a + 10) N := by
  refine callsR_run K.spec_l1Cur_sides rfl ?_
  simp (disch := omega) only [C.spec_l1Cur_sides, ↓SXd, SXu, slBounds, ↓sop, ↓aop, ↓reduceIte, LV.cells, AOp.dst, LV.I, LV.B, LV.U, LV.S, LV.nil, Nat.reduceEqDiff, Nat.reduceAdd, Nat.reduceMul, Nat.reduceSub, Nat.reduceLeDiff, Nat.reduceBEq, Nat.reduceDiv, Nat.reduceMod, Int.reduceToNat, Int.reduceLT, Int.reduceLE, Int.reduceAdd, Int.reduceSub, Int.reduceMul, Int.reduceEq, Int.reduceNeg, reduceCtorEq, resV, resAll, ARes.ev, LV.flat, ite_true, ite_false, exists_eq_left', exists_eq_left, keyOf, implies_true, fillC, capOf]
  refine callR_of (d_amongNew (xs := [2, 3, 3, 1, 4]) h (by omega) (by simp) (by simp)) ?_
  rintro _ N1 ⟨⟨x, rfl, _⟩, hd1⟩
  simp (disch := omega) only [↓SXd, SXu, slBounds, ↓sop, ↓aop, ↓reduceIte, LV.cells, AOp.dst, LV.I, LV.B, LV.U, LV.S, LV.nil, Nat.reduceEqDiff, Nat.reduceAdd, Nat.reduceMul, Nat.reduceSub, Nat.reduceLeDiff, Nat.reduceBEq, Nat.reduceDiv, Nat.reduceMod, Int.reduceToNat, Int.reduceLT, Int.reduceLE, Int.reduceAdd, Int.reduceSub, Int.reduceMul, Int.reduceEq, Int.reduceNeg, reduceCtorEq, resV, resAll, ARes.ev, LV.flat, ite_true, ite_false, exists_eq_left', exists_eq_left, keyOf, implies_true, fillC, capOf]
  refine callR_of (d_amongNew (xs := [2, 3, 2, 1, 4]) hd1.1 (by omega) (by simp) (by simp)) ?_
  rintro _ N2 ⟨⟨y, rfl, _⟩, hd2⟩
  simp (disch := omega) only [↓SXd, SXu, slBounds, ↓sop, ↓aop, ↓reduceIte, LV.cells, AOp.dst, LV.I, LV.B, LV.U, LV.S, LV.nil, Nat.reduceEqDiff, Nat.reduceAdd, Nat.reduceMul, Nat.reduceSub, Nat.reduceLeDiff, Nat.reduceBEq, Nat.reduceDiv, Nat.reduceMod, Int.reduceToNat, Int.reduceLT, Int.reduceLE, Int.reduceAdd, Int.reduceSub, Int.reduceMul, Int.reduceEq, Int.reduceNeg, reduceCtorEq, resV, resAll, ARes.ev, LV.flat, ite_true, ite_false, exists_eq_left', exists_eq_left, keyOf, implies_true, fillC, capOf]
  refine callR_of (d_amongNew (xs := [2, 3, 3, 1, 4]) hd2.1 (by omega) (by simp) (by simp)) ?_
  rintro _ N3 ⟨⟨z, rfl, _⟩, hd3⟩
  simp (disch := omega) only [↓SXd, SXu, slBounds, ↓sop, ↓aop, ↓reduceIte, LV.cells, AOp.dst, LV.I, LV.B, LV.U, LV.S, LV.nil, Nat.reduceEqDiff, Nat.reduceAdd, Nat.reduceMul, Nat.reduceSub, Nat.reduceLeDiff, Nat.reduceBEq, Nat.reduceDiv, Nat.reduceMod, Int.reduceToNat, Int.reduceLT, Int.reduceLE, Int.reduceAdd, Int.reduceSub, Int.reduceMul, Int.reduceEq, Int.reduceNeg, reduceCtorEq, resV, resAll, ARes.ev, LV.flat, ite_true, ite_false, exists_eq_left', exists_eq_left, keyOf, implies_true, fillC, capOf]
  refine callR_of (d_pick hd3.1 (by omega)) ?_
  rintro _ N4 ⟨⟨b, rfl, _⟩, hd4⟩
  have hD := ((hd1.trans hd2).trans hd3).trans hd4
  by_cases b0 : (b : Int) = 0
  · simp (disch := omega) only [b0, ↓SXd, SXu, slBounds, ↓sop, ↓aop, ↓reduceIte, LV.cells, AOp.dst, LV.I, LV.B, LV.U, LV.S, LV.nil, Nat.reduceEqDiff, Nat.reduceAdd, Nat.reduceMul, Nat.reduceSub, Nat.reduceLeDiff, Nat.reduceBEq, Nat.reduceDiv, Nat.reduceMod, Int.reduceToNat, Int.reduceLT, Int.reduceLE, Int.reduceAdd, Int.reduceSub, Int.reduceMul, Int.reduceEq, Int.reduceNeg, reduceCtorEq, resV, resAll, ARes.ev, LV.flat, ite_true, ite_false, exists_eq_left', exists_eq_left, keyOf, implies_true, fillC, capOf]
    refine callR_of (d_amongNew (xs := [0, 5, -1, 4611686018427387904]) hd4.1 (by omega) (by simp) (by simp)) ?_
    rintro _ N5 ⟨⟨x', rfl, _⟩, hd5⟩
    simp (disch := omega) only [↓SXd, SXu, slBounds, ↓sop, ↓aop, ↓reduceIte, LV.cells, AOp.dst, LV.I, LV.B, LV.U, LV.S, LV.nil, Nat.reduceEqDiff, Nat.reduceAdd, Nat.reduceMul, Nat.reduceSub, Nat.reduceLeDiff, Nat.reduceBEq, Nat.reduceDiv, Nat.reduceMod, Int.reduceToNat, Int.reduceLT, Int.reduceLE, Int.reduceAdd, Int.reduceSub, Int.reduceMul, Int.reduceEq, Int.reduceNeg, reduceCtorEq, resV, resAll, ARes.ev, LV.flat, ite_true, ite_false, exists_eq_left', exists_eq_left, keyOf, implies_true, fillC, capOf]
    exact ⟨⟨_, _, _, rfl⟩, hD.trans hd5⟩
  by_cases b1 : (b : Int) = 1
  · simp (disch := omega) only [b1, ↓SXd, SXu, slBounds, ↓sop, ↓aop, ↓reduceIte, LV.cells, AOp.dst, LV.I, LV.B, LV.U, LV.S, LV.nil, Nat.reduceEqDiff, Nat.reduceAdd, Nat.reduceMul, Nat.reduceSub, Nat.reduceLeDiff, Nat.reduceBEq, Nat.reduceDiv, Nat.reduceMod, Int.reduceToNat, Int.reduceLT, Int.reduceLE, Int.reduceAdd, Int.reduceSub, Int.reduceMul, Int.reduceEq, Int.reduceNeg, reduceCtorEq, resV, resAll, ARes.ev, LV.flat, ite_true, ite_false, exists_eq_left', exists_eq_left, keyOf, implies_true, fillC, capOf]
    refine callR_of (d_amongNew (xs := [0, 5, -1]) hd4.1 (by omega) (by simp) (by simp)) ?_
    rintro _ N5 ⟨⟨x', rfl, _⟩, hd5⟩
    simp (disch := omega) only [↓SXd, SXu, slBounds, ↓sop, ↓aop, ↓reduceIte, LV.cells, AOp.dst, LV.I, LV.B, LV.U, LV.S, LV.nil, Nat.reduceEqDiff, Nat.reduceAdd, Nat.reduceMul, Nat.reduceSub, Nat.reduceLeDiff, Nat.reduceBEq, Nat.reduceDiv, Nat.reduceMod, Int.reduceToNat, Int.reduceLT, Int.reduceLE, Int.reduceAdd, Int.reduceSub, Int.reduceMul, Int.reduceEq, Int.reduceNeg, reduceCtorEq, resV, resAll, ARes.ev, LV.flat, ite_true, ite_false, exists_eq_left', exists_eq_left, keyOf, implies_true, fillC, capOf]
    exact ⟨⟨_, _, _, rfl⟩, hD.trans hd5⟩
  by_cases b2 : (b : Int) = 2
  · simp (disch := omega) only [b2, ↓SXd, SXu, slBounds, ↓sop, ↓aop, ↓reduceIte, LV.cells, AOp.dst, LV.I, LV.B, LV.U, LV.S, LV.nil, Nat.reduceEqDiff, Nat.reduceAdd, Nat.reduceMul, Nat.reduceSub, Nat.reduceLeDiff, Nat.reduceBEq, Nat.reduceDiv, Nat.reduceMod, Int.reduceToNat, Int.reduceLT, Int.reduceLE, Int.reduceAdd, Int.reduceSub, Int.reduceMul, Int.reduceEq, Int.reduceNeg, reduceCtorEq, resV, resAll, ARes.ev, LV.flat, ite_true, ite_false, exists_eq_left', exists_eq_left, keyOf, implies_true, fillC, capOf]
    refine callR_of (d_amongNew (xs := [0, 5, -1]) hd4.1 (by omega) (by simp) (by simp)) ?_
    rintro _ N5 ⟨⟨x', rfl, _⟩, hd5⟩
    simp (disch := omega) only [↓SXd, SXu, slBounds, ↓sop, ↓aop, ↓reduceIte, LV.cells, AOp.dst, LV.I, LV.B, LV.U, LV.S, LV.nil, Nat.reduceEqDiff, Nat.reduceAdd, Nat.reduceMul, Nat.reduceSub, Nat.reduceLeDiff, Nat.reduceBEq, Nat.reduceDiv, Nat.reduceMod, Int.reduceToNat, Int.reduceLT, Int.reduceLE, Int.reduceAdd, Int.reduceSub, Int.reduceMul, Int.reduceEq, Int.reduceNeg, reduceCtorEq, resV, resAll, ARes.ev, LV.flat, ite_true, ite_false, exists_eq_left', exists_eq_left, keyOf, implies_true, fillC, capOf]
    exact ⟨⟨_, _, _, rfl⟩, hD.trans hd5⟩
  · simp (disch := omega) only [b0, b1, b2, ↓SXd, SXu, slBounds, ↓sop, ↓aop, ↓reduceIte, LV.cells, AOp.dst, LV.I, LV.B, LV.U, LV.S, LV.nil, Nat.reduceEqDiff, Nat.reduceAdd, Nat.reduceMul, Nat.reduceSub, Nat.reduceLeDiff, Nat.reduceBEq, Nat.reduceDiv, Nat.reduceMod, Int.reduceToNat, Int.reduceLT, Int.reduceLE, Int.reduceAdd, Int.reduceSub, Int.reduceMul, Int.reduceEq, Int.reduceNeg, reduceCtorEq, resV, resAll, ARes.ev, LV.flat, ite_true, ite_false, exists_eq_left', exists_eq_left, keyOf, implies_true, fillC, capOf]
    exact ⟨⟨_, _, _, rfl⟩, hD.up (by omega)⟩
end
theorem DrawN.keep {M N N' : Mem} {p t o : Nat} {bs : List Nat} {a b : Nat} (h : DrawN M p t o bs a N) (hp : p < M.length) (ht : t < M.length) (hab : a ≤ b) (hl : N.length ≤ N'.length) (hk : ∀ q, q < M.length → N'[q]? = N[q]?) : DrawN M p t o bs b N' := by
  obtain ⟨⟨⟨i, s, h1, h2⟩, h3, h4⟩, h5, h6⟩ := h
  exact ⟨⟨⟨i, s, by omega, Live.at h2 (hk _ hp)⟩, Has.at' h3 (hk _ ht), h4⟩, by omega, fun q q1 q2 => by rw [hk q q1]; exact h6 q q1 q2⟩
theorem sub_heap {x y z : Int} (hS : Sides x y z) {cs : List Cell} (h : cs.Sublist (cellsOf x y z)) : HeapOK x y z cs :=
  HeapOK.of hS ((cellsOf_sorted hS).sublist h) fun c hc => (mem_cellsOf hS).1 (h.mem hc)
section
variable {p t o a : Nat} {bs : List Nat} {M : Mem}
theorem h_l2Heights {x y z : Int} {t o : Nat} {cs : List Cell} {M : Mem} (h : Tri M t o cs) (hH : HeapOK x y z cs) : CallsTo PG F.spec_l2Heights [.agg [.I x, .I y, .I z, .ref t o cs.length]] M (.ref M.length 0 (viewL x y z 2 cs).length) (M ++ [some (.row (intL (viewL x y z 2 cs)) true 1)]) := by
  have hv := h_l2View (d := 2) (M := M ++ [some (.row [.I x, .I y, .I z, .ref t o cs.length] true 0)]) h.app hH (by omega)
  rw [show ((2 : Nat) : Int) = 2 from rfl] at hv
  refine calls_run K.spec_l2Heights rfl ?_
  simp (disch := omega) only [C.spec_l2Heights, ↓SXd, SXu, slBounds, ↓sop, ↓aop, ↓reduceIte, LV.cells, AOp.dst, LV.I, LV.B, LV.U, LV.S, LV.nil, Nat.reduceEqDiff, Nat.reduceAdd, Nat.reduceMul, Nat.reduceSub, Nat.reduceLeDiff, Nat.reduceBEq, Nat.reduceDiv, Nat.reduceMod, Int.reduceToNat, Int.reduceLT, Int.reduceLE, Int.reduceAdd, Int.reduceSub, Int.reduceMul, Int.reduceEq, Int.reduceNeg, reduceCtorEq, resV, resAll, ARes.ev, LV.flat, ite_true, ite_false, exists_eq_left', exists_eq_left, keyOf, implies_true, fillC, capOf]
  refine callK_of hv ?_
  simp (disch := omega) only [↓SXd, SXu, slBounds, ↓sop, ↓aop, ↓reduceIte, LV.cells, AOp.dst, LV.I, LV.B, LV.U, LV.S, LV.nil, Nat.reduceEqDiff, Nat.reduceAdd, Nat.reduceMul, Nat.reduceSub, Nat.reduceLeDiff, Nat.reduceBEq, Nat.reduceDiv, Nat.reduceMod, Int.reduceToNat, Int.reduceLT, Int.reduceLE, Int.reduceAdd, Int.reduceSub, Int.reduceMul, Int.reduceEq, Int.reduceNeg, reduceCtorEq, resV, resAll, ARes.ev, LV.flat, ite_true, ite_false, exists_eq_left', exists_eq_left, keyOf, implies_true, fillC, capOf]
  exact cmp_keepL (Pre.app _ _) (t := M.length + 1) (by omega) (Live.newj rfl) (intL_lo _) (by simp [rn, rn0, rn1])
/-- A heap that was drawn. -/
def HeapN (M : Mem) (x y z : Int) (v : LV) (N : Mem) : Prop := ∃ (cs : List Cell) (u : Nat), v = .agg [.I x, .I y, .I z, .ref u 0 cs.length] ∧ Live N u (.row (triL cs) true 3) ∧ M.length ≤ u ∧ cs.length ≤ 64
/-- The same, with all that is known of its cells. -/
def HeapNK (M : Mem) (x y z : Int) (v : LV) (N : Mem) : Prop := ∃ (cs : List Cell) (u : Nat), v = .agg [.I x, .I y, .I z, .ref u 0 cs.length] ∧ Live N u (.row (triL cs) true 3) ∧ M.length ≤ u ∧ cs.length ≤ 64 ∧ (Sides x y z → HeapOK x y z cs)
theorem d_someHeapK {x y z : Int} (h : CurAt M p t o bs a) (ha : a ≤ 999000) : CallsR PG F.spec_l1Cur_someHeap [.ptr p 0, .I x, .I y, .I z] M fun v N => HeapNK M x y z v N ∧ DrawN M p t o bs (a + 140) N := by
  obtain ⟨⟨_, _, _, hpl'⟩, hB, _⟩ := id h
  have hpl := hpl'.lt
  refine callsR_run K.spec_l1Cur_someHeap rfl ?_
  simp (disch := omega) only [C.spec_l1Cur_someHeap, ↓SXd, SXu, slBounds, ↓sop, ↓aop, ↓reduceIte, LV.cells, AOp.dst, LV.I, LV.B, LV.U, LV.S, LV.nil, Nat.reduceEqDiff, Nat.reduceAdd, Nat.reduceMul, Nat.reduceSub, Nat.reduceLeDiff, Nat.reduceBEq, Nat.reduceDiv, Nat.reduceMod, Int.reduceToNat, Int.reduceLT, Int.reduceLE, Int.reduceAdd, Int.reduceSub, Int.reduceMul, Int.reduceEq, Int.reduceNeg, reduceCtorEq, resV, resAll, ARes.ev, LV.flat, ite_true, ite_false, exists_eq_left', exists_eq_left, keyOf, implies_true, fillC, capOf]
  refine callK_of (h_l2Empty) ?_
  simp (disch := omega) only [↓SXd, SXu, slBounds, ↓sop, ↓aop, ↓reduceIte, LV.cells, AOp.dst, LV.I, LV.B, LV.U, LV.S, LV.nil, Nat.reduceEqDiff, Nat.reduceAdd, Nat.reduceMul, Nat.reduceSub, Nat.reduceLeDiff, Nat.reduceBEq, Nat.reduceDiv, Nat.reduceMod, Int.reduceToNat, Int.reduceLT, Int.reduceLE, Int.reduceAdd, Int.reduceSub, Int.reduceMul, Int.reduceEq, Int.reduceNeg, reduceCtorEq, resV, resAll, ARes.ev, LV.flat, ite_true, ite_false, exists_eq_left', exists_eq_left, keyOf, implies_true, fillC, capOf]
  have h1 : CurAt (M ++ [some (.row [.I 0, .I 0, .I 0, .nil] true 0), some (.row [] true 3)]) p t o bs a := h.pre (Pre.app _ _)
  have hL1 : Live (M ++ [some (.row [.I 0, .I 0, .I 0, .nil] true 0), some (.row [] true 3)]) (M.length + 1) (.row (triL []) true 3) := Live.newj rfl
  have hL0 : Live (M ++ [some (.row [.I 0, .I 0, .I 0, .nil] true 0), some (.row [] true 3)]) M.length (.row [.I 0, .I 0, .I 0, .nil] true 0) := Live.new
  have hpM : Pre M (M ++ [some (.row [.I 0, .I 0, .I 0, .nil] true 0), some (.row [] true 3)]) := Pre.app _ _
  have ham := d_amongNew (xs := [2, 3, 2, 4]) h1 (by omega) (by simp) (by simp)
  rw [List.append_assoc, List.length_append] at ham
  refine callR_of ham ?_
  rintro _ N1 ⟨⟨odds, rfl, _⟩, hd1⟩
  have htM := hB.lt
  have hN1 := hd1.2.1
  simp only [List.length_append, List.length_cons, List.length_nil] at hN1
  have b8 : Live N1 M.length (.row [.I 0, .I 0, .I 0, .nil] true 0) := Live.at hL0 (hd1.2.2 _ (by simp) (by omega))
  have bc : Live N1 (M.length + 1) (.row (triL []) true 3) := Live.at hL1 (hd1.2.2 _ (by simp) (by omega))
  have hD1 : DrawN M p t o bs (a + 2) N1 := DrawN.of_pre hpM hd1
  simp (disch := omega) only [splice, ↓SXd, SXu, slBounds, ↓sop, ↓aop, ↓reduceIte, LV.cells, AOp.dst, LV.I, LV.B, LV.U, LV.S, LV.nil, Nat.reduceEqDiff, Nat.reduceAdd, Nat.reduceMul, Nat.reduceSub, Nat.reduceLeDiff, Nat.reduceBEq, Nat.reduceDiv, Nat.reduceMod, Int.reduceToNat, Int.reduceLT, Int.reduceLE, Int.reduceAdd, Int.reduceSub, Int.reduceMul, Int.reduceEq, Int.reduceNeg, reduceCtorEq, resV, resAll, ARes.ev, LV.flat, ite_true, ite_false, exists_eq_left', exists_eq_left, keyOf, implies_true, fillC, capOf]
  refine callK_of (h_l2Sides) ?_
  simp (disch := omega) only [↓SXd, SXu, slBounds, ↓sop, ↓aop, ↓reduceIte, LV.cells, AOp.dst, LV.I, LV.B, LV.U, LV.S, LV.nil, Nat.reduceEqDiff, Nat.reduceAdd, Nat.reduceMul, Nat.reduceSub, Nat.reduceLeDiff, Nat.reduceBEq, Nat.reduceDiv, Nat.reduceMod, Int.reduceToNat, Int.reduceLT, Int.reduceLE, Int.reduceAdd, Int.reduceSub, Int.reduceMul, Int.reduceEq, Int.reduceNeg, reduceCtorEq, resV, resAll, ARes.ev, LV.flat, ite_true, ite_false, exists_eq_left', exists_eq_left, keyOf, implies_true, fillC, capOf]
  by_cases hS : Sides x y z
  · rw [decide_eq_true hS]
    have hcl : (cellsOf x y z).length = vol x y z := by simp [cellsOf]
    have hv := vol_cast hS
    simp (disch := omega) only [splice, ↓SXd, SXu, slBounds, ↓sop, ↓aop, ↓reduceIte, LV.cells, AOp.dst, LV.I, LV.B, LV.U, LV.S, LV.nil, Nat.reduceEqDiff, Nat.reduceAdd, Nat.reduceMul, Nat.reduceSub, Nat.reduceLeDiff, Nat.reduceBEq, Nat.reduceDiv, Nat.reduceMod, Int.reduceToNat, Int.reduceLT, Int.reduceLE, Int.reduceAdd, Int.reduceSub, Int.reduceMul, Int.reduceEq, Int.reduceNeg, reduceCtorEq, resV, resAll, ARes.ev, LV.flat, ite_true, ite_false, exists_eq_left', exists_eq_left, keyOf, implies_true, fillC, capOf]
    refine callK_of (h_l2All hS) ?_
    simp (disch := omega) only [↓SXd, SXu, slBounds, ↓sop, ↓aop, ↓reduceIte, LV.cells, AOp.dst, LV.I, LV.B, LV.U, LV.S, LV.nil, Nat.reduceEqDiff, Nat.reduceAdd, Nat.reduceMul, Nat.reduceSub, Nat.reduceLeDiff, Nat.reduceBEq, Nat.reduceDiv, Nat.reduceMod, Int.reduceToNat, Int.reduceLT, Int.reduceLE, Int.reduceAdd, Int.reduceSub, Int.reduceMul, Int.reduceEq, Int.reduceNeg, reduceCtorEq, resV, resAll, ARes.ev, LV.flat, ite_true, ite_false, exists_eq_left', exists_eq_left, keyOf, implies_true, fillC, capOf]
    refine ev_loop (fun m fr M' => ∃ (i u : Nat) (cs : List Cell), i + m = (cellsOf x y z).length ∧ DrawN M p t o bs (a + 2 + 2 * i) M' ∧ N1.length + 2 ≤ M'.length ∧ Live M' M.length (.row [.I 0, .I 0, .I 0, .nil] true 0) ∧ Live M' N1.length (.row [.I x, .I y, .I z, .ref u 0 cs.length] true 0) ∧ Live M' (N1.length + 1) (.row (triL (cellsOf x y z)) true 3) ∧ Live M' u (.row (triL cs) true 3) ∧
      (u = M.length + 1 ∨ N1.length + 2 ≤ u) ∧ cs.Sublist ((cellsOf x y z).take i) ∧
      fr 0 = .ptr p 0 ∧ fr 1 = .I x ∧ fr 2 = .I y ∧ fr 3 = .I z ∧ fr 8 = .ptr M.length 0 ∧ fr 9 = .ptr N1.length 0 ∧ fr 10 = .I odds ∧ fr 11 = .ref (N1.length + 1) 0 (cellsOf x y z).length ∧ fr 12 = .I i) (cellsOf x y z).length
      ⟨0, M.length + 1, [], by omega, hD1.keep hpl htM (by omega) (by simp) fun q q1 => List.getElem?_append_left (by omega), by simp, b8.app, Live.new, Live.newj rfl, bc.app, .inl rfl, by simp, rfl, rfl, rfl, rfl, rfl, rfl, rfl, rfl, rfl⟩ ?_
    rintro m fr M' ⟨i, u, cs, hi, hd, hMl, c8, c9, ca, cu, hu, hsub, f0, f1, f2, f3, f8, f9, f10, f11, f12⟩
    have hsl := hsub.length_le
    have htl := List.length_take_le i (cellsOf x y z)
    simp (disch := omega) only [f0, f1, f2, f3, f8, f9, f10, f11, f12, ↓SXd, SXu, slBounds, ↓sop, ↓aop, ↓reduceIte, LV.cells, AOp.dst, LV.I, LV.B, LV.U, LV.S, LV.nil, Nat.reduceEqDiff, Nat.reduceAdd, Nat.reduceMul, Nat.reduceSub, Nat.reduceLeDiff, Nat.reduceBEq, Nat.reduceDiv, Nat.reduceMod, Int.reduceToNat, Int.reduceLT, Int.reduceLE, Int.reduceAdd, Int.reduceSub, Int.reduceMul, Int.reduceEq, Int.reduceNeg, reduceCtorEq, resV, resAll, ARes.ev, LV.flat, ite_true, ite_false, exists_eq_left', exists_eq_left, keyOf, implies_true, fillC, capOf]
    refine condC_dec (fun hlt => ?_) (fun hlt => ?_)
    · have hil : i < (cellsOf x y z).length := by omega
      have hts := take_snoc' (d := default) hil
      simp (disch := omega) only [f0, f1, f2, f3, f8, f9, f10, f11, f12, ↓SXd, SXu, slBounds, ↓sop, ↓aop, ↓reduceIte, LV.cells, AOp.dst, LV.I, LV.B, LV.U, LV.S, LV.nil, Nat.reduceEqDiff, Nat.reduceAdd, Nat.reduceMul, Nat.reduceSub, Nat.reduceLeDiff, Nat.reduceBEq, Nat.reduceDiv, Nat.reduceMod, Int.reduceToNat, Int.reduceLT, Int.reduceLE, Int.reduceAdd, Int.reduceSub, Int.reduceMul, Int.reduceEq, Int.reduceNeg, reduceCtorEq, resV, resAll, ARes.ev, LV.flat, ite_true, ite_false, exists_eq_left', exists_eq_left, keyOf, implies_true, fillC, capOf]
      refine callR_of (d_one hd.1 (by omega)) ?_
      rintro _ N2 ⟨⟨b, rfl⟩, hd2⟩
      have k2 : ∀ q, M.length ≤ q → q < M'.length → N2[q]? = M'[q]? := fun q q1 q2 => hd2.2.2 q q2 (by omega)
      have hN2 := hd2.2.1
      have e8 := Live.at c8 (k2 _ (by omega) c8.lt)
      have e9 := Live.at c9 (k2 _ (by omega) c9.lt)
      have ea := Live.at ca (k2 _ (by omega) ca.lt)
      have eu := Live.at cu (k2 _ (by omega) cu.lt)
      have hDD := hd.trans hd2
      have hg2 := ea.tri0 hil
      generalize (cellsOf x y z).getD i default = c at hts hg2
      have e8l := e8.lt
      have e9l := e9.lt
      have eal := ea.lt
      cases b with
      | true =>
        simp (disch := omega) only [f0, f1, f2, f3, f8, f9, f10, f11, f12, e9.cell, hg2, Cell.row, Nat.zero_add, ↓SXd, SXu, slBounds, ↓sop, ↓aop, ↓reduceIte, LV.cells, AOp.dst, LV.I, LV.B, LV.U, LV.S, LV.nil, Nat.reduceEqDiff, Nat.reduceAdd, Nat.reduceMul, Nat.reduceSub, Nat.reduceLeDiff, Nat.reduceBEq, Nat.reduceDiv, Nat.reduceMod, Int.reduceToNat, Int.reduceLT, Int.reduceLE, Int.reduceAdd, Int.reduceSub, Int.reduceMul, Int.reduceEq, Int.reduceNeg, reduceCtorEq, resV, resAll, ARes.ev, LV.flat, ite_true, ite_false, exists_eq_left', exists_eq_left, keyOf, implies_true, fillC, capOf]
        refine appendK_cell eu (by omega) fun N' l1 l2 l3 => ?_
        have d9 := live_step e9 (by omega) l3
        simp (disch := omega) only [f0, f1, f2, f3, f8, f9, f10, f11, f12, ↓SXd, SXu, slBounds, ↓sop, ↓aop, ↓reduceIte, LV.cells, AOp.dst, LV.I, LV.B, LV.U, LV.S, LV.nil, Nat.reduceEqDiff, Nat.reduceAdd, Nat.reduceMul, Nat.reduceSub, Nat.reduceLeDiff, Nat.reduceBEq, Nat.reduceDiv, Nat.reduceMod, Int.reduceToNat, Int.reduceLT, Int.reduceLE, Int.reduceAdd, Int.reduceSub, Int.reduceMul, Int.reduceEq, Int.reduceNeg, reduceCtorEq, resV, resAll, ARes.ev, LV.flat, ite_true, ite_false, exists_eq_left', exists_eq_left, keyOf, implies_true, fillC, capOf]
        refine memK_one d9 (by simp) fun N3 j1 j2 j3 => ?_
        simp (disch := omega) only [f0, f1, f2, f3, f8, f9, f10, f11, f12, ↓SXd, SXu, slBounds, ↓sop, ↓aop, ↓reduceIte, LV.cells, AOp.dst, LV.I, LV.B, LV.U, LV.S, LV.nil, Nat.reduceEqDiff, Nat.reduceAdd, Nat.reduceMul, Nat.reduceSub, Nat.reduceLeDiff, Nat.reduceBEq, Nat.reduceDiv, Nat.reduceMod, Int.reduceToNat, Int.reduceLT, Int.reduceLE, Int.reduceAdd, Int.reduceSub, Int.reduceMul, Int.reduceEq, Int.reduceNeg, reduceCtorEq, resV, resAll, ARes.ev, LV.flat, ite_true, ite_false, exists_eq_left', exists_eq_left, keyOf, implies_true, fillC, capOf]
        rw [cell_eta] at l2 j2
        exact ⟨m - 1, by omega, i + 1, N2.length + 1, cs ++ [c], by omega, hDD.keep hpl htM (by omega) (by omega) fun q q1 => by rw [j3 q (by omega) (by omega), l3 q (by omega) (by omega)], by omega, live_step (live_step e8 (by omega) l3) (by omega) j3, j2, live_step (live_step ea (by omega) l3) (by omega) j3, live_step l2 (by omega) j3, by omega, by rw [hts]; exact hsub.append (List.Sublist.refl _), f0, f1, f2, f3, f8, f9, f10, f11, eqI (natI _)⟩
      | false =>
        simp (disch := omega) only [f0, f1, f2, f3, f8, f9, f10, f11, f12, ↓SXd, SXu, slBounds, ↓sop, ↓aop, ↓reduceIte, LV.cells, AOp.dst, LV.I, LV.B, LV.U, LV.S, LV.nil, Nat.reduceEqDiff, Nat.reduceAdd, Nat.reduceMul, Nat.reduceSub, Nat.reduceLeDiff, Nat.reduceBEq, Nat.reduceDiv, Nat.reduceMod, Int.reduceToNat, Int.reduceLT, Int.reduceLE, Int.reduceAdd, Int.reduceSub, Int.reduceMul, Int.reduceEq, Int.reduceNeg, reduceCtorEq, resV, resAll, ARes.ev, LV.flat, ite_true, ite_false, exists_eq_left', exists_eq_left, keyOf, implies_true, fillC, capOf]
        exact ⟨m - 1, by omega, i + 1, u, cs, by omega, hDD.up (by omega), by omega, e8, e9, ea, eu, hu, by rw [hts]; exact hsub.trans (List.sublist_append_left _ _), f0, f1, f2, f3, f8, f9, f10, f11, eqI (natI _)⟩
    · have hil : i = (cellsOf x y z).length := by omega
      subst hil
      rw [List.take_length] at hsub
      have hH := sub_heap hS hsub
      simp (disch := omega) only [f0, f1, f2, f3, f8, f9, f10, f11, f12, ↓SXd, SXu, slBounds, ↓sop, ↓aop, ↓reduceIte, LV.cells, AOp.dst, LV.I, LV.B, LV.U, LV.S, LV.nil, Nat.reduceEqDiff, Nat.reduceAdd, Nat.reduceMul, Nat.reduceSub, Nat.reduceLeDiff, Nat.reduceBEq, Nat.reduceDiv, Nat.reduceMod, Int.reduceToNat, Int.reduceLT, Int.reduceLE, Int.reduceAdd, Int.reduceSub, Int.reduceMul, Int.reduceEq, Int.reduceNeg, reduceCtorEq, resV, resAll, ARes.ev, LV.flat, ite_true, ite_false, exists_eq_left', exists_eq_left, keyOf, implies_true, fillC, capOf]
      refine callR_of (d_pick hd.1 (by omega)) ?_
      rintro _ N2 ⟨⟨b, rfl, _⟩, hd2⟩
      have k2 : ∀ q, M.length ≤ q → q < M'.length → N2[q]? = M'[q]? := fun q q1 q2 => hd2.2.2 q q2 (by omega)
      have hN2 := hd2.2.1
      have e8 := Live.at c8 (k2 _ (by omega) c8.lt)
      have e9 := Live.at c9 (k2 _ (by omega) c9.lt)
      have eu := Live.at cu (k2 _ (by omega) cu.lt)
      have hDD := hd.trans hd2
      have hfin : ∀ {N3 : Mem} {u3 : Nat} {cs3 : List Cell}, Pre N2 N3 → Live N3 u3 (.row (triL cs3) true 3) → cs3.length ≤ 64 → HeapOK x y z cs3 → M.length ≤ u3 → u3 ≠ M.length → u3 ≠ N1.length → ∀ {N4 N5 : Mem}, N4.length = N3.length → (∀ q, q ≠ N1.length → q < N3.length → N4[q]? = N3[q]?) → N5.length = N4.length → (∀ q, q ≠ M.length → q < N4.length → N5[q]? = N4[q]?) → HeapNK M x y z (.agg [.I x, .I y, .I z, .ref u3 0 cs3.length]) N5 ∧ DrawN M p t o bs (a + 140) N5 := fun {N3 u3 cs3} hp3 hl3 hc3 hHK h1 h2 h3 {N4 N5} a1 a2 a3 a4 => by
        have hl := hp3.1
        have hul := hl3.lt
        exact ⟨⟨cs3, u3, rfl, live_step (live_step hl3 h3 a2) h2 a4, h1, hc3, fun _ => hHK⟩, hDD.keep hpl htM (by omega) (by omega) fun q q1 => by rw [a4 q (by omega) (by omega), a2 q (by omega) (by omega)]; exact hp3.2 q (by omega)⟩
      by_cases b0 : (b : Int) = 0
      · simp (disch := omega) only [b0, f0, f1, f2, f3, f8, f9, f10, f11, f12, e9.cells, ↓SXd, SXu, slBounds, ↓sop, ↓aop, ↓reduceIte, LV.cells, AOp.dst, LV.I, LV.B, LV.U, LV.S, LV.nil, Nat.reduceEqDiff, Nat.reduceAdd, Nat.reduceMul, Nat.reduceSub, Nat.reduceLeDiff, Nat.reduceBEq, Nat.reduceDiv, Nat.reduceMod, Int.reduceToNat, Int.reduceLT, Int.reduceLE, Int.reduceAdd, Int.reduceSub, Int.reduceMul, Int.reduceEq, Int.reduceNeg, reduceCtorEq, resV, resAll, ARes.ev, LV.flat, ite_true, ite_false, exists_eq_left', exists_eq_left, keyOf, implies_true, fillC, capOf]
        refine callR_of (h_OtherCells eu.has (by omega)) ?_
        rintro _ N3 ⟨h1, _, hp3⟩
        obtain ⟨u3, rfl, hl3, hu3⟩ := h1 hH
        have hl := hp3.1
        simp (disch := omega) only [f0, f1, f2, f3, f8, f9, f10, f11, f12, ↓SXd, SXu, slBounds, ↓sop, ↓aop, ↓reduceIte, LV.cells, AOp.dst, LV.I, LV.B, LV.U, LV.S, LV.nil, Nat.reduceEqDiff, Nat.reduceAdd, Nat.reduceMul, Nat.reduceSub, Nat.reduceLeDiff, Nat.reduceBEq, Nat.reduceDiv, Nat.reduceMod, Int.reduceToNat, Int.reduceLT, Int.reduceLE, Int.reduceAdd, Int.reduceSub, Int.reduceMul, Int.reduceEq, Int.reduceNeg, reduceCtorEq, resV, resAll, ARes.ev, LV.flat, ite_true, ite_false, exists_eq_left', exists_eq_left, keyOf, implies_true, fillC, capOf]
        refine memK_box (e9.pre hp3) (by simp) fun N4 j1 j2 j3 => ?_
        simp (disch := omega) only [f0, f1, f2, f3, f8, f9, f10, f11, f12, j2.cells, ↓SXd, SXu, slBounds, ↓sop, ↓aop, ↓reduceIte, LV.cells, AOp.dst, LV.I, LV.B, LV.U, LV.S, LV.nil, Nat.reduceEqDiff, Nat.reduceAdd, Nat.reduceMul, Nat.reduceSub, Nat.reduceLeDiff, Nat.reduceBEq, Nat.reduceDiv, Nat.reduceMod, Int.reduceToNat, Int.reduceLT, Int.reduceLE, Int.reduceAdd, Int.reduceSub, Int.reduceMul, Int.reduceEq, Int.reduceNeg, reduceCtorEq, resV, resAll, ARes.ev, LV.flat, ite_true, ite_false, exists_eq_left', exists_eq_left, keyOf, implies_true, fillC, capOf]
        refine memK_box (live_step (e8.pre hp3) (by omega) j3) (by simp) fun N5 i1 i2 i3 => ?_
        simp (disch := omega) only [f0, f1, f2, f3, f8, f9, f10, f11, f12, i2.cells, ↓SXd, SXu, slBounds, ↓sop, ↓aop, ↓reduceIte, LV.cells, AOp.dst, LV.I, LV.B, LV.U, LV.S, LV.nil, Nat.reduceEqDiff, Nat.reduceAdd, Nat.reduceMul, Nat.reduceSub, Nat.reduceLeDiff, Nat.reduceBEq, Nat.reduceDiv, Nat.reduceMod, Int.reduceToNat, Int.reduceLT, Int.reduceLE, Int.reduceAdd, Int.reduceSub, Int.reduceMul, Int.reduceEq, Int.reduceNeg, reduceCtorEq, resV, resAll, ARes.ev, LV.flat, ite_true, ite_false, exists_eq_left', exists_eq_left, keyOf, implies_true, fillC, capOf]
        exact hfin hp3 hl3 (pick_len hS _) (pick_ok hS _) (by omega) (by omega) (by omega) j1 j3 i1 i3
      by_cases b1 : (b : Int) = 1
      · simp (disch := omega) only [b1, f0, f1, f2, f3, f8, f9, f10, f11, f12, e9.cells, ↓SXd, SXu, slBounds, ↓sop, ↓aop, ↓reduceIte, LV.cells, AOp.dst, LV.I, LV.B, LV.U, LV.S, LV.nil, Nat.reduceEqDiff, Nat.reduceAdd, Nat.reduceMul, Nat.reduceSub, Nat.reduceLeDiff, Nat.reduceBEq, Nat.reduceDiv, Nat.reduceMod, Int.reduceToNat, Int.reduceLT, Int.reduceLE, Int.reduceAdd, Int.reduceSub, Int.reduceMul, Int.reduceEq, Int.reduceNeg, reduceCtorEq, resV, resAll, ARes.ev, LV.flat, ite_true, ite_false, exists_eq_left', exists_eq_left, keyOf, implies_true, fillC, capOf]
        refine callN_of (h_l2Heights eu.has hH) ?_
        intro w N3 hw hp3 hl3
        have hl := hp3.1
        simp (disch := omega) only [f0, f1, f2, f3, f8, f9, f10, f11, f12, ↓SXd, SXu, slBounds, ↓sop, ↓aop, ↓reduceIte, LV.cells, AOp.dst, LV.I, LV.B, LV.U, LV.S, LV.nil, Nat.reduceEqDiff, Nat.reduceAdd, Nat.reduceMul, Nat.reduceSub, Nat.reduceLeDiff, Nat.reduceBEq, Nat.reduceDiv, Nat.reduceMod, Int.reduceToNat, Int.reduceLT, Int.reduceLE, Int.reduceAdd, Int.reduceSub, Int.reduceMul, Int.reduceEq, Int.reduceNeg, reduceCtorEq, resV, resAll, ARes.ev, LV.flat, ite_true, ite_false, exists_eq_left', exists_eq_left, keyOf, implies_true, fillC, capOf]
        refine callR_of (h_l2Stack hS hl3.has (by
          rw [viewL_len]
          have := prod_le hS
          have e : linesOf x y z 2 = x * y := rfl
          omega)) ?_
        rintro _ N4 ⟨u4, rfl, hl4, hu4, hp4⟩
        have hp34 := hp3.trans hp4
        have hll := hp4.1
        simp (disch := omega) only [f0, f1, f2, f3, f8, f9, f10, f11, f12, ↓SXd, SXu, slBounds, ↓sop, ↓aop, ↓reduceIte, LV.cells, AOp.dst, LV.I, LV.B, LV.U, LV.S, LV.nil, Nat.reduceEqDiff, Nat.reduceAdd, Nat.reduceMul, Nat.reduceSub, Nat.reduceLeDiff, Nat.reduceBEq, Nat.reduceDiv, Nat.reduceMod, Int.reduceToNat, Int.reduceLT, Int.reduceLE, Int.reduceAdd, Int.reduceSub, Int.reduceMul, Int.reduceEq, Int.reduceNeg, reduceCtorEq, resV, resAll, ARes.ev, LV.flat, ite_true, ite_false, exists_eq_left', exists_eq_left, keyOf, implies_true, fillC, capOf]
        refine memK_box (e9.pre hp34) (by simp) fun N5 j1 j2 j3 => ?_
        simp (disch := omega) only [f0, f1, f2, f3, f8, f9, f10, f11, f12, j2.cells, ↓SXd, SXu, slBounds, ↓sop, ↓aop, ↓reduceIte, LV.cells, AOp.dst, LV.I, LV.B, LV.U, LV.S, LV.nil, Nat.reduceEqDiff, Nat.reduceAdd, Nat.reduceMul, Nat.reduceSub, Nat.reduceLeDiff, Nat.reduceBEq, Nat.reduceDiv, Nat.reduceMod, Int.reduceToNat, Int.reduceLT, Int.reduceLE, Int.reduceAdd, Int.reduceSub, Int.reduceMul, Int.reduceEq, Int.reduceNeg, reduceCtorEq, resV, resAll, ARes.ev, LV.flat, ite_true, ite_false, exists_eq_left', exists_eq_left, keyOf, implies_true, fillC, capOf]
        refine memK_box (live_step (e8.pre hp34) (by omega) j3) (by simp) fun N6 i1 i2 i3 => ?_
        simp (disch := omega) only [f0, f1, f2, f3, f8, f9, f10, f11, f12, i2.cells, ↓SXd, SXu, slBounds, ↓sop, ↓aop, ↓reduceIte, LV.cells, AOp.dst, LV.I, LV.B, LV.U, LV.S, LV.nil, Nat.reduceEqDiff, Nat.reduceAdd, Nat.reduceMul, Nat.reduceSub, Nat.reduceLeDiff, Nat.reduceBEq, Nat.reduceDiv, Nat.reduceMod, Int.reduceToNat, Int.reduceLT, Int.reduceLE, Int.reduceAdd, Int.reduceSub, Int.reduceMul, Int.reduceEq, Int.reduceNeg, reduceCtorEq, resV, resAll, ARes.ev, LV.flat, ite_true, ite_false, exists_eq_left', exists_eq_left, keyOf, implies_true, fillC, capOf]
        exact hfin hp34 hl4 (pick_len hS _) (pick_ok hS _) (by omega) (by omega) (by omega) j1 j3 i1 i3
      · simp (disch := omega) only [b0, b1, f0, f1, f2, f3, f8, f9, f10, f11, f12, e9.cells, ↓SXd, SXu, slBounds, ↓sop, ↓aop, ↓reduceIte, LV.cells, AOp.dst, LV.I, LV.B, LV.U, LV.S, LV.nil, Nat.reduceEqDiff, Nat.reduceAdd, Nat.reduceMul, Nat.reduceSub, Nat.reduceLeDiff, Nat.reduceBEq, Nat.reduceDiv, Nat.reduceMod, Int.reduceToNat, Int.reduceLT, Int.reduceLE, Int.reduceAdd, Int.reduceSub, Int.reduceMul, Int.reduceEq, Int.reduceNeg, reduceCtorEq, resV, resAll, ARes.ev, LV.flat, ite_true, ite_false, exists_eq_left', exists_eq_left, keyOf, implies_true, fillC, capOf]
        refine memK_box e8 (by simp) fun N5 i1 i2 i3 => ?_
        simp (disch := omega) only [f0, f1, f2, f3, f8, f9, f10, f11, f12, i2.cells, ↓SXd, SXu, slBounds, ↓sop, ↓aop, ↓reduceIte, LV.cells, AOp.dst, LV.I, LV.B, LV.U, LV.S, LV.nil, Nat.reduceEqDiff, Nat.reduceAdd, Nat.reduceMul, Nat.reduceSub, Nat.reduceLeDiff, Nat.reduceBEq, Nat.reduceDiv, Nat.reduceMod, Int.reduceToNat, Int.reduceLT, Int.reduceLE, Int.reduceAdd, Int.reduceSub, Int.reduceMul, Int.reduceEq, Int.reduceNeg, reduceCtorEq, resV, resAll, ARes.ev, LV.flat, ite_true, ite_false, exists_eq_left', exists_eq_left, keyOf, implies_true, fillC, capOf]
        exact hfin (Pre.refl _) eu (by omega) hH (by omega) (by omega) (by omega) rfl (fun _ _ _ => rfl) i1 i3
  · rw [decide_eq_false hS]
    simp (disch := omega) only [splice, ↓SXd, SXu, slBounds, ↓sop, ↓aop, ↓reduceIte, LV.cells, AOp.dst, LV.I, LV.B, LV.U, LV.S, LV.nil, Nat.reduceEqDiff, Nat.reduceAdd, Nat.reduceMul, Nat.reduceSub, Nat.reduceLeDiff, Nat.reduceBEq, Nat.reduceDiv, Nat.reduceMod, Int.reduceToNat, Int.reduceLT, Int.reduceLE, Int.reduceAdd, Int.reduceSub, Int.reduceMul, Int.reduceEq, Int.reduceNeg, reduceCtorEq, resV, resAll, ARes.ev, LV.flat, ite_true, ite_false, exists_eq_left', exists_eq_left, keyOf, implies_true, fillC, capOf]
    refine memK_box b8.app (by simp) fun N3 j1 j2 j3 => ?_
    simp (disch := omega) only [j2.cells, ↓SXd, SXu, slBounds, ↓sop, ↓aop, ↓reduceIte, LV.cells, AOp.dst, LV.I, LV.B, LV.U, LV.S, LV.nil, Nat.reduceEqDiff, Nat.reduceAdd, Nat.reduceMul, Nat.reduceSub, Nat.reduceLeDiff, Nat.reduceBEq, Nat.reduceDiv, Nat.reduceMod, Int.reduceToNat, Int.reduceLT, Int.reduceLE, Int.reduceAdd, Int.reduceSub, Int.reduceMul, Int.reduceEq, Int.reduceNeg, reduceCtorEq, resV, resAll, ARes.ev, LV.flat, ite_true, ite_false, exists_eq_left', exists_eq_left, keyOf, implies_true, fillC, capOf]
    refine ⟨⟨[], M.length + 1, rfl, live_step bc.app (by omega) j3, by omega, by simp, fun h => absurd h hS⟩, hD1.keep hpl htM (by omega) (by rw [j1]; simp) fun q q1 => by rw [j3 q (by omega) (by simp; omega), List.getElem?_append_left (by omega)]⟩
theorem d_someHeap {x y z : Int} (h : CurAt M p t o bs a) (ha : a ≤ 999000) : CallsR PG F.spec_l1Cur_someHeap [.ptr p 0, .I x, .I y, .I z] M fun v N => HeapN M x y z v N ∧ DrawN M p t o bs (a + 140) N :=
  (d_someHeapK h ha).mono fun v N hv => by
    obtain ⟨⟨cs, u, h1, h2, h3, h4, _⟩, hd⟩ := hv
    exact ⟨⟨cs, u, h1, h2, h3, h4⟩, hd⟩
end
end Go.Ab

/- Contracts: the heap that a law draws from its bytes. -/
namespace Go.Ab
open Go
set_option linter.unusedSimpArgs false
set_option linter.unusedVariables false
set_option maxRecDepth 20000

/-- A new reader. -/
theorem CurAt.new {t o : Nat} {bs : List Nat} {M : Mem} (hB : Bytes M t o bs) (h255 : ∀ b ∈ bs, b ≤ 255) (hl : bs.length ≤ 1000000000) : CurAt (M ++ [some (.row [.ref t o bs.length, .I 0, .val (.int .u64 0)] true 0)]) M.length t o bs 0 := by
  have ht := hB.lt
  exact ⟨⟨0, 0, Nat.le_refl _, Live.new⟩, Has.app hB, by omega, h255, hl⟩
/-- A heap, valid or not, all of whose cells are new. -/
def HeapD (M : Mem) (v : LV) (N : Mem) : Prop := ∃ (x y z : Int) (w : LV) (cs : List Cell), v = .agg [.I x, .I y, .I z, w] ∧ ((w = .nil ∧ cs = []) ∨ ∃ u, w = .ref u 0 cs.length ∧ Live N u (.row (triL cs) true 3)) ∧ Newer M w ∧ cs.length ≤ 65
theorem d_heap {p t o a : Nat} {bs : List Nat} {M : Mem} (h : CurAt M p t o bs a) (ha : a ≤ 990000) : CallsR PG F.spec_l1Cur_heap [.ptr p 0] M fun v N => HeapD M v N ∧ DrawN M p t o bs (a + 160) N := by
  obtain ⟨⟨_, _, _, hpl'⟩, hB, _⟩ := id h
  have hpl := hpl'.lt
  have htM := hB.lt
  refine callsR_run K.spec_l1Cur_heap rfl ?_
  simp (disch := omega) only [C.spec_l1Cur_heap, ↓SXd, SXu, slBounds, ↓sop, ↓aop, ↓reduceIte, LV.cells, AOp.dst, LV.I, LV.B, LV.U, LV.S, LV.nil, Nat.reduceEqDiff, Nat.reduceAdd, Nat.reduceMul, Nat.reduceSub, Nat.reduceLeDiff, Nat.reduceBEq, Nat.reduceDiv, Nat.reduceMod, Int.reduceToNat, Int.reduceLT, Int.reduceLE, Int.reduceAdd, Int.reduceSub, Int.reduceMul, Int.reduceEq, Int.reduceNeg, reduceCtorEq, resV, resAll, ARes.ev, LV.flat, ite_true, ite_false, exists_eq_left', exists_eq_left, keyOf, implies_true, fillC, capOf]
  have h0 : CurAt (M ++ [some (.row [.I 0, .I 0, .I 0, .val (.slice none 0 0)] true 0)]) p t o bs a := h.pre (Pre.app _ _)
  refine callR_of (d_sides h0 (by omega)) ?_
  rintro _ N1 ⟨⟨x, y, z, rfl⟩, hd1⟩
  have hN1 := hd1.2.1
  rw [List.length_append, List.length_singleton] at hN1
  have b2 : Live N1 M.length (.row [.I 0, .I 0, .I 0, .val (.slice none 0 0)] true 0) := Live.at Live.new (hd1.2.2 _ (by simp) (by omega))
  have hD1 := DrawN.of_pre (Pre.app _ _) hd1
  simp (disch := omega) only [↓SXd, SXu, slBounds, ↓sop, ↓aop, ↓reduceIte, LV.cells, AOp.dst, LV.I, LV.B, LV.U, LV.S, LV.nil, Nat.reduceEqDiff, Nat.reduceAdd, Nat.reduceMul, Nat.reduceSub, Nat.reduceLeDiff, Nat.reduceBEq, Nat.reduceDiv, Nat.reduceMod, Int.reduceToNat, Int.reduceLT, Int.reduceLE, Int.reduceAdd, Int.reduceSub, Int.reduceMul, Int.reduceEq, Int.reduceNeg, reduceCtorEq, resV, resAll, ARes.ev, LV.flat, ite_true, ite_false, exists_eq_left', exists_eq_left, keyOf, implies_true, fillC, capOf]
  refine callR_of (d_someHeap hd1.1 (by omega)) ?_
  rintro _ N2 ⟨⟨cs, u, rfl, hu, hul, hcl⟩, hd2⟩
  have hN2 := hd2.2.1
  have c2 := Live.at b2 (hd2.2.2 _ b2.lt (by omega))
  have hD2 := hD1.trans hd2
  have hull := hu.lt
  simp (disch := omega) only [splice, ↓SXd, SXu, slBounds, ↓sop, ↓aop, ↓reduceIte, LV.cells, AOp.dst, LV.I, LV.B, LV.U, LV.S, LV.nil, Nat.reduceEqDiff, Nat.reduceAdd, Nat.reduceMul, Nat.reduceSub, Nat.reduceLeDiff, Nat.reduceBEq, Nat.reduceDiv, Nat.reduceMod, Int.reduceToNat, Int.reduceLT, Int.reduceLE, Int.reduceAdd, Int.reduceSub, Int.reduceMul, Int.reduceEq, Int.reduceNeg, reduceCtorEq, resV, resAll, ARes.ev, LV.flat, ite_true, ite_false, exists_eq_left', exists_eq_left, keyOf, implies_true, fillC, capOf]
  have hu3 : Live (N2 ++ [some (.row [.I x, .I y, .I z, .ref u 0 cs.length] true 0)]) u (.row (triL cs) true 3) := hu.app
  have c3 : Live (N2 ++ [some (.row [.I x, .I y, .I z, .ref u 0 cs.length] true 0)]) M.length (.row [.I 0, .I 0, .I 0, .val (.slice none 0 0)] true 0) := c2.app
  have c6 : Live (N2 ++ [some (.row [.I x, .I y, .I z, .ref u 0 cs.length] true 0)]) N2.length (.row [.I x, .I y, .I z, .ref u 0 cs.length] true 0) := Live.new
  have hD3 : DrawN M p t o bs (a + 150) (N2 ++ [some (.row [.I x, .I y, .I z, .ref u 0 cs.length] true 0)]) := hD2.keep hpl htM (by omega) (by simp) fun q q1 => List.getElem?_append_left (by omega)
  have hl3 : (N2 ++ [some (Blk.row [.I x, .I y, .I z, .ref u 0 cs.length] true 0)]).length = N2.length + 1 := by simp
  generalize N2 ++ [some (Blk.row [.I x, .I y, .I z, .ref u 0 cs.length] true 0)] = N3 at hu3 c3 c6 hD3 hl3 ⊢
  refine callR_of (d_pick hD3.1 (by omega)) ?_
  rintro _ N4 ⟨⟨b, rfl, _⟩, hd4⟩
  have hN4 := hd4.2.1
  have k4 : ∀ q, M.length ≤ q → q < N3.length → N4[q]? = N3[q]? := fun q q1 q2 => hd4.2.2 q q2 (by omega)
  have u4 := Live.at hu3 (k4 _ (by omega) hu3.lt)
  have e2 := Live.at c3 (k4 _ (by omega) c3.lt)
  have e6 := Live.at c6 (k4 _ (by omega) c6.lt)
  have e2l := e2.lt
  have e6l := e6.lt
  have u4l := u4.lt
  have hD4 := hD3.trans hd4
  have hfin : ∀ {cs5 : List Cell} {u5 : Nat} {N5 N6 : Mem}, Live N5 u5 (.row (triL cs5) true 3) → cs5.length ≤ 65 → N1.length ≤ u5 → DrawN M p t o bs (a + 160) N5 → N6.length = N5.length → (∀ q, q ≠ M.length → q < N5.length → N6[q]? = N5[q]?) → HeapD M (.agg [.I x, .I y, .I z, .ref u5 0 cs5.length]) N6 ∧ DrawN M p t o bs (a + 160) N6 := fun {cs5 u5 N5 N6} h1 h2 h3 h4 a1 a2 =>
    ⟨⟨x, y, z, _, cs5, rfl, .inr ⟨u5, rfl, live_step h1 (by omega) a2⟩, Newer.of (by omega), h2⟩, h4.keep hpl htM (Nat.le_refl _) (by omega) fun q q1 => a2 q (by omega) (by have := h4.2.1; omega)⟩
  have happ : ∀ {c : Cell} {N5 N6 : Mem}, N5.length = N4.length + 2 → Live N5 (N4.length + 1) (.row (triL (cs ++ [c])) true 3) → (∀ q, q ≠ u → q < N4.length → N5[q]? = N4[q]?) → N6.length = N5.length → (∀ q, q ≠ N2.length → q < N5.length → N6[q]? = N5[q]?) → Live N6 (N4.length + 1) (.row (triL (cs ++ [c])) true 3) ∧ Live N6 M.length (.row [.I 0, .I 0, .I 0, .val (.slice none 0 0)] true 0) ∧ DrawN M p t o bs (a + 160) N6 := fun {c N5 N6} a1 a2 a3 a4 a5 =>
    ⟨live_step a2 (by omega) a5, live_step (live_step e2 (by omega) a3) (by omega) a5, hD4.keep hpl htM (by omega) (by omega) fun q q1 => by rw [a5 q (by omega) (by omega), a3 q (by omega) (by omega)]⟩
  by_cases b0 : (b : Int) = 0
  · simp (disch := omega) only [b0, e6.cell, splice, ↓SXd, SXu, slBounds, ↓sop, ↓aop, ↓reduceIte, LV.cells, AOp.dst, LV.I, LV.B, LV.U, LV.S, LV.nil, Nat.reduceEqDiff, Nat.reduceAdd, Nat.reduceMul, Nat.reduceSub, Nat.reduceLeDiff, Nat.reduceBEq, Nat.reduceDiv, Nat.reduceMod, Int.reduceToNat, Int.reduceLT, Int.reduceLE, Int.reduceAdd, Int.reduceSub, Int.reduceMul, Int.reduceEq, Int.reduceNeg, reduceCtorEq, resV, resAll, ARes.ev, LV.flat, ite_true, ite_false, exists_eq_left', exists_eq_left, keyOf, implies_true, fillC, capOf]
    refine appendK_cell u4 (by omega) fun N5 l1 l2 l3 => ?_
    simp (disch := omega) only [↓SXd, SXu, slBounds, ↓sop, ↓aop, ↓reduceIte, LV.cells, AOp.dst, LV.I, LV.B, LV.U, LV.S, LV.nil, Nat.reduceEqDiff, Nat.reduceAdd, Nat.reduceMul, Nat.reduceSub, Nat.reduceLeDiff, Nat.reduceBEq, Nat.reduceDiv, Nat.reduceMod, Int.reduceToNat, Int.reduceLT, Int.reduceLE, Int.reduceAdd, Int.reduceSub, Int.reduceMul, Int.reduceEq, Int.reduceNeg, reduceCtorEq, resV, resAll, ARes.ev, LV.flat, ite_true, ite_false, exists_eq_left', exists_eq_left, keyOf, implies_true, fillC, capOf]
    refine memK_one (live_step e6 (by omega) l3) (by simp) fun N6 j1 j2 j3 => ?_
    obtain ⟨g1, g2, g3⟩ := happ l1 l2 l3 j1 j3
    simp (disch := omega) only [j2.cells, ↓SXd, SXu, slBounds, ↓sop, ↓aop, ↓reduceIte, LV.cells, AOp.dst, LV.I, LV.B, LV.U, LV.S, LV.nil, Nat.reduceEqDiff, Nat.reduceAdd, Nat.reduceMul, Nat.reduceSub, Nat.reduceLeDiff, Nat.reduceBEq, Nat.reduceDiv, Nat.reduceMod, Int.reduceToNat, Int.reduceLT, Int.reduceLE, Int.reduceAdd, Int.reduceSub, Int.reduceMul, Int.reduceEq, Int.reduceNeg, reduceCtorEq, resV, resAll, ARes.ev, LV.flat, ite_true, ite_false, exists_eq_left', exists_eq_left, keyOf, implies_true, fillC, capOf]
    refine memK_box g2 (by simp) fun N7 i1 i2 i3 => ?_
    simp (disch := omega) only [i2.cells, ↓SXd, SXu, slBounds, ↓sop, ↓aop, ↓reduceIte, LV.cells, AOp.dst, LV.I, LV.B, LV.U, LV.S, LV.nil, Nat.reduceEqDiff, Nat.reduceAdd, Nat.reduceMul, Nat.reduceSub, Nat.reduceLeDiff, Nat.reduceBEq, Nat.reduceDiv, Nat.reduceMod, Int.reduceToNat, Int.reduceLT, Int.reduceLE, Int.reduceAdd, Int.reduceSub, Int.reduceMul, Int.reduceEq, Int.reduceNeg, reduceCtorEq, resV, resAll, ARes.ev, LV.flat, ite_true, ite_false, exists_eq_left', exists_eq_left, keyOf, implies_true, fillC, capOf]
    exact hfin g1 (by simp; omega) (by omega) g3 i1 i3
  by_cases b1 : (b : Int) = 1
  · simp (disch := omega) only [b1, e6.cell, splice, ↓SXd, SXu, slBounds, ↓sop, ↓aop, ↓reduceIte, LV.cells, AOp.dst, LV.I, LV.B, LV.U, LV.S, LV.nil, Nat.reduceEqDiff, Nat.reduceAdd, Nat.reduceMul, Nat.reduceSub, Nat.reduceLeDiff, Nat.reduceBEq, Nat.reduceDiv, Nat.reduceMod, Int.reduceToNat, Int.reduceLT, Int.reduceLE, Int.reduceAdd, Int.reduceSub, Int.reduceMul, Int.reduceEq, Int.reduceNeg, reduceCtorEq, resV, resAll, ARes.ev, LV.flat, ite_true, ite_false, exists_eq_left', exists_eq_left, keyOf, implies_true, fillC, capOf]
    refine appendK_cell u4 (by omega) fun N5 l1 l2 l3 => ?_
    simp (disch := omega) only [↓SXd, SXu, slBounds, ↓sop, ↓aop, ↓reduceIte, LV.cells, AOp.dst, LV.I, LV.B, LV.U, LV.S, LV.nil, Nat.reduceEqDiff, Nat.reduceAdd, Nat.reduceMul, Nat.reduceSub, Nat.reduceLeDiff, Nat.reduceBEq, Nat.reduceDiv, Nat.reduceMod, Int.reduceToNat, Int.reduceLT, Int.reduceLE, Int.reduceAdd, Int.reduceSub, Int.reduceMul, Int.reduceEq, Int.reduceNeg, reduceCtorEq, resV, resAll, ARes.ev, LV.flat, ite_true, ite_false, exists_eq_left', exists_eq_left, keyOf, implies_true, fillC, capOf]
    refine memK_one (live_step e6 (by omega) l3) (by simp) fun N6 j1 j2 j3 => ?_
    obtain ⟨g1, g2, g3⟩ := happ l1 l2 l3 j1 j3
    simp (disch := omega) only [j2.cells, ↓SXd, SXu, slBounds, ↓sop, ↓aop, ↓reduceIte, LV.cells, AOp.dst, LV.I, LV.B, LV.U, LV.S, LV.nil, Nat.reduceEqDiff, Nat.reduceAdd, Nat.reduceMul, Nat.reduceSub, Nat.reduceLeDiff, Nat.reduceBEq, Nat.reduceDiv, Nat.reduceMod, Int.reduceToNat, Int.reduceLT, Int.reduceLE, Int.reduceAdd, Int.reduceSub, Int.reduceMul, Int.reduceEq, Int.reduceNeg, reduceCtorEq, resV, resAll, ARes.ev, LV.flat, ite_true, ite_false, exists_eq_left', exists_eq_left, keyOf, implies_true, fillC, capOf]
    refine memK_box g2 (by simp) fun N7 i1 i2 i3 => ?_
    simp (disch := omega) only [i2.cells, ↓SXd, SXu, slBounds, ↓sop, ↓aop, ↓reduceIte, LV.cells, AOp.dst, LV.I, LV.B, LV.U, LV.S, LV.nil, Nat.reduceEqDiff, Nat.reduceAdd, Nat.reduceMul, Nat.reduceSub, Nat.reduceLeDiff, Nat.reduceBEq, Nat.reduceDiv, Nat.reduceMod, Int.reduceToNat, Int.reduceLT, Int.reduceLE, Int.reduceAdd, Int.reduceSub, Int.reduceMul, Int.reduceEq, Int.reduceNeg, reduceCtorEq, resV, resAll, ARes.ev, LV.flat, ite_true, ite_false, exists_eq_left', exists_eq_left, keyOf, implies_true, fillC, capOf]
    exact hfin g1 (by simp; omega) (by omega) g3 i1 i3
  by_cases b2 : (b : Int) = 2
  · by_cases hc0 : (cs.length : Int) > 0
    · have hg := u4.tri0 (k := 0) (by omega)
      rw [Nat.zero_mul] at hg
      simp (disch := omega) only [b2, e6.cell, hc0, hg, Cell.row, splice, ↓SXd, SXu, slBounds, ↓sop, ↓aop, ↓reduceIte, LV.cells, AOp.dst, LV.I, LV.B, LV.U, LV.S, LV.nil, Nat.reduceEqDiff, Nat.reduceAdd, Nat.reduceMul, Nat.reduceSub, Nat.reduceLeDiff, Nat.reduceBEq, Nat.reduceDiv, Nat.reduceMod, Int.reduceToNat, Int.reduceLT, Int.reduceLE, Int.reduceAdd, Int.reduceSub, Int.reduceMul, Int.reduceEq, Int.reduceNeg, reduceCtorEq, resV, resAll, ARes.ev, LV.flat, ite_true, ite_false, exists_eq_left', exists_eq_left, keyOf, implies_true, fillC, capOf]
      refine appendK_cell u4 (by omega) fun N5 l1 l2 l3 => ?_
      simp (disch := omega) only [↓SXd, SXu, slBounds, ↓sop, ↓aop, ↓reduceIte, LV.cells, AOp.dst, LV.I, LV.B, LV.U, LV.S, LV.nil, Nat.reduceEqDiff, Nat.reduceAdd, Nat.reduceMul, Nat.reduceSub, Nat.reduceLeDiff, Nat.reduceBEq, Nat.reduceDiv, Nat.reduceMod, Int.reduceToNat, Int.reduceLT, Int.reduceLE, Int.reduceAdd, Int.reduceSub, Int.reduceMul, Int.reduceEq, Int.reduceNeg, reduceCtorEq, resV, resAll, ARes.ev, LV.flat, ite_true, ite_false, exists_eq_left', exists_eq_left, keyOf, implies_true, fillC, capOf]
      refine memK_one (live_step e6 (by omega) l3) (by simp) fun N6 j1 j2 j3 => ?_
      obtain ⟨g1, g2, g3⟩ := happ l1 l2 l3 j1 j3
      simp (disch := omega) only [j2.cells, ↓SXd, SXu, slBounds, ↓sop, ↓aop, ↓reduceIte, LV.cells, AOp.dst, LV.I, LV.B, LV.U, LV.S, LV.nil, Nat.reduceEqDiff, Nat.reduceAdd, Nat.reduceMul, Nat.reduceSub, Nat.reduceLeDiff, Nat.reduceBEq, Nat.reduceDiv, Nat.reduceMod, Int.reduceToNat, Int.reduceLT, Int.reduceLE, Int.reduceAdd, Int.reduceSub, Int.reduceMul, Int.reduceEq, Int.reduceNeg, reduceCtorEq, resV, resAll, ARes.ev, LV.flat, ite_true, ite_false, exists_eq_left', exists_eq_left, keyOf, implies_true, fillC, capOf]
      refine memK_box g2 (by simp) fun N7 i1 i2 i3 => ?_
      simp (disch := omega) only [i2.cells, ↓SXd, SXu, slBounds, ↓sop, ↓aop, ↓reduceIte, LV.cells, AOp.dst, LV.I, LV.B, LV.U, LV.S, LV.nil, Nat.reduceEqDiff, Nat.reduceAdd, Nat.reduceMul, Nat.reduceSub, Nat.reduceLeDiff, Nat.reduceBEq, Nat.reduceDiv, Nat.reduceMod, Int.reduceToNat, Int.reduceLT, Int.reduceLE, Int.reduceAdd, Int.reduceSub, Int.reduceMul, Int.reduceEq, Int.reduceNeg, reduceCtorEq, resV, resAll, ARes.ev, LV.flat, ite_true, ite_false, exists_eq_left', exists_eq_left, keyOf, implies_true, fillC, capOf]
      exact hfin g1 (by simp; omega) (by omega) g3 i1 i3
    · simp (disch := omega) only [b2, e6.cell, hc0, e6.cells, ↓SXd, SXu, slBounds, ↓sop, ↓aop, ↓reduceIte, LV.cells, AOp.dst, LV.I, LV.B, LV.U, LV.S, LV.nil, Nat.reduceEqDiff, Nat.reduceAdd, Nat.reduceMul, Nat.reduceSub, Nat.reduceLeDiff, Nat.reduceBEq, Nat.reduceDiv, Nat.reduceMod, Int.reduceToNat, Int.reduceLT, Int.reduceLE, Int.reduceAdd, Int.reduceSub, Int.reduceMul, Int.reduceEq, Int.reduceNeg, reduceCtorEq, resV, resAll, ARes.ev, LV.flat, ite_true, ite_false, exists_eq_left', exists_eq_left, keyOf, implies_true, fillC, capOf]
      refine memK_box e2 (by simp) fun N7 i1 i2 i3 => ?_
      simp (disch := omega) only [i2.cells, ↓SXd, SXu, slBounds, ↓sop, ↓aop, ↓reduceIte, LV.cells, AOp.dst, LV.I, LV.B, LV.U, LV.S, LV.nil, Nat.reduceEqDiff, Nat.reduceAdd, Nat.reduceMul, Nat.reduceSub, Nat.reduceLeDiff, Nat.reduceBEq, Nat.reduceDiv, Nat.reduceMod, Int.reduceToNat, Int.reduceLT, Int.reduceLE, Int.reduceAdd, Int.reduceSub, Int.reduceMul, Int.reduceEq, Int.reduceNeg, reduceCtorEq, resV, resAll, ARes.ev, LV.flat, ite_true, ite_false, exists_eq_left', exists_eq_left, keyOf, implies_true, fillC, capOf]
      exact hfin u4 (by omega) (by omega) (hD4.up (by omega)) i1 i3
  by_cases b3 : (b : Int) = 3
  · simp (disch := omega) only [b3, ↓SXd, SXu, slBounds, ↓sop, ↓aop, ↓reduceIte, LV.cells, AOp.dst, LV.I, LV.B, LV.U, LV.S, LV.nil, Nat.reduceEqDiff, Nat.reduceAdd, Nat.reduceMul, Nat.reduceSub, Nat.reduceLeDiff, Nat.reduceBEq, Nat.reduceDiv, Nat.reduceMod, Int.reduceToNat, Int.reduceLT, Int.reduceLE, Int.reduceAdd, Int.reduceSub, Int.reduceMul, Int.reduceEq, Int.reduceNeg, reduceCtorEq, resV, resAll, ARes.ev, LV.flat, ite_true, ite_false, exists_eq_left', exists_eq_left, keyOf, implies_true, fillC, capOf]
    refine memK_box e2 (by simp) fun N7 i1 i2 i3 => ?_
    simp (disch := omega) only [i2.cells, ↓SXd, SXu, slBounds, ↓sop, ↓aop, ↓reduceIte, LV.cells, AOp.dst, LV.I, LV.B, LV.U, LV.S, LV.nil, Nat.reduceEqDiff, Nat.reduceAdd, Nat.reduceMul, Nat.reduceSub, Nat.reduceLeDiff, Nat.reduceBEq, Nat.reduceDiv, Nat.reduceMod, Int.reduceToNat, Int.reduceLT, Int.reduceLE, Int.reduceAdd, Int.reduceSub, Int.reduceMul, Int.reduceEq, Int.reduceNeg, reduceCtorEq, resV, resAll, ARes.ev, LV.flat, ite_true, ite_false, exists_eq_left', exists_eq_left, keyOf, implies_true, fillC, capOf]
    exact ⟨⟨0, 0, 0, .nil, [], rfl, .inl ⟨rfl, rfl⟩, Newer.nil, by simp⟩, (hD4.up (by omega)).keep hpl htM (Nat.le_refl _) (by omega) fun q q1 => i3 q (by omega) (by omega)⟩
  · simp (disch := omega) only [b0, b1, b2, b3, e6.cells, ↓SXd, SXu, slBounds, ↓sop, ↓aop, ↓reduceIte, LV.cells, AOp.dst, LV.I, LV.B, LV.U, LV.S, LV.nil, Nat.reduceEqDiff, Nat.reduceAdd, Nat.reduceMul, Nat.reduceSub, Nat.reduceLeDiff, Nat.reduceBEq, Nat.reduceDiv, Nat.reduceMod, Int.reduceToNat, Int.reduceLT, Int.reduceLE, Int.reduceAdd, Int.reduceSub, Int.reduceMul, Int.reduceEq, Int.reduceNeg, reduceCtorEq, resV, resAll, ARes.ev, LV.flat, ite_true, ite_false, exists_eq_left', exists_eq_left, keyOf, implies_true, fillC, capOf]
    refine memK_box e2 (by simp) fun N7 i1 i2 i3 => ?_
    simp (disch := omega) only [i2.cells, ↓SXd, SXu, slBounds, ↓sop, ↓aop, ↓reduceIte, LV.cells, AOp.dst, LV.I, LV.B, LV.U, LV.S, LV.nil, Nat.reduceEqDiff, Nat.reduceAdd, Nat.reduceMul, Nat.reduceSub, Nat.reduceLeDiff, Nat.reduceBEq, Nat.reduceDiv, Nat.reduceMod, Int.reduceToNat, Int.reduceLT, Int.reduceLE, Int.reduceAdd, Int.reduceSub, Int.reduceMul, Int.reduceEq, Int.reduceNeg, reduceCtorEq, resV, resAll, ARes.ev, LV.flat, ite_true, ite_false, exists_eq_left', exists_eq_left, keyOf, implies_true, fillC, capOf]
    exact hfin u4 (by omega) (by omega) (hD4.up (by omega)) i1 i3
end Go.Ab

/- The abstract code of some functions (written by a program of mine from the translation, by way of prepF). -/
namespace Go.Ab.C
open Go.Ab
end Go.Ab.C

/- That the program has this code. -/
namespace Go.Ab.K
open Go Go.Ab
end Go.Ab.K

/- Contracts: h_l10Column. -/
namespace Go.Ab
open Go
set_option linter.unusedSimpArgs false
set_option linter.unusedVariables false
set_option maxRecDepth 20000

end Go.Ab

/- The abstract code of some functions (written by a program of mine from the translation, by way of prepF). -/
namespace Go.Ab.C
open Go.Ab
end Go.Ab.C

/- That the program has this code. -/
namespace Go.Ab.K
open Go Go.Ab
end Go.Ab.K

/- The abstract code of some functions (written by a program of mine from the translation, by way of prepF). -/
namespace Go.Ab.C
open Go.Ab
end Go.Ab.C

/- That the program has this code. -/
namespace Go.Ab.K
open Go Go.Ab
end Go.Ab.K

/- Contracts: the reference's heights and neighbours. -/
namespace Go.Ab
open Go
set_option linter.unusedSimpArgs false
set_option linter.unusedVariables false

theorem HeapOK.cell {x y z : Int} {cs : List Cell} (h : HeapOK x y z cs) {k : Nat} (hk : k < cs.length) : (cs.getD k default).inBox x y z := (h.2 k hk).1

end Go.Ab

/- The abstract code of some functions (written by a program of mine from the translation, by way of prepF). -/
namespace Go.Ab.C
open Go.Ab
end Go.Ab.C

/- That the program has this code. -/
namespace Go.Ab.K
open Go Go.Ab
end Go.Ab.K

/- Contracts: h_l10Up. -/
namespace Go.Ab
open Go
set_option linter.unusedSimpArgs false
set_option linter.unusedVariables false
set_option maxRecDepth 20000

end Go.Ab

/- Contracts: h_l10Next. -/
namespace Go.Ab
open Go
set_option linter.unusedSimpArgs false
set_option linter.unusedVariables false
set_option maxRecDepth 20000

end Go.Ab

/- Contracts: what the laws of the walks draw. -/
namespace Go.Ab
open Go
set_option linter.unusedSimpArgs false
set_option linter.unusedVariables false
set_option maxRecDepth 20000

/-- A heap, valid or not, all of whose cells are new. -/
def HeapR (M : Mem) (v : LV) (N : Mem) : Prop := ∃ (x y z : Int) (cs : List Cell) (u : Nat) (ex : List Cell), v = .agg [.I x, .I y, .I z, .ref u 0 cs.length] ∧ Live N u (.row (triL (cs ++ ex)) true 3) ∧ M.length ≤ u ∧ cs.length ≤ 65
/-- The same, with nothing behind its cells. -/
def HeapE (M : Mem) (v : LV) (N : Mem) : Prop := ∃ (x y z : Int) (cs : List Cell) (u : Nat), v = .agg [.I x, .I y, .I z, .ref u 0 cs.length] ∧ Live N u (.row (triL cs) true 3) ∧ M.length ≤ u ∧ cs.length ≤ 65
theorem d_heapE {p t o a : Nat} {bs : List Nat} {M : Mem} (h : CurAt M p t o bs a) (ha : a ≤ 990000) : CallsR PG F.spec_l1Cur_heap [.ptr p 0] M fun v N => HeapE M v N ∧ DrawN M p t o bs (a + 160) N := by
  obtain ⟨⟨_, _, _, hpl'⟩, hB, _⟩ := id h
  have hpl := hpl'.lt
  have htM := hB.lt
  refine (d_heap h ha).den (e := 3) ?_
  rintro v N ⟨⟨x, y, z, w, cs, rfl, hs, hnw, hl⟩, hd⟩
  rcases hs with ⟨rfl, rfl⟩ | ⟨u, rfl, hu⟩
  · exact .inr ⟨.agg [.I x, .I y, .I z, .ref N.length 0 0], .inl (.inr ⟨_, _, rfl, rfl, .rfl, .rfl, .rfl, .nil, trivial⟩), ⟨x, y, z, [], N.length, rfl, Live.new, hd.2.1, by simp⟩, hd.keep hpl htM (Nat.le_refl _) (by simp) fun q q1 => List.getElem?_append_left (by have := hd.2.1; omega)⟩
  · refine .inl ⟨⟨x, y, z, cs, u, rfl, hu, ?_, hl⟩, hd⟩
    rcases Nat.lt_or_ge u M.length with h1 | h1
    · exact absurd rfl (hnw u h1)
    · exact h1
theorem DrawN.live {M N : Mem} {p t o a u : Nat} {bs : List Nat} {b : Blk} (hd : DrawN M p t o bs a N) (h : Live M u b) (hne : u ≠ p) : Live N u b := Live.at h (hd.2.2 u h.lt hne)
theorem DrawN.stay {M N : Mem} {p t o a q : Nat} {bs : List Nat} (hd : DrawN M p t o bs a N) (h : q < M.length) (hne : q ≠ p) : ∀ b : Blk, M[q]? = some (some b) → N[q]? = some (some b) := fun b hb => by rw [hd.2.2 q h hne]; exact hb
/-- Behind a draw of a reader that is new. -/
theorem DrawN.pre {M M0 N : Mem} {p t o a : Nat} {bs : List Nat} (hd : DrawN M p t o bs a N) (h : Pre M0 M) (hp : M0.length ≤ p) : Pre M0 N :=
  ⟨Nat.le_trans h.1 hd.2.1, fun q hq => by rw [hd.2.2 q (Nat.lt_of_lt_of_le hq h.1) (by omega)]; exact h.2 q hq⟩
theorem CurAt.new2 {t o : Nat} {bs : List Nat} {M : Mem} {b : Option Blk} (hB : Bytes M t o bs) (h255 : ∀ b ∈ bs, b ≤ 255) (hl : bs.length ≤ 1000000000) : CurAt (M ++ [b, some (.row [.ref t o bs.length, .I 0, .val (.int .u64 0)] true 0)]) (M.length + 1) t o bs 0 := by
  have := CurAt.new (M := M ++ [b]) (t := t) (o := o) (bs := bs) (Has.app hB) h255 hl
  rw [List.append_assoc, List.length_append] at this
  exact this
section
variable {p t o a : Nat} {bs : List Nat} {M : Mem}
end
section
variable {t o : Nat} {bs : List Nat} {M : Mem} (hB : Bytes M t o bs) (h255 : ∀ b ∈ bs, b ≤ 255) (hl : bs.length ≤ 1000000000)
include hB h255 hl
end
end Go.Ab

/- The abstract code of some functions (written by a program of mine from the translation, by way of prepF). -/
namespace Go.Ab.C
open Go.Ab
end Go.Ab.C

/- That the program has this code. -/
namespace Go.Ab.K
open Go Go.Ab
end Go.Ab.K

/- The abstract code of some functions (written by a program of mine from the translation, by way of prepF). -/
namespace Go.Ab.C
open Go.Ab
end Go.Ab.C

/- That the program has this code. -/
namespace Go.Ab.K
open Go Go.Ab
end Go.Ab.K

/- The abstract code of some functions (written by a program of mine from the translation, by way of prepF). -/
namespace Go.Ab.C
open Go.Ab
end Go.Ab.C

/- That the program has this code. -/
namespace Go.Ab.K
open Go Go.Ab
end Go.Ab.K

/- The abstract code of some functions (written by a program of mine from the translation, by way of prepF). -/
namespace Go.Ab.C
open Go.Ab
end Go.Ab.C

/- That the program has this code. -/
namespace Go.Ab.K
open Go Go.Ab
end Go.Ab.K

/- Contracts: the reference's order of heaps, and first forms. -/
namespace Go.Ab
open Go
set_option linter.unusedSimpArgs false
set_option linter.unusedVariables false

def lexC : List Cell → List Cell → Bool
  | _, [] => false
  | [], _ :: _ => true
  | a :: l, b :: m => if a = b then lexC l m else decide (a.lt b)
def Hp.dims (h : Hp) : Cell := ⟨h.x, h.y, h.z⟩
def lessHp (g h : Hp) : Bool := if g.dims = h.dims then lexC g.cs h.cs else decide (g.dims.lt h.dims)
end Go.Ab

/- Contracts: the reference's first forms. -/
namespace Go.Ab
open Go
set_option linter.unusedSimpArgs false
set_option linter.unusedVariables false

def bestH (b : Hp) (l : List Hp) : Hp := l.foldl (fun b n => if lessHp n b then n else b) b
/-- The positions of a heap: it is turned, and put into the least box. -/
def posHp (x y z : Int) (cs : List Cell) (T : Turn) : Hp := cropHp (turnHp x y z T cs).cs
def formHp (x y z : Int) (cs : List Cell) : Hp := bestH (cropHp cs) (turns.map (posHp x y z cs))
theorem Live.six {N : Mem} {t k e : Nat} {w : Bool} {l : List Turn} (h : Live N t (.row (sixL l) w e)) (hk : k < l.length) : getCells N t (k * 6) 6 = some l[k].row := by
  rw [h.cells, if_pos (by rw [sixL_len]; omega), sixL_at hk]
end Go.Ab

/- Contracts: the reference's statements on forms. -/
namespace Go.Ab
open Go
set_option linter.unusedSimpArgs false
set_option linter.unusedVariables false

/-- A valid heap with cubes. -/
def Filled (x y z : Int) (cs : List Cell) : Prop := HeapOK x y z cs ∧ 0 < cs.length
noncomputable instance (x y z : Int) (cs : List Cell) : Decidable (Filled x y z cs) := Classical.propDecidable _
noncomputable def formOf (x y z : Int) (cs : List Cell) : Option Hp := if Filled x y z cs then some (formHp x y z cs) else none
def symB (x y z : Int) (cs : List Cell) (T : Turn) : Bool := !lessHp (posHp x y z cs T) (cropHp cs) && !lessHp (cropHp cs) (posHp x y z cs T)
def symAt (x y z : Int) (cs : List Cell) (j : Nat) : Bool := match turns[j]? with
  | some T => symB x y z cs T
  | none => false
def symsK (x y z : Int) (cs : List Cell) (k : Nat) : List Int := ((List.range k).filter (symAt x y z cs)).map fun (j : Nat) => (j : Int)
noncomputable def symsOf (x y z : Int) (cs : List Cell) : Option (List Int) := if Filled x y z cs then some (symsK x y z cs 24) else none
noncomputable def posOf (x y z : Int) (cs : List Cell) : Int := if Filled x y z cs then ((24 : Int).tdiv ((symsK x y z cs 24).length : Nat)) else 0
end Go.Ab

/- Contracts: the reference's mirrored heaps; IsHanded, AreSameForm. -/
namespace Go.Ab
open Go
set_option linter.unusedSimpArgs false
set_option linter.unusedVariables false

def mirC (x : Int) (c : Cell) : Cell := ⟨x - 1 - c.a, c.b, c.c⟩
def mirHp (x y z : Int) (cs : List Cell) : List Cell := pick x y z fun d => decide (d ∈ cs.map (mirC x))
def handB (x y z : Int) (cs : List Cell) : Bool := !(!lessHp (formHp x y z (mirHp x y z cs)) (formHp x y z cs) && !lessHp (formHp x y z cs) (formHp x y z (mirHp x y z cs)))
noncomputable def sameForm (x y z : Int) (cs : List Cell) (x' y' z' : Int) (ds : List Cell) : Bool := !lessHp (formHp x y z cs) (formHp x' y' z' ds) && !lessHp (formHp x' y' z' ds) (formHp x y z cs)
end Go.Ab

/- The abstract code of some functions (written by a program of mine from the translation, by way of prepF). -/
namespace Go.Ab.C
open Go.Ab
end Go.Ab.C

/- That the program has this code. -/
namespace Go.Ab.K
open Go Go.Ab
end Go.Ab.K

/- The abstract code of some functions (written by a program of mine from the translation, by way of prepF). -/
namespace Go.Ab.C
open Go.Ab
end Go.Ab.C

/- That the program has this code. -/
namespace Go.Ab.K
open Go Go.Ab
end Go.Ab.K

/- The abstract code of some functions (written by a program of mine from the translation, by way of prepF). -/
namespace Go.Ab.C
open Go.Ab
def math_bits_OnesCount64 : AFn :=
 ⟨1, 35, [.tmp 2],
 .seq (.ops [(none, .mv 2 (.c (.I 0)))])
 (.seq (.ops [(none, .mv 3 (.t 0)),
 (none, .bin 4 .shr (.t 3) (.c (.U 1))),
 (none, .bin 5 .and (.t 4) (.c (.U 6148914691236517205))),
 (none, .mv 6 (.t 0)),
 (none, .bin 7 .and (.t 6) (.c (.U 6148914691236517205))),
 (none, .bin 8 .add (.t 5) (.t 7)),
 (none, .mv 0 (.t 8))])
 (.seq (.ops [(none, .mv 9 (.t 0)),
 (none, .bin 10 .shr (.t 9) (.c (.U 2))),
 (none, .bin 11 .and (.t 10) (.c (.U 3689348814741910323))),
 (none, .mv 12 (.t 0)),
 (none, .bin 13 .and (.t 12) (.c (.U 3689348814741910323))),
 (none, .bin 14 .add (.t 11) (.t 13)),
 (none, .mv 0 (.t 14))])
 (.seq (.ops [(none, .mv 15 (.t 0)),
 (none, .bin 16 .shr (.t 15) (.c (.U 4))),
 (none, .mv 17 (.t 0)),
 (none, .bin 18 .add (.t 16) (.t 17)),
 (none, .bin 19 .and (.t 18) (.c (.U 1085102592571150095))),
 (none, .mv 0 (.t 19))])
 (.seq (.ops [(none, .mv 20 (.t 0)),
 (none, .mv 21 (.t 0)),
 (none, .bin 22 .shr (.t 21) (.c (.U 8))),
 (none, .bin 23 .add (.t 20) (.t 22)),
 (none, .mv 0 (.t 23))])
 (.seq (.ops [(none, .mv 24 (.t 0)),
 (none, .mv 25 (.t 0)),
 (none, .bin 26 .shr (.t 25) (.c (.U 16))),
 (none, .bin 27 .add (.t 24) (.t 26)),
 (none, .mv 0 (.t 27))])
 (.seq (.ops [(none, .mv 28 (.t 0)),
 (none, .mv 29 (.t 0)),
 (none, .bin 30 .shr (.t 29) (.c (.U 32))),
 (none, .bin 31 .add (.t 28) (.t 30)),
 (none, .mv 0 (.t 31))])
 (.seq (.ops [(none, .mv 32 (.t 0)),
 (none, .conv 33 .i64 (.t 32)),
 (none, .bin 34 .and (.t 33) (.c (.I 127))),
 (none, .mv 2 (.t 34))])
 (.ret))))))))⟩
def impl_set_count : AFn :=
 ⟨1, 5, [.tmp 2],
 .seq (.ops [(none, .mv 2 (.c (.I 0)))])
 (.seq (.ops [(none, .mv 3 (.t 0)),
 (none, .call (some 4) F.math_bits_OnesCount64 [(.t 3)]),
 (none, .mv 2 (.t 4))])
 (.ret))⟩
end Go.Ab.C

/- That the program has this code. -/
namespace Go.Ab.K
open Go Go.Ab
theorem math_bits_OnesCount64 : prepF Go.Proofs.Try.prog F.math_bits_OnesCount64 = some C.math_bits_OnesCount64 := by kernel_rfl
theorem impl_set_count : prepF Go.Proofs.Try.prog F.impl_set_count = some C.impl_set_count := by kernel_rfl
end Go.Ab.K

/- Plain words: how many cells a set has, as the library counts. -/
namespace Go.Ab

def swar1 (x : BitVec 64) : BitVec 64 := (x >>> 1 &&& 6148914691236517205#64) + (x &&& 6148914691236517205#64)
def swar2 (x : BitVec 64) : BitVec 64 := (x >>> 2 &&& 3689348814741910323#64) + (x &&& 3689348814741910323#64)
def swar3 (x : BitVec 64) : BitVec 64 := (x >>> 4 + x) &&& 1085102592571150095#64
def swar4 (x : BitVec 64) : BitVec 64 := x + x >>> 8
def swar5 (x : BitVec 64) : BitVec 64 := x + x >>> 16
def swar6 (x : BitVec 64) : BitVec 64 := x + x >>> 32
def swar (x : BitVec 64) : BitVec 64 := swar6 (swar5 (swar4 (swar3 (swar2 (swar1 x))))) &&& 127#64

def onRim (x y z : Int) (c : Cell) : Bool := decide (c.a = 0 ∨ c.b = 0 ∨ c.c = 0 ∨ c.a = x - 1 ∨ c.b = y - 1 ∨ c.c = z - 1)
end Go.Ab

/- The abstract code of some functions (written by a program of mine from the translation, by way of prepF). -/
namespace Go.Ab.C
open Go.Ab
def impl_box_near : AFn :=
 ⟨2, 36, [.tmp 4],
 .seq (.ops [(none, .box 2 (.t 0)),
 (none, .box 3 (.t 1)),
 (none, .mv 4 (.c (.U 0)))])
 (.seq (.ops [(none, .mv 5 (.c (.U 0)))])
 (.seq (.seq (.ops [(none, .mv 10 (.c (.I 0)))])
 (.block 0 (.loop (.seq (.ops [(none, .bin 11 .lss (.t 10) (.c (.I 3)))])
 (.seq (.cond (.t 11) (.skip)
 (.exit 0))
 (.seq (.block 1 (.seq (.ops [(none, .mv 12 (.t 10)),
 (none, .mv 6 (.t 12))])
 (.seq (.ops [(none, .build 13 [(.I 0), (.I 0)] [(0, 1, (.c (.I (-1)))), (1, 1, (.c (.I 1)))]),
 (none, .mv 14 (.c (.I 0)))])
 (.block 2 (.loop (.seq (.ops [(none, .bin 15 .lss (.t 14) (.c (.I 2)))])
 (.seq (.cond (.t 15) (.skip)
 (.exit 2))
 (.seq (.block 3 (.seq (.ops [(none, .index 16 2 1 false (.t 13) (.t 14)),
 (none, .mv 8 (.t 16))])
 (.seq (.ops [(none, .loadN 17 3 (.t 3)),
 (none, .alloc 9 [(.I 0), (.I 0), (.I 0)]),
 (none, .store 3 (.t 9) (.t 17))])
 (.seq (.ops [(none, .mv 18 (.t 6)),
 (none, .idxA 19 3 1 (.t 9) (.t 18)),
 (none, .load1 20 (.t 19)),
 (none, .mv 21 (.t 8)),
 (none, .bin 22 .add (.t 20) (.t 21)),
 (none, .idxA 23 3 1 (.t 9) (.t 18)),
 (none, .store 1 (.t 23) (.t 22))])
 (.seq (.ops [(none, .loadN 24 3 (.t 2)),
 (none, .loadN 25 3 (.t 9)),
 (none, .call (some 26) F.impl_box_has [(.t 24), (.t 25)])])
 (.cond (.t 26) (.ops [(none, .mv 27 (.t 5)),
 (none, .loadN 28 3 (.t 2)),
 (none, .loadN 29 3 (.t 9)),
 (none, .call (some 30) F.impl_box_index [(.t 28), (.t 29)]),
 (none, .bin 31 .shl (.c (.U 1)) (.t 30)),
 (none, .bin 32 .or (.t 27) (.t 31)),
 (none, .mv 5 (.t 32))])
 (.skip)))))))
 (.ops [(none, .bin 33 .add (.t 14) (.c (.I 1))),
 (none, .mv 14 (.t 33))])))))))))
 (.ops [(none, .bin 34 .add (.t 10) (.c (.I 1))),
 (none, .mv 10 (.t 34))])))))))
 (.seq (.ops [(none, .mv 35 (.t 5)),
 (none, .mv 4 (.t 35))])
 (.ret))))⟩
end Go.Ab.C

/- That the program has this code. -/
namespace Go.Ab.K
open Go Go.Ab
theorem impl_box_near : prepF Go.Proofs.Try.prog F.impl_box_near = some C.impl_box_near := by kernel_rfl
end Go.Ab.K

/- Contracts: neighbours; what grows. -/
namespace Go.Ab
open Go
set_option linter.unusedSimpArgs false
set_option linter.unusedVariables false

/-- The first k neighbours of a cell. -/
def nbrK (c : Cell) (k : Nat) (e : Cell) : Bool := decide (e ∈ (nbrs c).take k)
theorem nbrK_step {c : Cell} {k : Nat} (hk : k < 6) (e : Cell) : nbrK c (k + 1) e = (nbrK c k e || decide (e = (nbrs c).getD k default)) := (take_dec (cs := nbrs c) (by simpa [nbrs] using hk)).symm

section
variable {x y z : Int} (hS : Sides x y z)
include hS
theorem g_nearSet {c : Cell} {M : Mem} (hc : c.inBox x y z) : CallsTo PG F.impl_box_near [.agg [.I x, .I y, .I z], .agg [.I c.a, .I c.b, .I c.c]] M (.W (bs x y z fun d => decide (apart c d = 1))) M := by
  obtain ⟨h1, h2, h3⟩ := id hc
  obtain ⟨hx, hy, hz⟩ := id hS
  refine calls_run K.impl_box_near rfl ?_
  simp (disch := omega) only [C.impl_box_near, ↓SXd, SXu, slBounds, ↓sop, ↓aop, ↓reduceIte, LV.cells, AOp.dst, LV.I, LV.B, LV.U, LV.S, LV.nil, Nat.reduceEqDiff, Nat.reduceAdd, Nat.reduceMul, Nat.reduceSub, Nat.reduceLeDiff, Nat.reduceBEq, Nat.reduceDiv, Nat.reduceMod, Int.reduceToNat, Int.reduceLT, Int.reduceLE, Int.reduceAdd, Int.reduceSub, Int.reduceMul, Int.reduceEq, Int.reduceNeg, reduceCtorEq, resV, resAll, ARes.ev, LV.flat, ite_true, ite_false, exists_eq_left', exists_eq_left, keyOf, implies_true, fillC, capOf]
  refine ev_loop (fun m fr M' => ∃ d : Nat, d + m = 3 ∧ Pre M M' ∧ Live M' M.length (.row [.I x, .I y, .I z] true 0) ∧ Live M' (M.length + 1) (.row [.I c.a, .I c.b, .I c.c] true 0) ∧
    fr 2 = .ptr M.length 0 ∧ fr 3 = .ptr (M.length + 1) 0 ∧ fr 5 = .W (bs x y z (nbrK c (2 * d))) ∧ fr 10 = .I d) 3
    ⟨0, rfl, Pre.app _ _, Live.new, Live.newj rfl, rfl, rfl, by rw [show bs x y z (nbrK c (2 * 0)) = 0#64 from (bs_zero hS).2 fun e _ => decide_eq_false (by simp)]; rfl, rfl⟩ ?_
  rintro m fr M' ⟨d, hd, hpre, hbox, hcell, f2, f3, f5, f10⟩
  simp (disch := omega) only [f2, f3, f5, f10, ↓SXd, SXu, slBounds, ↓sop, ↓aop, ↓reduceIte, LV.cells, AOp.dst, LV.I, LV.B, LV.U, LV.S, LV.nil, Nat.reduceEqDiff, Nat.reduceAdd, Nat.reduceMul, Nat.reduceSub, Nat.reduceLeDiff, Nat.reduceBEq, Nat.reduceDiv, Nat.reduceMod, Int.reduceToNat, Int.reduceLT, Int.reduceLE, Int.reduceAdd, Int.reduceSub, Int.reduceMul, Int.reduceEq, Int.reduceNeg, reduceCtorEq, resV, resAll, ARes.ev, LV.flat, ite_true, ite_false, exists_eq_left', exists_eq_left, keyOf, implies_true, fillC, capOf]
  refine condC_dec (fun hlt => ?_) (fun hlt => ?_)
  rotate_left
  · simp (disch := omega) only [f2, f3, f5, f10, ↓SXd, SXu, slBounds, ↓sop, ↓aop, ↓reduceIte, LV.cells, AOp.dst, LV.I, LV.B, LV.U, LV.S, LV.nil, Nat.reduceEqDiff, Nat.reduceAdd, Nat.reduceMul, Nat.reduceSub, Nat.reduceLeDiff, Nat.reduceBEq, Nat.reduceDiv, Nat.reduceMod, Int.reduceToNat, Int.reduceLT, Int.reduceLE, Int.reduceAdd, Int.reduceSub, Int.reduceMul, Int.reduceEq, Int.reduceNeg, reduceCtorEq, resV, resAll, ARes.ev, LV.flat, ite_true, ite_false, exists_eq_left', exists_eq_left, keyOf, implies_true, fillC, capOf]
    have : d = 3 := by omega
    subst this
    rw [show bs x y z (nbrK c (2 * 3)) = bs x y z fun d => decide (apart c d = 1) from (bs_eq hS).2 fun e _ => decide_eq_decide.2 (mem_nbrs (c := c) (d := e))]
    exact cmp_pre hpre rfl
  · simp (disch := omega) only [f2, f3, f5, f10, splice, ↓SXd, SXu, slBounds, ↓sop, ↓aop, ↓reduceIte, LV.cells, AOp.dst, LV.I, LV.B, LV.U, LV.S, LV.nil, Nat.reduceEqDiff, Nat.reduceAdd, Nat.reduceMul, Nat.reduceSub, Nat.reduceLeDiff, Nat.reduceBEq, Nat.reduceDiv, Nat.reduceMod, Int.reduceToNat, Int.reduceLT, Int.reduceLE, Int.reduceAdd, Int.reduceSub, Int.reduceMul, Int.reduceEq, Int.reduceNeg, reduceCtorEq, resV, resAll, ARes.ev, LV.flat, ite_true, ite_false, exists_eq_left', exists_eq_left, keyOf, implies_true, fillC, capOf]
    refine ev_loop (fun m2 fr N => ∃ j : Nat, j + m2 = 2 ∧ Pre M N ∧ Live N M.length (.row [.I x, .I y, .I z] true 0) ∧ Live N (M.length + 1) (.row [.I c.a, .I c.b, .I c.c] true 0) ∧
      fr 2 = .ptr M.length 0 ∧ fr 3 = .ptr (M.length + 1) 0 ∧ fr 5 = .W (bs x y z (nbrK c (2 * d + j))) ∧ fr 10 = .I d ∧ fr 6 = .I d ∧ fr 13 = .agg [.I (-1), .I 1] ∧ fr 14 = .I j) 2
      ⟨0, rfl, hpre, hbox, hcell, f2, f3, f5, f10, rfl, rfl, rfl⟩ ?_
    clear f2 f3 f5 f10 hpre hbox hcell
    rintro m2 fr N ⟨j, hj, hpre, hbox, hcell, f2, f3, f5, f10, f6, f13, f14⟩
    simp (disch := omega) only [f2, f3, f5, f10, f6, f13, f14, ↓SXd, SXu, slBounds, ↓sop, ↓aop, ↓reduceIte, LV.cells, AOp.dst, LV.I, LV.B, LV.U, LV.S, LV.nil, Nat.reduceEqDiff, Nat.reduceAdd, Nat.reduceMul, Nat.reduceSub, Nat.reduceLeDiff, Nat.reduceBEq, Nat.reduceDiv, Nat.reduceMod, Int.reduceToNat, Int.reduceLT, Int.reduceLE, Int.reduceAdd, Int.reduceSub, Int.reduceMul, Int.reduceEq, Int.reduceNeg, reduceCtorEq, resV, resAll, ARes.ev, LV.flat, ite_true, ite_false, exists_eq_left', exists_eq_left, keyOf, implies_true, fillC, capOf]
    refine condC_dec (fun hlt2 => ?_) (fun hlt2 => ?_)
    rotate_left
    · simp (disch := omega) only [f2, f3, f5, f10, f6, f13, f14, ↓SXd, SXu, slBounds, ↓sop, ↓aop, ↓reduceIte, LV.cells, AOp.dst, LV.I, LV.B, LV.U, LV.S, LV.nil, Nat.reduceEqDiff, Nat.reduceAdd, Nat.reduceMul, Nat.reduceSub, Nat.reduceLeDiff, Nat.reduceBEq, Nat.reduceDiv, Nat.reduceMod, Int.reduceToNat, Int.reduceLT, Int.reduceLE, Int.reduceAdd, Int.reduceSub, Int.reduceMul, Int.reduceEq, Int.reduceNeg, reduceCtorEq, resV, resAll, ARes.ev, LV.flat, ite_true, ite_false, exists_eq_left', exists_eq_left, keyOf, implies_true, fillC, capOf]
      have : j = 2 := by omega
      subst this
      exact ⟨m - 1, by omega, d + 1, by omega, hpre, hbox, hcell, f2, f3, f5, eqI (natI _)⟩
    · have hd3 : d = 0 ∨ d = 1 ∨ d = 2 := by omega
      have hj2 : j = 0 ∨ j = 1 := by omega
      have hlM := hcell.lt
      have key : ∀ e : Cell, (nbrs c).getD (2 * d + j) default = e → (e.inBox x y z → bs x y z (nbrK c (2 * d + j)) ||| 1#64 <<< (idx y z e).toNat = bs x y z (nbrK c (2 * d + (j + 1)))) ∧ (¬ e.inBox x y z → bs x y z (nbrK c (2 * d + j)) = bs x y z (nbrK c (2 * d + (j + 1)))) := by
        intro e he
        refine ⟨fun hin => ?_, fun hin => ?_⟩
        · rw [bs_one hS hin, bs_or hS]
          exact (bs_eq hS).2 fun f _ => by rw [show 2 * d + (j + 1) = 2 * d + j + 1 by omega, nbrK_step (by omega), he]
        · refine (bs_eq hS).2 fun f hf => ?_
          rw [show 2 * d + (j + 1) = 2 * d + j + 1 by omega, nbrK_step (by omega), he, decide_eq_false (fun h => hin (by rw [← h]; exact hf)), Bool.or_false]
      rcases hd3 with rfl | rfl | rfl <;> rcases hj2 with rfl | rfl
      all_goals
        simp only [Int.natCast_zero, Int.natCast_one, show (((2 : Nat)) : Int) = 2 from rfl] at f6 f10 f14
        obtain ⟨k1, k2⟩ := key _ rfl
        simp only [nbrs, List.getD_cons_zero, List.getD_cons_succ, Nat.reduceMul, Nat.reduceAdd] at k1 k2
        simp (disch := omega) only [f2, f3, f5, f10, f6, f13, f14, hcell.cells, hbox.cells, splice, hbox.app.cells, ↓SXd, SXu, slBounds, ↓sop, ↓aop, ↓reduceIte, LV.cells, AOp.dst, LV.I, LV.B, LV.U, LV.S, LV.nil, Nat.reduceEqDiff, Nat.reduceAdd, Nat.reduceMul, Nat.reduceSub, Nat.reduceLeDiff, Nat.reduceBEq, Nat.reduceDiv, Nat.reduceMod, Int.reduceToNat, Int.reduceLT, Int.reduceLE, Int.reduceAdd, Int.reduceSub, Int.reduceMul, Int.reduceEq, Int.reduceNeg, reduceCtorEq, resV, resAll, ARes.ev, LV.flat, ite_true, ite_false, exists_eq_left', exists_eq_left, keyOf, implies_true, fillC, capOf]
        refine callK_of (g_has hS) ?_
        simp (disch := omega) only [f2, f3, f5, f10, f6, f13, f14, hbox.app.cells, ↓SXd, SXu, slBounds, ↓sop, ↓aop, ↓reduceIte, LV.cells, AOp.dst, LV.I, LV.B, LV.U, LV.S, LV.nil, Nat.reduceEqDiff, Nat.reduceAdd, Nat.reduceMul, Nat.reduceSub, Nat.reduceLeDiff, Nat.reduceBEq, Nat.reduceDiv, Nat.reduceMod, Int.reduceToNat, Int.reduceLT, Int.reduceLE, Int.reduceAdd, Int.reduceSub, Int.reduceMul, Int.reduceEq, Int.reduceNeg, reduceCtorEq, resV, resAll, ARes.ev, LV.flat, ite_true, ite_false, exists_eq_left', exists_eq_left, keyOf, implies_true, fillC, capOf]
        refine condC_dec (fun hin => ?_) (fun hin => ?_)
        · have hix := (idx_in hS hin).1
          simp (disch := omega) only [f2, f3, f5, f10, f6, f13, f14, hbox.app.cells, ↓SXd, SXu, slBounds, ↓sop, ↓aop, ↓reduceIte, LV.cells, AOp.dst, LV.I, LV.B, LV.U, LV.S, LV.nil, Nat.reduceEqDiff, Nat.reduceAdd, Nat.reduceMul, Nat.reduceSub, Nat.reduceLeDiff, Nat.reduceBEq, Nat.reduceDiv, Nat.reduceMod, Int.reduceToNat, Int.reduceLT, Int.reduceLE, Int.reduceAdd, Int.reduceSub, Int.reduceMul, Int.reduceEq, Int.reduceNeg, reduceCtorEq, resV, resAll, ARes.ev, LV.flat, ite_true, ite_false, exists_eq_left', exists_eq_left, keyOf, implies_true, fillC, capOf]
          refine callK_of (g_index hS hin) ?_
          simp (disch := omega) only [f2, f3, f5, f10, f6, f13, f14, ↓SXd, SXu, slBounds, ↓sop, ↓aop, ↓reduceIte, LV.cells, AOp.dst, LV.I, LV.B, LV.U, LV.S, LV.nil, Nat.reduceEqDiff, Nat.reduceAdd, Nat.reduceMul, Nat.reduceSub, Nat.reduceLeDiff, Nat.reduceBEq, Nat.reduceDiv, Nat.reduceMod, Int.reduceToNat, Int.reduceLT, Int.reduceLE, Int.reduceAdd, Int.reduceSub, Int.reduceMul, Int.reduceEq, Int.reduceNeg, reduceCtorEq, resV, resAll, ARes.ev, LV.flat, ite_true, ite_false, exists_eq_left', exists_eq_left, keyOf, implies_true, fillC, capOf]
          rw [k1 hin]
          first
          | exact ⟨m2 - 1, by omega, 1, by omega, hpre.app', hbox.app, hcell.app, f2, f3, rfl, f10, f6, f13, rfl⟩
          | exact ⟨m2 - 1, by omega, 2, by omega, hpre.app', hbox.app, hcell.app, f2, f3, rfl, f10, f6, f13, rfl⟩
        · simp (disch := omega) only [f2, f3, f5, f10, f6, f13, f14, ↓SXd, SXu, slBounds, ↓sop, ↓aop, ↓reduceIte, LV.cells, AOp.dst, LV.I, LV.B, LV.U, LV.S, LV.nil, Nat.reduceEqDiff, Nat.reduceAdd, Nat.reduceMul, Nat.reduceSub, Nat.reduceLeDiff, Nat.reduceBEq, Nat.reduceDiv, Nat.reduceMod, Int.reduceToNat, Int.reduceLT, Int.reduceLE, Int.reduceAdd, Int.reduceSub, Int.reduceMul, Int.reduceEq, Int.reduceNeg, reduceCtorEq, resV, resAll, ARes.ev, LV.flat, ite_true, ite_false, exists_eq_left', exists_eq_left, keyOf, implies_true, fillC, capOf]
          rw [k2 hin] at f5
          first
          | exact ⟨m2 - 1, by omega, 1, by omega, hpre.app', hbox.app, hcell.app, f2, f3, f5, f10, f6, f13, rfl⟩
          | exact ⟨m2 - 1, by omega, 2, by omega, hpre.app', hbox.app, hcell.app, f2, f3, f5, f10, f6, f13, rfl⟩

end
end Go.Ab

/- Contracts: counts of sets. -/
namespace Go.Ab
open Go
set_option linter.unusedSimpArgs false
set_option linter.unusedVariables false

theorem w_add {s u : BitVec 64} : binV .add (.val (.int .u64 ((s.toNat : Nat) : Int))) (.val (.int .u64 ((u.toNat : Nat) : Int))) = some (.val (.int .u64 (((s + u).toNat : Nat) : Int)), True) := by
  rw [bv_add, IntKind.wrap_u64, BitVec.toNat_add]
  congr 4
theorem w_andc {s : BitVec 64} {c : Nat} (hc : c < 18446744073709551616) : binV .and (.val (.int .u64 ((s.toNat : Nat) : Int))) (.val (.int .u64 (c : Int))) = some (.val (.int .u64 (((s &&& BitVec.ofNat 64 c).toNat : Nat) : Int)), True) := by
  have h := w_and (s := s) (u := BitVec.ofNat 64 c)
  rw [BitVec.toNat_ofNat, Nat.mod_eq_of_lt hc] at h; exact h
theorem w_m1 {s : BitVec 64} : binV .and (.val (.int .u64 ((s.toNat : Nat) : Int))) (.val (.int .u64 6148914691236517205)) = some (.val (.int .u64 (((s &&& 6148914691236517205#64).toNat : Nat) : Int)), True) := w_andc (c := 6148914691236517205) (by decide)
theorem w_m2 {s : BitVec 64} : binV .and (.val (.int .u64 ((s.toNat : Nat) : Int))) (.val (.int .u64 3689348814741910323)) = some (.val (.int .u64 (((s &&& 3689348814741910323#64).toNat : Nat) : Int)), True) := w_andc (c := 3689348814741910323) (by decide)
theorem w_m3 {s : BitVec 64} : binV .and (.val (.int .u64 ((s.toNat : Nat) : Int))) (.val (.int .u64 1085102592571150095)) = some (.val (.int .u64 (((s &&& 1085102592571150095#64).toNat : Nat) : Int)), True) := w_andc (c := 1085102592571150095) (by decide)

theorem conv_and {x : BitVec 64} : IntKind.i64.wrap (((BitVec.ofInt 64 (IntKind.i64.wrap ((x.toNat : Nat) : Int)) &&& BitVec.ofInt 64 127).toNat : Nat) : Int) = (((x &&& 127#64).toNat : Nat) : Int) := by
  have h1 : BitVec.ofInt 64 (IntKind.i64.wrap ((x.toNat : Nat) : Int)) = x := by
    apply BitVec.eq_of_toNat_eq
    have := x.isLt
    rw [BitVec.toNat_ofInt, IntKind.wrap_i64]
    omega
  have h2 : BitVec.ofInt 64 127 = 127#64 := rfl
  rw [h1, h2, IntKind.wrap_i64]
  have h3 : (x &&& 127#64).toNat ≤ 127 := by
    rw [BitVec.toNat_and]; exact Nat.and_le_right
  omega
theorem g_OnesCount64 {s : BitVec 64} {M : Mem} : CallsTo PG F.math_bits_OnesCount64 [.W s] M (.I (((swar s).toNat : Nat) : Int)) M := by
  refine calls_run K.math_bits_OnesCount64 rfl ?_
  simp (disch := omega) only [C.math_bits_OnesCount64, w_shr, w_m1, w_m2, w_m3, w_add, ↓SXd, SXu, slBounds, ↓sop, ↓aop, ↓reduceIte, LV.cells, AOp.dst, LV.I, LV.B, LV.U, LV.S, LV.nil, Nat.reduceEqDiff, Nat.reduceAdd, Nat.reduceMul, Nat.reduceSub, Nat.reduceLeDiff, Nat.reduceBEq, Nat.reduceDiv, Nat.reduceMod, Int.reduceToNat, Int.reduceLT, Int.reduceLE, Int.reduceAdd, Int.reduceSub, Int.reduceMul, Int.reduceEq, Int.reduceNeg, reduceCtorEq, resV, resAll, ARes.ev, LV.flat, ite_true, ite_false, exists_eq_left', exists_eq_left, keyOf, implies_true, fillC, capOf]
  rw [conv_and]
  exact cmp_pre (Pre.refl _) rfl
theorem g_count {s : BitVec 64} {M : Mem} : CallsTo PG F.impl_set_count [.W s] M (.I (((swar s).toNat : Nat) : Int)) M := by
  refine calls_run K.impl_set_count rfl ?_
  simp (disch := omega) only [C.impl_set_count, ↓SXd, SXu, slBounds, ↓sop, ↓aop, ↓reduceIte, LV.cells, AOp.dst, LV.I, LV.B, LV.U, LV.S, LV.nil, Nat.reduceEqDiff, Nat.reduceAdd, Nat.reduceMul, Nat.reduceSub, Nat.reduceLeDiff, Nat.reduceBEq, Nat.reduceDiv, Nat.reduceMod, Int.reduceToNat, Int.reduceLT, Int.reduceLE, Int.reduceAdd, Int.reduceSub, Int.reduceMul, Int.reduceEq, Int.reduceNeg, reduceCtorEq, resV, resAll, ARes.ev, LV.flat, ite_true, ite_false, exists_eq_left', exists_eq_left, keyOf, implies_true, fillC, capOf]
  refine callK_of (g_OnesCount64) ?_
  simp (disch := omega) only [↓SXd, SXu, slBounds, ↓sop, ↓aop, ↓reduceIte, LV.cells, AOp.dst, LV.I, LV.B, LV.U, LV.S, LV.nil, Nat.reduceEqDiff, Nat.reduceAdd, Nat.reduceMul, Nat.reduceSub, Nat.reduceLeDiff, Nat.reduceBEq, Nat.reduceDiv, Nat.reduceMod, Int.reduceToNat, Int.reduceLT, Int.reduceLE, Int.reduceAdd, Int.reduceSub, Int.reduceMul, Int.reduceEq, Int.reduceNeg, reduceCtorEq, resV, resAll, ARes.ev, LV.flat, ite_true, ite_false, exists_eq_left', exists_eq_left, keyOf, implies_true, fillC, capOf]
  exact cmp_pre (Pre.refl _) rfl

theorem onRim_iff {x y z : Int} {c : Cell} (hc : c.inBox x y z) : onRim x y z c = true ↔ ∃ d : Cell, apart c d = 1 ∧ ¬ d.inBox x y z := by
  obtain ⟨⟨h1, h2⟩, ⟨h3, h4⟩, ⟨h5, h6⟩⟩ := hc
  unfold onRim
  rw [decide_eq_true_iff]
  constructor
  · rintro (h | h | h | h | h | h)
    · exact ⟨⟨c.a - 1, c.b, c.c⟩, by unfold apart; simp only; omega, fun k => by have := k.1.1; simp only at this; omega⟩
    · exact ⟨⟨c.a, c.b - 1, c.c⟩, by unfold apart; simp only; omega, fun k => by have := k.2.1.1; simp only at this; omega⟩
    · exact ⟨⟨c.a, c.b, c.c - 1⟩, by unfold apart; simp only; omega, fun k => by have := k.2.2.1; simp only at this; omega⟩
    · exact ⟨⟨c.a + 1, c.b, c.c⟩, by unfold apart; simp only; omega, fun k => by have := k.1.2; simp only at this; omega⟩
    · exact ⟨⟨c.a, c.b + 1, c.c⟩, by unfold apart; simp only; omega, fun k => by have := k.2.1.2; simp only at this; omega⟩
    · exact ⟨⟨c.a, c.b, c.c + 1⟩, by unfold apart; simp only; omega, fun k => by have := k.2.2.2; simp only at this; omega⟩
  · rintro ⟨d, hd, hk⟩
    apply Classical.byContradiction
    intro hno
    refine hk ⟨⟨?_, ?_⟩, ⟨?_, ?_⟩, ⟨?_, ?_⟩⟩ <;> (unfold apart at hd; omega)

end Go.Ab

/- Plain words: what stands and what hangs, by parts and by growing. -/
namespace Go.Ab

theorem Reach.symm {x y z : Int} {q : Cell → Bool} {c d : Cell} (hc : c.inBox x y z) (hqc : q c = true) (h : Reach x y z (fun e => decide (e = c)) q d) : Reach x y z (fun e => decide (e = d)) q c ∧ q d = true := by
  induction h with
  | base h1 h2 => rw [of_decide_eq_true h2]; exact ⟨.base hc (by simp), hqc⟩
  | @step a b h1 h2 h3 h4 ih =>
    refine ⟨?_, h4⟩
    have hb : Reach x y z (fun e => decide (e = b)) q b := .base h3 (by simp)
    have hba : Reach x y z (fun e => decide (e = b)) q a := .step hb (by rw [apart_comm]; exact h2) h1.inBox ih.2
    have htr : ∀ {u}, Reach x y z (fun e => decide (e = a)) q u → Reach x y z (fun e => decide (e = b)) q u := fun hu =>
      hu.mono (fun e _ he => by rw [of_decide_eq_true he]; exact hba) fun _ _ h => h
    exact htr ih.1
theorem Reach.trans {x y z : Int} {q p : Cell → Bool} {c d : Cell} (h : Reach x y z p q c) (k : Reach x y z (fun e => decide (e = c)) q d) : Reach x y z p q d :=
  k.mono (fun e _ he => by rw [of_decide_eq_true he]; exact h) fun _ _ h => h

section
variable {x y z : Int} (hS : Sides x y z)
include hS
/-- What stands of a set. -/
noncomputable def stand (x y z : Int) (q : Cell → Bool) : Cell → Bool := reach x y z (fun e => q e && decide (e.c = 0)) q
/-- The cells that stand, or those that hang. -/
noncomputable def parted (x y z : Int) (q : Cell → Bool) (hang : Bool) : Cell → Bool := fun d => q d && (stand x y z q d != hang)
end

def floorOf (l : List Cell) : Bool := l.any fun e => decide (e.c = 0)
/-- The cells of the first k lists, of those on the floor, or of the others. -/
def selK (L : List (List Cell)) (hang : Bool) (k : Nat) : Cell → Bool := fun d => (L.take k).any fun l => (floorOf l != hang) && decide (d ∈ l)
end Go.Ab

/- Contracts: what is enclosed; the program's FillCavities. -/
namespace Go.Ab
open Go
set_option linter.unusedSimpArgs false
set_option linter.unusedVariables false

/-- What is outside: reached from the rim, by way of cells without cubes. -/
noncomputable def outer (x y z : Int) (p : Cell → Bool) : Cell → Bool := reach x y z (fun c => !p c && onRim x y z c) fun c => !p c
noncomputable def closed (x y z : Int) (p : Cell → Bool) (c : Cell) : Bool := !p c && !outer x y z p c
noncomputable def fillOf (x y z : Int) (cs : List Cell) : Option Hp := by
  classical
  exact if HeapOK x y z cs then some ⟨x, y, z, pick x y z fun c => decide (c ∈ cs) || closed x y z (fun c => decide (c ∈ cs)) c⟩ else none
end Go.Ab

/- Plain words: a search from beyond the box. -/
namespace Go.Ab

def ExtC (x y z : Int) (c : Cell) : Prop := (-1 ≤ c.a ∧ c.a ≤ x) ∧ (-1 ≤ c.b ∧ c.b ≤ y) ∧ (-1 ≤ c.c ∧ c.c ≤ z)
theorem Cell.inBox.ext {x y z : Int} {c : Cell} (h : c.inBox x y z) : ExtC x y z c := by
  obtain ⟨⟨_, _⟩, ⟨_, _⟩, ⟨_, _⟩⟩ := h
  exact ⟨⟨by omega, by omega⟩, ⟨by omega, by omega⟩, ⟨by omega, by omega⟩⟩
/-- What comes before a place. -/
def Bef (c : Cell) (i j k : Int) : Prop := c.a < i ∨ (c.a = i ∧ (c.b < j ∨ (c.b = j ∧ c.c < k)))
structure Mgn (x y z i j k : Int) (l : List Cell) : Prop where
  mem : ∀ c ∈ l, ExtC x y z c ∧ ¬ c.inBox x y z
  all : ∀ c, ExtC x y z c → ¬ c.inBox x y z → Bef c i j k → c ∈ l
  len : (l.length : Int) ≤ (i + 1) * 36 + (j + 1) * 6 + (k + 1)
theorem Mgn.nil {x y z : Int} : Mgn x y z (-1) (-1) (-1) [] := by
  refine ⟨by simp, fun c ⟨⟨_, _⟩, ⟨_, _⟩, ⟨_, _⟩⟩ _ hb => ?_, by simp⟩
  unfold Bef at hb
  omega
theorem Mgn.out {x y z i j k : Int} {l : List Cell} (h : Mgn x y z i j k l) (hk : k < 6) (hc : ExtC x y z ⟨i, j, k⟩) (ho : ¬ Cell.inBox x y z ⟨i, j, k⟩) : Mgn x y z i j (k + 1) (l ++ [⟨i, j, k⟩]) := by
  refine ⟨fun c hm => ?_, fun c h1 h2 h3 => ?_, ?_⟩
  · rcases List.mem_append.1 hm with hm | hm
    · exact h.mem c hm
    · rw [List.mem_singleton.1 hm]; exact ⟨hc, ho⟩
  · rw [List.mem_append, List.mem_singleton, cell_eq]
    unfold Bef at h3
    by_cases hb : Bef c i j k
    · exact .inl (h.all c h1 h2 hb)
    · right; unfold Bef at hb; simp only; omega
  · have := h.len; rw [List.length_append, List.length_singleton]; omega
theorem Mgn.in {x y z i j k : Int} {l : List Cell} (h : Mgn x y z i j k l) (ho : Cell.inBox x y z ⟨i, j, k⟩) : Mgn x y z i j (k + 1) l := by
  refine ⟨h.mem, fun c h1 h2 h3 => ?_, by have := h.len; omega⟩
  unfold Bef at h3
  by_cases hb : Bef c i j k
  · exact h.all c h1 h2 hb
  · unfold Bef at hb
    exact absurd (by rw [show c = ⟨i, j, k⟩ from cell_eq.2 (by simp only; omega)]; exact ho) h2
theorem Mgn.row {x y z i j k : Int} {l : List Cell} (h : Mgn x y z i j k l) (hk : z < k) (hz : k ≤ 5) : Mgn x y z i (j + 1) (-1) l := by
  refine ⟨h.mem, fun c h1 h2 h3 => h.all c h1 h2 ?_, by have := h.len; omega⟩
  obtain ⟨_, _, _, _⟩ := h1
  unfold Bef at h3 ⊢
  omega
theorem Mgn.plane {x y z i j : Int} {l : List Cell} (h : Mgn x y z i j (-1) l) (hk : y < j) (hz : j ≤ 5) : Mgn x y z (i + 1) (-1) (-1) l := by
  refine ⟨h.mem, fun c h1 h2 h3 => h.all c h1 h2 ?_, by have := h.len; omega⟩
  obtain ⟨_, ⟨_, _⟩, _, _⟩ := h1
  unfold Bef at h3 ⊢
  omega

structure Out (x y z : Int) (p : Cell → Bool) (n k : Nat) (mg r : List Cell) : Prop where
  base : ∀ c, ExtC x y z c → ¬ c.inBox x y z → c ∈ mg
  mgm : ∀ c ∈ mg, ExtC x y z c ∧ ¬ c.inBox x y z
  nodup : r.Nodup
  mem : ∀ d ∈ r, d.inBox x y z ∧ p d = false ∧ outer x y z p d = true
  done : ∀ i, i < n → i < (mg ++ r).length → ∀ e, e.inBox x y z → p e = false → apart ((mg ++ r).getD i default) e = 1 → e ∈ r
  part : ∀ j, j < k → ((nbrs ((mg ++ r).getD n default)).getD j default).inBox x y z → p ((nbrs ((mg ++ r).getD n default)).getD j default) = false → (nbrs ((mg ++ r).getD n default)).getD j default ∈ r

section
variable {x y z : Int} {p : Cell → Bool} {n k : Nat} {mg r : List Cell}
theorem Out.skip (h : Out x y z p n k mg r) (hs : ¬ ((((nbrs ((mg ++ r).getD n default)).getD k default).inBox x y z ∧ p ((nbrs ((mg ++ r).getD n default)).getD k default) = false) ∧ (nbrs ((mg ++ r).getD n default)).getD k default ∉ r)) : Out x y z p n (k + 1) mg r :=
  ⟨h.base, h.mgm, h.nodup, h.mem, h.done, fun j hj h1 h2 => by
    rcases Nat.lt_or_ge j k with h3 | h3
    · exact h.part j h3 h1 h2
    · rw [show j = k by omega] at h1 h2 ⊢
      exact Classical.byContradiction fun h4 => hs ⟨⟨h1, h2⟩, h4⟩⟩
theorem Out.add (h : Out x y z p n k mg r) (hk : k < 6) (hn : n < (mg ++ r).length) {e : Cell} (he : (nbrs ((mg ++ r).getD n default)).getD k default = e) (h1 : e.inBox x y z) (h2 : p e = false) (h3 : e ∉ r) : Out x y z p n (k + 1) mg (r ++ [e]) := by
  have hg : ∀ {j}, j < (mg ++ r).length → (mg ++ (r ++ [e])).getD j default = (mg ++ r).getD j default := fun {j} hj => by
    rw [← List.append_assoc]
    simp only [List.getD_eq_getElem?_getD]; rw [List.getElem?_append_left hj]
  have hap : apart ((mg ++ r).getD n default) e = 1 := mem_nbrs.1 (by rw [← he]; exact getD_mem' (by simpa [nbrs] using hk))
  have hout : outer x y z p e = true := by
    unfold outer
    rw [reach_iff]
    rcases List.mem_append.1 (getD_mem' (d := default) hn) with hm | hm
    · refine .base h1 ?_
      have := h.mgm _ hm
      rw [h2, (onRim_iff h1).2 ⟨_, by rw [apart_comm]; exact hap, this.2⟩]; rfl
    · have := (h.mem _ hm).2.2
      unfold outer at this
      rw [reach_iff] at this
      exact .step this hap h1 (by rw [h2]; rfl)
  refine ⟨h.base, h.mgm, ?_, fun d hd => ?_, fun i hi hil d hd hpd ha => ?_, fun j hj hb hpb => ?_⟩
  · rw [List.nodup_append]
    exact ⟨h.nodup, by simp, fun a ha b hb e' => by rw [List.mem_singleton.1 hb] at e'; subst e'; exact h3 ha⟩
  · rcases List.mem_append.1 hd with hd | hd
    · exact h.mem d hd
    · rw [List.mem_singleton.1 hd]; exact ⟨h1, h2, hout⟩
  · rw [hg (by omega)] at ha
    exact List.mem_append.2 (.inl (h.done i hi (by omega) d hd hpd ha))
  · rw [hg hn] at hb hpb ⊢
    rcases Nat.lt_or_ge j k with h5 | h5
    · exact List.mem_append.2 (.inl (h.part j h5 hb hpb))
    · rw [show j = k by omega, he]; simp
end
end Go.Ab

/- Contracts: the reference's search from beyond the box. -/
namespace Go.Ab
open Go
set_option linter.unusedSimpArgs false
set_option linter.unusedVariables false

def steps : List Cell := [⟨-1, 0, 0⟩, ⟨1, 0, 0⟩, ⟨0, -1, 0⟩, ⟨0, 1, 0⟩, ⟨0, 0, -1⟩, ⟨0, 0, 1⟩]
theorem Live.step {N : Mem} {t k : Nat} (h : Live N t (.row (triL steps) true 0)) (hk : k < 6) : getCells N t (k * 3) 3 = some (steps.getD k default).row := by
  have := Tri.get (cs := steps) (o := 0) h.has (k := k) hk
  rwa [Nat.zero_add] at this

end Go.Ab

/- The abstract code of some functions (written by a program of mine from the translation, by way of prepF). -/
namespace Go.Ab.C
open Go.Ab
end Go.Ab.C

/- That the program has this code. -/
namespace Go.Ab.K
open Go Go.Ab
end Go.Ab.K

/- Plain: how often a line of a box is met by cells of a list; cells that are alone in a line. -/
namespace Go.Ab
open Go
set_option linter.unusedSimpArgs false
set_option linter.unusedVariables false

def onLine (y z : Int) (d : Nat) (i : Nat) (c : Cell) : Bool := decide ((lineOf y z c d).toNat = i)
/-- A cell alone, among cells, in one of its lines of the first k directions. -/
def aloneK (y z : Int) (cs : List Cell) : Nat → Cell → Bool
  | 0, _ => false
  | k + 1, c => aloneK y z cs k c || decide (cs.countP (onLine y z k (lineOf y z c k).toNat) = 1)
/-- The lit lines of a shadow. -/
def litL (xs : List Int) (n : Nat) : List Nat := (List.range n).filter fun i => decide (xs.getD i 0 = 1)
def litTo (tp fr sd : List Int) (d i : Nat) : List (Nat × Nat) := ((List.range d).flatMap fun e => (litL (shdList e tp fr sd) (shdList e tp fr sd).length).map fun j => (e, j)) ++ (litL (shdList d tp fr sd) i).map fun j => (d, j)
def lits (tp fr sd : List Int) : List (Nat × Nat) := litTo tp fr sd 3 0
/-- The cells of p in a line. -/
def inLine (y z : Int) (p : Cell → Bool) (q : Nat × Nat) (c : Cell) : Bool := p c && onLine y z q.1 q.2 c
/-- The lines as sets. -/
def lineSets (x y z : Int) (p : Cell → Bool) (L : List (Nat × Nat)) : List LV := L.map fun q => .W (bs x y z (inLine y z p q))
/-- Among the first k lit lines one has the cell, and no other allowed one. -/
def mustTo (x y z : Int) (p : Cell → Bool) (L : List (Nat × Nat)) (c : Cell) : Bool := decide (∃ q ∈ L, (pick x y z (inLine y z p q)).length = 1 ∧ inLine y z p q c = true)
end Go.Ab

/- Plain: lit lines without a cube, as the reference lists them. -/
namespace Go.Ab
open Go
set_option linter.unusedSimpArgs false
set_option linter.unusedVariables false

def offL (tp fr : List Int) (d : Nat) : Nat := if d = 2 then 0 else if d = 1 then tp.length else tp.length + fr.length
/-- The place of a cell's line among all lines. -/
def gl (y z : Int) (tp fr : List Int) (d : Nat) (c : Cell) : Nat := offL tp fr d + (lineOf y z c d).toNat
def darkStep (y z : Int) (tp fr : List Int) (v : List Bool) (c : Cell) : List Bool := ((v.set (gl y z tp fr 2 c) false).set (gl y z tp fr 1 c) false).set (gl y z tp fr 0 c) false
def darkL (y z : Int) (tp fr sd : List Int) (cs : List Cell) : List Bool := cs.foldl (darkStep y z tp fr) ((tp ++ fr ++ sd).map fun n => decide (n = 1))
/-- Cells meet all lit lines. -/
def Meets (y z : Int) (L : List (Nat × Nat)) (cs : List Cell) : Prop := ∀ q ∈ L, ∃ c ∈ cs, onLine y z q.1 q.2 c = true
instance (y z : Int) (L : List (Nat × Nat)) (cs : List Cell) : Decidable (Meets y z L cs) := by unfold Meets; exact inferInstance
end Go.Ab

/- The abstract code of some functions (written by a program of mine from the translation, by way of prepF). -/
namespace Go.Ab.C
open Go.Ab
end Go.Ab.C

/- That the program has this code. -/
namespace Go.Ab.K
open Go Go.Ab
end Go.Ab.K

/- The abstract code of some functions (written by a program of mine from the translation, by way of prepF). -/
namespace Go.Ab.C
open Go.Ab
end Go.Ab.C

/- That the program has this code. -/
namespace Go.Ab.K
open Go Go.Ab
end Go.Ab.K

/- The abstract code of some functions (written by a program of mine from the translation, by way of prepF). -/
namespace Go.Ab.C
open Go.Ab
end Go.Ab.C

/- That the program has this code. -/
namespace Go.Ab.K
open Go Go.Ab
end Go.Ab.K

/- Contracts: lists of numbers that are the same; shadows of heaps, the reference's side. -/
namespace Go.Ab
open Go
set_option linter.unusedSimpArgs false
set_option linter.unusedVariables false

end Go.Ab

/- Contracts: shadows of heaps, the reference's side. -/
namespace Go.Ab
open Go
set_option linter.unusedSimpArgs false
set_option linter.unusedVariables false

def onesL (v : List Int) : List Int := v.map fun n => min n 1
def shdOf (x y z : Int) (d : Nat) (cs : List Cell) : List Int := onesL (viewL x y z d cs)
end Go.Ab

/- Contracts: whether a heap has a shadow, the reference's side. -/
namespace Go.Ab
open Go
set_option linter.unusedSimpArgs false
set_option linter.unusedVariables false

section
variable {x y z : Int} {t o : Nat} {cs : List Cell} {M : Mem} (h : Tri M t o cs) (hH : HeapOK x y z cs)
include h hH
end

/-- A set of cells has a shadow. -/
def HasShd (x y z : Int) (tp fr sd : List Int) (cs : List Cell) : Prop := shdOf x y z 2 cs = tp ∧ shdOf x y z 1 cs = fr ∧ shdOf x y z 0 cs = sd
instance (x y z : Int) (tp fr sd : List Int) (cs : List Cell) : Decidable (HasShd x y z tp fr sd cs) := by unfold HasShd; exact inferInstance
end Go.Ab

/- Contracts: lit lines without a cube, the reference's side. -/
namespace Go.Ab
open Go
set_option linter.unusedSimpArgs false
set_option linter.unusedVariables false
set_option maxRecDepth 20000

def boolL (v : List Bool) : List LV := v.map LV.B
def stepTo (y z : Int) (tp fr : List Int) (V : List Bool) (c : Cell) : Nat → List Bool
  | 0 => V
  | k + 1 => (stepTo y z tp fr V c k).set (gl y z tp fr (2 - k) c) false
end Go.Ab

/- The abstract code of some functions (written by a program of mine from the translation, by way of prepF). -/
namespace Go.Ab.C
open Go.Ab
def spec_l2Box : AFn :=
 ⟨3, 16, [.cellN 6 4],
 .seq (.ops [(none, .alloc 6 [(.I 0), (.I 0), (.I 0), .nil])])
 (.seq (.ops [(none, .mv 8 (.t 0)),
 (none, .mv 9 (.t 1)),
 (none, .mv 10 (.t 2)),
 (none, .call (some 11) F.spec_l2Empty [(.t 8), (.t 9), (.t 10)]),
 (none, .alloc 7 [(.I 0), (.I 0), (.I 0), .nil]),
 (none, .store 4 (.t 7) (.t 11))])
 (.seq (.ops [(none, .loadN 12 4 (.t 7)),
 (none, .call (some 13) F.spec_l2All [(.t 12)]),
 (none, .fieldAddr 14 (.t 7) 3),
 (none, .store 1 (.t 14) (.t 13))])
 (.seq (.ops [(none, .loadN 15 4 (.t 7)),
 (none, .store 4 (.t 6) (.t 15))])
 (.ret))))⟩
end Go.Ab.C

/- That the program has this code. -/
namespace Go.Ab.K
open Go Go.Ab
theorem spec_l2Box : prepF Go.Proofs.Try.prog F.spec_l2Box = some C.spec_l2Box := by kernel_rfl
end Go.Ab.K

/- Contracts: full boxes of the reference. -/
namespace Go.Ab
open Go
set_option linter.unusedSimpArgs false
set_option linter.unusedVariables false
set_option maxRecDepth 20000

/-- A heap as a value, all of whose cells are new. -/
def HeapV (M : Mem) (x y z : Int) (cs : List Cell) (v : LV) (N : Mem) : Prop := ∃ u : Nat, v = .agg [.I x, .I y, .I z, .ref u 0 cs.length] ∧ Live N u (.row (triL cs) true 3) ∧ M.length ≤ u
theorem h_l2Box {x y z : Int} {M : Mem} (hS : Sides x y z) : CallsR PG F.spec_l2Box [.I x, .I y, .I z] M fun v N => HeapV M x y z (cellsOf x y z) v N ∧ Pre M N := by
  have hcl : (cellsOf x y z).length = vol x y z := by simp [cellsOf]
  refine callsR_run K.spec_l2Box rfl ?_
  simp (disch := omega) only [C.spec_l2Box, ↓SXd, SXu, slBounds, ↓sop, ↓aop, ↓reduceIte, LV.cells, AOp.dst, LV.I, LV.B, LV.U, LV.S, LV.nil, Nat.reduceEqDiff, Nat.reduceAdd, Nat.reduceMul, Nat.reduceSub, Nat.reduceLeDiff, Nat.reduceBEq, Nat.reduceDiv, Nat.reduceMod, Int.reduceToNat, Int.reduceLT, Int.reduceLE, Int.reduceAdd, Int.reduceSub, Int.reduceMul, Int.reduceEq, Int.reduceNeg, reduceCtorEq, resV, resAll, ARes.ev, LV.flat, ite_true, ite_false, exists_eq_left', exists_eq_left, keyOf, implies_true, fillC, capOf]
  refine callK_of (h_l2Empty) ?_
  simp (disch := omega) only [splice, ↓SXd, SXu, slBounds, ↓sop, ↓aop, ↓reduceIte, LV.cells, AOp.dst, LV.I, LV.B, LV.U, LV.S, LV.nil, Nat.reduceEqDiff, Nat.reduceAdd, Nat.reduceMul, Nat.reduceSub, Nat.reduceLeDiff, Nat.reduceBEq, Nat.reduceDiv, Nat.reduceMod, Int.reduceToNat, Int.reduceLT, Int.reduceLE, Int.reduceAdd, Int.reduceSub, Int.reduceMul, Int.reduceEq, Int.reduceNeg, reduceCtorEq, resV, resAll, ARes.ev, LV.flat, ite_true, ite_false, exists_eq_left', exists_eq_left, keyOf, implies_true, fillC, capOf]
  refine callK_of (h_l2All hS) ?_
  simp (disch := omega) only [splice, ↓SXd, SXu, slBounds, ↓sop, ↓aop, ↓reduceIte, LV.cells, AOp.dst, LV.I, LV.B, LV.U, LV.S, LV.nil, Nat.reduceEqDiff, Nat.reduceAdd, Nat.reduceMul, Nat.reduceSub, Nat.reduceLeDiff, Nat.reduceBEq, Nat.reduceDiv, Nat.reduceMod, Int.reduceToNat, Int.reduceLT, Int.reduceLE, Int.reduceAdd, Int.reduceSub, Int.reduceMul, Int.reduceEq, Int.reduceNeg, reduceCtorEq, resV, resAll, ARes.ev, LV.flat, ite_true, ite_false, exists_eq_left', exists_eq_left, keyOf, implies_true, fillC, capOf]
  exact ⟨⟨M.length + 3, rfl, Live.newj rfl, by omega⟩, Pre.app _ _⟩
end Go.Ab

/- Contracts: the heaps of few cubes that a law draws; mirrored heaps of the reference, in any direction. -/
namespace Go.Ab
open Go
set_option linter.unusedSimpArgs false
set_option linter.unusedVariables false
set_option maxRecDepth 20000

def negD (c : Cell) : Cell := ⟨max 0 (0 - c.a), max 0 (0 - c.b), max 0 (0 - c.c)⟩
end Go.Ab

/- The abstract code of some functions (written by a program of mine from the translation, by way of prepF). -/
namespace Go.Ab.C
open Go.Ab
end Go.Ab.C

/- That the program has this code. -/
namespace Go.Ab.K
open Go Go.Ab
end Go.Ab.K

/- The abstract code of some functions (written by a program of mine from the translation, by way of prepF). -/
namespace Go.Ab.C
open Go.Ab
def impl_Heap_moved : AFn :=
 ⟨3, 29, [.cellN 6 4],
 .seq (.ops [(none, .box 3 (.t 0)),
 (none, .box 4 (.t 1)),
 (none, .alloc 6 [(.I 0), (.I 0), (.I 0), .nil])])
 (.seq (.ops [(none, .mv 7 (.c (.U 0)))])
 (.seq (.seq (.ops [(none, .fieldAddr 10 (.t 3) 3),
 (none, .load1 11 (.t 10)),
 (none, .len 12 (.t 11)),
 (none, .mv 13 (.c (.I 0)))])
 (.block 0 (.loop (.seq (.ops [(none, .bin 14 .lss (.t 13) (.t 12))])
 (.seq (.cond (.t 14) (.skip)
 (.exit 0))
 (.seq (.block 1 (.seq (.ops [(none, .idxS 15 3 (.t 11) (.t 13)),
 (none, .loadN 16 3 (.t 15)),
 (none, .alloc 9 [(.I 0), (.I 0), (.I 0)]),
 (none, .store 3 (.t 9) (.t 16))])
 (.draw [⟨(none, .mv 17 (.t 7)), [], []⟩,
 ⟨(none, .loadN 18 3 (.t 4)), [], []⟩,
 ⟨(none, .mv 19 (.t 2)), [], []⟩,
 ⟨(none, .loadN 20 3 (.t 9)), [], []⟩,
 ⟨(none, .callV (some 21) (.t 19) [(.t 20)]), [], [0, 1]⟩,
 ⟨(none, .call (some 22) F.impl_box_index [(.t 18), (.t 21)]), [], [0]⟩,
 ⟨(none, .bin 23 .shl (.c (.U 1)) (.t 22)), [], []⟩,
 ⟨(none, .bin 24 .or (.t 17) (.t 23)), [], []⟩,
 ⟨(none, .mv 7 (.t 24)), [], []⟩])))
 (.ops [(none, .bin 25 .add (.t 13) (.c (.I 1))),
 (none, .mv 13 (.t 25))])))))))
 (.seq (.ops [(none, .loadN 26 3 (.t 4)),
 (none, .mv 27 (.t 7)),
 (none, .call (some 28) F.impl_box_heap [(.t 26), (.t 27)]),
 (none, .store 4 (.t 6) (.t 28))])
 (.ret))))⟩
end Go.Ab.C

/- That the program has this code. -/
namespace Go.Ab.K
open Go Go.Ab
theorem impl_Heap_moved : prepF Go.Proofs.Try.prog F.impl_Heap_moved = some C.impl_Heap_moved := by kernel_rfl
end Go.Ab.K

/- The abstract code of some functions (written by a program of mine from the translation, by way of prepF). -/
namespace Go.Ab.C
open Go.Ab
end Go.Ab.C

/- That the program has this code. -/
namespace Go.Ab.K
open Go Go.Ab
end Go.Ab.K

/- Contracts: the program's turns. -/
namespace Go.Ab
open Go
set_option linter.unusedSimpArgs false
set_option linter.unusedVariables false

def ordersL : List Cell := [⟨0, 1, 2⟩, ⟨0, 2, 1⟩, ⟨1, 0, 2⟩, ⟨1, 2, 0⟩, ⟨2, 0, 1⟩, ⟨2, 1, 0⟩]
/-- The attempt at which an order's turns begin. -/
def nO (o : Nat) : Nat := if o = 0 then 8 else if o = 1 then 16 else if o = 2 then 24 else if o = 3 then 40 else if o = 4 then 48 else if o = 5 then 56 else 72
end Go.Ab
