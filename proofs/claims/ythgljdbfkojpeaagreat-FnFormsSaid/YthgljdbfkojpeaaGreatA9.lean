/- Parts of the proof of FnFormsSaid: Hh C_Tl K_Tl C_Tk K_Tk C_Tj K_Tj Tj Tk Tl Tt. -/
import Derived.Test.YthgljdbfkojpeaaGreatA4
import Derived.Test.YthgljdbfkojpeaaGreatA8
import Derived.Test.YthgljdbfkojpeaaGreatA3
import Derived.Test.YthgljdbfkojpeaaGreatProg
import Derived.KernelRfl
import Derived.Test.YthgljdbfkojpeaaGreatA7
set_option linter.all false
/- Contracts: the heaps of few cubes that a law draws; mirrored heaps of the reference, in any direction. -/
namespace Go.Ab
open Go
set_option linter.unusedSimpArgs false
set_option linter.unusedVariables false
set_option maxRecDepth 20000

/-- A heap as a value, all of whose cells are new. -/
def HeapV (M : Mem) (x y z : Int) (cs : List Cell) (v : LV) (N : Mem) : Prop := ∃ u : Nat, v = .agg [.I x, .I y, .I z, .ref u 0 cs.length] ∧ Live N u (.row (triL cs) true 3) ∧ M.length ≤ u
theorem sides1 : Sides 1 1 1 := ⟨⟨by omega, by omega⟩, ⟨by omega, by omega⟩, ⟨by omega, by omega⟩⟩
theorem h_l2Box {x y z : Int} {M : Mem} (hS : Sides x y z) : CallsR PG F.spec_l2Box [.I x, .I y, .I z] M fun v N => HeapV M x y z (cellsOf x y z) v N ∧ Pre M N := by
  have hcl : (cellsOf x y z).length = vol x y z := by simp [cellsOf]
  refine callsR_run K.spec_l2Box rfl ?_
  simp (disch := omega) only [C.spec_l2Box, ↓SXd, SXu, slBounds, ↓sop, ↓aop, ↓reduceIte, LV.cells, AOp.dst, LV.I, LV.B, LV.U, LV.S, LV.nil, Nat.reduceEqDiff, Nat.reduceAdd, Nat.reduceMul, Nat.reduceSub, Nat.reduceLeDiff, Nat.reduceBEq, Nat.reduceDiv, Nat.reduceMod, Int.reduceToNat, Int.reduceLT, Int.reduceLE, Int.reduceAdd, Int.reduceSub, Int.reduceMul, Int.reduceEq, Int.reduceNeg, reduceCtorEq, resV, resAll, ARes.ev, LV.flat, ite_true, ite_false, exists_eq_left', exists_eq_left, keyOf, implies_true, fillC, capOf]
  refine callK_of (h_l2Empty) ?_
  simp (disch := omega) only [splice, ↓SXd, SXu, slBounds, ↓sop, ↓aop, ↓reduceIte, LV.cells, AOp.dst, LV.I, LV.B, LV.U, LV.S, LV.nil, Nat.reduceEqDiff, Nat.reduceAdd, Nat.reduceMul, Nat.reduceSub, Nat.reduceLeDiff, Nat.reduceBEq, Nat.reduceDiv, Nat.reduceMod, Int.reduceToNat, Int.reduceLT, Int.reduceLE, Int.reduceAdd, Int.reduceSub, Int.reduceMul, Int.reduceEq, Int.reduceNeg, reduceCtorEq, resV, resAll, ARes.ev, LV.flat, ite_true, ite_false, exists_eq_left', exists_eq_left, keyOf, implies_true, fillC, capOf]
  refine callK_of (h_l2All hS) ?_
  simp (disch := omega) only [splice, ↓SXd, SXu, slBounds, ↓sop, ↓aop, ↓reduceIte, LV.cells, AOp.dst, LV.I, LV.B, LV.U, LV.S, LV.nil, Nat.reduceEqDiff, Nat.reduceAdd, Nat.reduceMul, Nat.reduceSub, Nat.reduceLeDiff, Nat.reduceBEq, Nat.reduceDiv, Nat.reduceMod, Int.reduceToNat, Int.reduceLT, Int.reduceLE, Int.reduceAdd, Int.reduceSub, Int.reduceMul, Int.reduceEq, Int.reduceNeg, reduceCtorEq, resV, resAll, ARes.ev, LV.flat, ite_true, ite_false, exists_eq_left', exists_eq_left, keyOf, implies_true, fillC, capOf]
  exact ⟨⟨M.length + 3, rfl, Live.newj rfl, by omega⟩, Pre.app _ _⟩
def negD (c : Cell) : Cell := ⟨max 0 (0 - c.a), max 0 (0 - c.b), max 0 (0 - c.c)⟩
theorem negD_at {c : Cell} {d : Nat} (hd : d < 3) : (negD c).at d = max 0 (0 - c.at d) := by
  rcases (show d = 0 ∨ d = 1 ∨ d = 2 by omega) with rfl | rfl | rfl <;> rfl
theorem h_l8Grown {x y z : Int} {t : Nat} {w : Bool} {cs : List Cell} {c : Cell} {M : Mem} (h : Live M t (.row (triL cs) w 3)) (hH : HeapOK x y z cs) (hc : (-9 ≤ c.a ∧ c.a ≤ 9) ∧ (-9 ≤ c.b ∧ c.b ≤ 9) ∧ (-9 ≤ c.c ∧ c.c ≤ 9)) :
    CallsR PG F.spec_l8Grown [.agg [.I x, .I y, .I z, .ref t 0 cs.length], .agg [.I c.a, .I c.b, .I c.c]] M fun v N =>
      (v = .tup [.agg [.I 0, .I 0, .I 0, .nil], .B false] ∨ ∃ (u : Nat) (ds : List Cell), v = .tup [.agg [.I 4, .I 4, .I 4, .ref u 0 ds.length], .B true] ∧ HeapOK 4 4 4 ds ∧ 0 < ds.length ∧ Live N u (.row (triL ds) true 3) ∧ M.length ≤ u) ∧ Pre M N := by
  have hlen := hH.len
  have ht := h.lt
  refine callsR_run K.spec_l8Grown rfl ?_
  simp (disch := omega) only [C.spec_l8Grown, ↓SXd, SXu, slBounds, ↓sop, ↓aop, ↓reduceIte, LV.cells, AOp.dst, LV.I, LV.B, LV.U, LV.S, LV.nil, Nat.reduceEqDiff, Nat.reduceAdd, Nat.reduceMul, Nat.reduceSub, Nat.reduceLeDiff, Nat.reduceBEq, Nat.reduceDiv, Nat.reduceMod, Int.reduceToNat, Int.reduceLT, Int.reduceLE, Int.reduceAdd, Int.reduceSub, Int.reduceMul, Int.reduceEq, Int.reduceNeg, reduceCtorEq, resV, resAll, ARes.ev, LV.flat, ite_true, ite_false, exists_eq_left', exists_eq_left, keyOf, implies_true, fillC, capOf]
  refine callK_of (h_l2Has (Has.app h.has) (by omega)) ?_
  simp (disch := omega) only [↓SXd, SXu, slBounds, ↓sop, ↓aop, ↓reduceIte, LV.cells, AOp.dst, LV.I, LV.B, LV.U, LV.S, LV.nil, Nat.reduceEqDiff, Nat.reduceAdd, Nat.reduceMul, Nat.reduceSub, Nat.reduceLeDiff, Nat.reduceBEq, Nat.reduceDiv, Nat.reduceMod, Int.reduceToNat, Int.reduceLT, Int.reduceLE, Int.reduceAdd, Int.reduceSub, Int.reduceMul, Int.reduceEq, Int.reduceNeg, reduceCtorEq, resV, resAll, ARes.ev, LV.flat, ite_true, ite_false, exists_eq_left', exists_eq_left, keyOf, implies_true, fillC, capOf]
  rw [cell_eta]
  by_cases hm : c ∈ cs
  · simp (disch := omega) only [hm, splice, ↓SXd, SXu, slBounds, ↓sop, ↓aop, ↓reduceIte, LV.cells, AOp.dst, LV.I, LV.B, LV.U, LV.S, LV.nil, Nat.reduceEqDiff, Nat.reduceAdd, Nat.reduceMul, Nat.reduceSub, Nat.reduceLeDiff, Nat.reduceBEq, Nat.reduceDiv, Nat.reduceMod, Int.reduceToNat, Int.reduceLT, Int.reduceLE, Int.reduceAdd, Int.reduceSub, Int.reduceMul, Int.reduceEq, Int.reduceNeg, reduceCtorEq, resV, resAll, ARes.ev, LV.flat, ite_true, ite_false, exists_eq_left', exists_eq_left, keyOf, implies_true, fillC, capOf]
    exact ⟨.inl rfl, Pre.app _ _⟩
  simp (disch := omega) only [hm, splice, ↓SXd, SXu, slBounds, ↓sop, ↓aop, ↓reduceIte, LV.cells, AOp.dst, LV.I, LV.B, LV.U, LV.S, LV.nil, Nat.reduceEqDiff, Nat.reduceAdd, Nat.reduceMul, Nat.reduceSub, Nat.reduceLeDiff, Nat.reduceBEq, Nat.reduceDiv, Nat.reduceMod, Int.reduceToNat, Int.reduceLT, Int.reduceLE, Int.reduceAdd, Int.reduceSub, Int.reduceMul, Int.reduceEq, Int.reduceNeg, reduceCtorEq, resV, resAll, ARes.ev, LV.flat, ite_true, ite_false, exists_eq_left', exists_eq_left, keyOf, implies_true, fillC, capOf]
  refine ev_loop (fun m fr M' => ∃ d : Nat, d + m = 3 ∧ M'.length = M.length + 4 ∧ Pre M M' ∧ Live M' M.length (.row [.I x, .I y, .I z, .ref t 0 cs.length] true 0) ∧ Live M' (M.length + 1) (.row c.row true 0) ∧ Live M' (M.length + 2) (.row [.I 0, .I 0, .I 0, .nil] true 0) ∧ Live M' (M.length + 3) (.row (partC (negD c) d).row true 0) ∧
    fr 2 = .ptr M.length 0 ∧ fr 3 = .ptr (M.length + 1) 0 ∧ fr 4 = .ptr (M.length + 2) 0 ∧ fr 6 = .ptr (M.length + 3) 0 ∧ fr 7 = .I d) 3
    ⟨0, rfl, by simp, Pre.app _ _, Live.new, Live.newj rfl, Live.newj rfl, Live.newj rfl, rfl, rfl, rfl, rfl, rfl⟩ ?_
  rintro m fr M' ⟨d, hd, hM', hpre, b2, b3, b4, b6, f2, f3, f4, f6, f7⟩
  simp (disch := omega) only [f2, f3, f4, f6, f7, ↓SXd, SXu, slBounds, ↓sop, ↓aop, ↓reduceIte, LV.cells, AOp.dst, LV.I, LV.B, LV.U, LV.S, LV.nil, Nat.reduceEqDiff, Nat.reduceAdd, Nat.reduceMul, Nat.reduceSub, Nat.reduceLeDiff, Nat.reduceBEq, Nat.reduceDiv, Nat.reduceMod, Int.reduceToNat, Int.reduceLT, Int.reduceLE, Int.reduceAdd, Int.reduceSub, Int.reduceMul, Int.reduceEq, Int.reduceNeg, reduceCtorEq, resV, resAll, ARes.ev, LV.flat, ite_true, ite_false, exists_eq_left', exists_eq_left, keyOf, implies_true, fillC, capOf]
  refine condC_dec (fun hlt => ?_) (fun hlt => ?_)
  · have hd3 : d < 3 := by omega
    have e3 := b3.cell (o := d)
    rw [Cell.row_at hd3] at e3
    have hca : -9 ≤ c.at d ∧ c.at d ≤ 9 := by
      rcases (show d = 0 ∨ d = 1 ∨ d = 2 by omega) with rfl | rfl | rfl
      · exact hc.1
      · exact hc.2.1
      · exact hc.2.2
    have hna := negD_at (c := c) hd3
    simp (disch := omega) only [f2, f3, f4, f6, f7, Nat.mul_one, Nat.zero_add, e3, ↓SXd, SXu, slBounds, ↓sop, ↓aop, ↓reduceIte, LV.cells, AOp.dst, LV.I, LV.B, LV.U, LV.S, LV.nil, Nat.reduceEqDiff, Nat.reduceAdd, Nat.reduceMul, Nat.reduceSub, Nat.reduceLeDiff, Nat.reduceBEq, Nat.reduceDiv, Nat.reduceMod, Int.reduceToNat, Int.reduceLT, Int.reduceLE, Int.reduceAdd, Int.reduceSub, Int.reduceMul, Int.reduceEq, Int.reduceNeg, reduceCtorEq, resV, resAll, ARes.ev, LV.flat, ite_true, ite_false, exists_eq_left', exists_eq_left, keyOf, implies_true, fillC, capOf]
    refine callK_of (h_l1Most) ?_
    simp (disch := omega) only [f2, f3, f4, f6, f7, ↓SXd, SXu, slBounds, ↓sop, ↓aop, ↓reduceIte, LV.cells, AOp.dst, LV.I, LV.B, LV.U, LV.S, LV.nil, Nat.reduceEqDiff, Nat.reduceAdd, Nat.reduceMul, Nat.reduceSub, Nat.reduceLeDiff, Nat.reduceBEq, Nat.reduceDiv, Nat.reduceMod, Int.reduceToNat, Int.reduceLT, Int.reduceLE, Int.reduceAdd, Int.reduceSub, Int.reduceMul, Int.reduceEq, Int.reduceNeg, reduceCtorEq, resV, resAll, ARes.ev, LV.flat, ite_true, ite_false, exists_eq_left', exists_eq_left, keyOf, implies_true, fillC, capOf]
    refine memK_at b6 (show d < 3 from hd3) fun N1 k1 k2 k3 => ?_
    rw [← hna, partC_set hd3] at k2
    simp (disch := omega) only [f2, f3, f4, f6, f7, ↓SXd, SXu, slBounds, ↓sop, ↓aop, ↓reduceIte, LV.cells, AOp.dst, LV.I, LV.B, LV.U, LV.S, LV.nil, Nat.reduceEqDiff, Nat.reduceAdd, Nat.reduceMul, Nat.reduceSub, Nat.reduceLeDiff, Nat.reduceBEq, Nat.reduceDiv, Nat.reduceMod, Int.reduceToNat, Int.reduceLT, Int.reduceLE, Int.reduceAdd, Int.reduceSub, Int.reduceMul, Int.reduceEq, Int.reduceNeg, reduceCtorEq, resV, resAll, ARes.ev, LV.flat, ite_true, ite_false, exists_eq_left', exists_eq_left, keyOf, implies_true, fillC, capOf]
    exact ⟨m - 1, by omega, d + 1, by omega, by omega, pre_step hpre (by omega) (j := 0) k1 k3, live_step b2 (by omega) k3, live_step b3 (by omega) k3, live_step b4 (by omega) k3, k2, f2, f3, f4, f6, eqI (natI _)⟩
  · have hd3 : d = 3 := by omega
    subst hd3
    have hp3 : (partC (negD c) 3).row = (negD c).row := rfl
    rw [hp3] at b6
    simp (disch := omega) only [f2, f3, f4, f6, f7, ↓SXd, SXu, slBounds, ↓sop, ↓aop, ↓reduceIte, LV.cells, AOp.dst, LV.I, LV.B, LV.U, LV.S, LV.nil, Nat.reduceEqDiff, Nat.reduceAdd, Nat.reduceMul, Nat.reduceSub, Nat.reduceLeDiff, Nat.reduceBEq, Nat.reduceDiv, Nat.reduceMod, Int.reduceToNat, Int.reduceLT, Int.reduceLE, Int.reduceAdd, Int.reduceSub, Int.reduceMul, Int.reduceEq, Int.reduceNeg, reduceCtorEq, resV, resAll, ARes.ev, LV.flat, ite_true, ite_false, exists_eq_left', exists_eq_left, keyOf, implies_true, fillC, capOf]
    refine callK_of (h_l2Empty) ?_
    simp (disch := omega) only [f2, f3, f4, f6, f7, splice, ↓SXd, SXu, slBounds, ↓sop, ↓aop, ↓reduceIte, LV.cells, AOp.dst, LV.I, LV.B, LV.U, LV.S, LV.nil, Nat.reduceEqDiff, Nat.reduceAdd, Nat.reduceMul, Nat.reduceSub, Nat.reduceLeDiff, Nat.reduceBEq, Nat.reduceDiv, Nat.reduceMod, Int.reduceToNat, Int.reduceLT, Int.reduceLE, Int.reduceAdd, Int.reduceSub, Int.reduceMul, Int.reduceEq, Int.reduceNeg, reduceCtorEq, resV, resAll, ARes.ev, LV.flat, ite_true, ite_false, exists_eq_left', exists_eq_left, keyOf, implies_true, fillC, capOf]
    have c2 := b2.app (L := [some (.row [] true 3), some (.row [.I 4, .I 4, .I 4, .ref M'.length 0 0] true 0)])
    have c3 := b3.app (L := [some (.row [] true 3), some (.row [.I 4, .I 4, .I 4, .ref M'.length 0 0] true 0)])
    have c4 := b4.app (L := [some (.row [] true 3), some (.row [.I 4, .I 4, .I 4, .ref M'.length 0 0] true 0)])
    have c6 := b6.app (L := [some (.row [] true 3), some (.row [.I 4, .I 4, .I 4, .ref M'.length 0 0] true 0)])
    have c8 : Live (M' ++ [some (.row [] true 3), some (.row [.I 4, .I 4, .I 4, .ref M'.length 0 0] true 0)]) (M'.length + 1) (.row [.I 4, .I 4, .I 4, .ref M'.length 0 0] true 0) := Live.newj rfl
    have c9 : Live (M' ++ [some (.row [] true 3), some (.row [.I 4, .I 4, .I 4, .ref M'.length 0 0] true 0)]) M'.length (.row [] true 3) := Live.new
    have hP1 : Pre M (M' ++ [some (.row [] true 3), some (.row [.I 4, .I 4, .I 4, .ref M'.length 0 0] true 0)]) := hpre.trans (Pre.app _ _)
    have hl1 : (M' ++ [some (Blk.row [] true 3), some (.row [.I 4, .I 4, .I 4, .ref M'.length 0 0] true 0)]).length = M.length + 6 := by simp; omega
    rw [hM'] at c2 c3 c4 c6 c8 c9 hP1 hl1 ⊢
    generalize M' ++ [some (Blk.row [] true 3), some (.row [.I 4, .I 4, .I 4, .ref (M.length + 4) 0 0] true 0)] = N1 at c2 c3 c4 c6 c8 c9 hP1 hl1 ⊢
    simp (disch := omega) only [f2, f3, f4, f6, f7, c2.cells, c2.cell, c3.cells, c6.cells, splice, Cell.row, ↓SXd, SXu, slBounds, ↓sop, ↓aop, ↓reduceIte, LV.cells, AOp.dst, LV.I, LV.B, LV.U, LV.S, LV.nil, Nat.reduceEqDiff, Nat.reduceAdd, Nat.reduceMul, Nat.reduceSub, Nat.reduceLeDiff, Nat.reduceBEq, Nat.reduceDiv, Nat.reduceMod, Int.reduceToNat, Int.reduceLT, Int.reduceLE, Int.reduceAdd, Int.reduceSub, Int.reduceMul, Int.reduceEq, Int.reduceNeg, reduceCtorEq, resV, resAll, ARes.ev, LV.flat, ite_true, ite_false, exists_eq_left', exists_eq_left, keyOf, implies_true, fillC, capOf]
    refine appendK_list (acc := c.row) (new := triL cs) (n := 1) (n2 := cs.length) Live.new rfl ((h.pre hP1).app.has) (by rw [triL_len]) (by omega) (by omega) fun u N2 hN2 hu hu2 hk => ?_
    rw [List.length_append, List.length_singleton] at hN2 hu2 hk
    have hp12 : Pre N1 N2 := ⟨by omega, fun q hq => by rw [hk q (by omega) (by omega)]; exact List.getElem?_append_left hq⟩
    have hcl : 1 + cs.length = (c :: cs).length := by simp; omega
    rw [hcl]
    have hu' : Live N2 u (.row (triL (c :: cs)) true 3) := hu
    have hul := hu'.lt
    simp (disch := omega) only [f2, f3, f4, f6, f7, ↓SXd, SXu, slBounds, ↓sop, ↓aop, ↓reduceIte, LV.cells, AOp.dst, LV.I, LV.B, LV.U, LV.S, LV.nil, Nat.reduceEqDiff, Nat.reduceAdd, Nat.reduceMul, Nat.reduceSub, Nat.reduceLeDiff, Nat.reduceBEq, Nat.reduceDiv, Nat.reduceMod, Int.reduceToNat, Int.reduceLT, Int.reduceLE, Int.reduceAdd, Int.reduceSub, Int.reduceMul, Int.reduceEq, Int.reduceNeg, reduceCtorEq, resV, resAll, ARes.ev, LV.flat, ite_true, ite_false, exists_eq_left', exists_eq_left, keyOf, implies_true, fillC, capOf]
    refine ⟨⟨fun b hb => by rw [hk _ (by omega) (by omega)]; exact hb, fun b hb => by rw [hk _ (by omega) (by omega)]; exact hb⟩, ?_⟩
    refine callK_of (h_l2Made hul) ?_
    simp (disch := omega) only [f2, f3, f4, f6, f7, ↓SXd, SXu, slBounds, ↓sop, ↓aop, ↓reduceIte, LV.cells, AOp.dst, LV.I, LV.B, LV.U, LV.S, LV.nil, Nat.reduceEqDiff, Nat.reduceAdd, Nat.reduceMul, Nat.reduceSub, Nat.reduceLeDiff, Nat.reduceBEq, Nat.reduceDiv, Nat.reduceMod, Int.reduceToNat, Int.reduceLT, Int.reduceLE, Int.reduceAdd, Int.reduceSub, Int.reduceMul, Int.reduceEq, Int.reduceNeg, reduceCtorEq, resV, resAll, ARes.ev, LV.flat, ite_true, ite_false, exists_eq_left', exists_eq_left, keyOf, implies_true, fillC, capOf]
    have hnsm : Small (negD c) := by unfold negD Small; simp only; omega
    have hcsm : ∀ e ∈ c :: cs, Small e := fun e he => by
      rcases List.mem_cons.1 he with rfl | he
      · unfold Small; omega
      · exact cells_small hH e he
    have hmv := h_l2Moved (x := x) (y := y) (z := z) (p := negD c) hu'.has (by simp; omega) hnsm hcsm
    have hLl : ((c :: cs).map (shift (negD c))).length = cs.length + 1 := by simp
    generalize (c :: cs).map (shift (negD c)) = L at hmv hLl
    refine callN_of hmv ?_
    intro tl N3 htl hp23 hL3
    have hp13 := hp12.trans hp23
    have d4 := c4.pre hp13
    have d8 := c8.pre hp13
    have d9 := c9.pre hp13
    have hP3 := hP1.trans hp13
    simp (disch := omega) only [f2, f3, f4, f6, f7, ↓SXd, SXu, slBounds, ↓sop, ↓aop, ↓reduceIte, LV.cells, AOp.dst, LV.I, LV.B, LV.U, LV.S, LV.nil, Nat.reduceEqDiff, Nat.reduceAdd, Nat.reduceMul, Nat.reduceSub, Nat.reduceLeDiff, Nat.reduceBEq, Nat.reduceDiv, Nat.reduceMod, Int.reduceToNat, Int.reduceLT, Int.reduceLE, Int.reduceAdd, Int.reduceSub, Int.reduceMul, Int.reduceEq, Int.reduceNeg, reduceCtorEq, resV, resAll, ARes.ev, LV.flat, ite_true, ite_false, exists_eq_left', exists_eq_left, keyOf, implies_true, fillC, capOf]
    refine ev_loop (fun m fr M' => ∃ (i uo : Nat) (ds : List Cell), i + m = L.length ∧ Pre M M' ∧ Live M' (M.length + 2) (.row [.I 0, .I 0, .I 0, .nil] true 0) ∧ Live M' (M.length + 5) (.row [.I 4, .I 4, .I 4, .ref uo 0 ds.length] true 0) ∧ Live M' uo (.row (triL ds) true 3) ∧ Live M' tl (.row (triL L) true 3) ∧ M.length ≤ uo ∧ HeapOK 4 4 4 ds ∧ (0 < i → 0 < ds.length) ∧
      fr 4 = .ptr (M.length + 2) 0 ∧ fr 8 = .ptr (M.length + 5) 0 ∧ fr 9 = .ref tl 0 L.length ∧ fr 10 = .I i) L.length
      ⟨0, M.length + 4, [], by omega, hP3, d4, d8, d9, hL3, by omega, HeapOK.of sides4 List.Pairwise.nil (by simp), by omega, f4, rfl, rfl, rfl⟩ ?_
    clear f2 f3 f4 f6 f7
    rintro m fr M' ⟨i, uo, ds, hi, hpre', b4', b8, bo, bL, huo, hO, hne, f4, f8, f9, f10⟩
    simp (disch := omega) only [f4, f8, f9, f10, ↓SXd, SXu, slBounds, ↓sop, ↓aop, ↓reduceIte, LV.cells, AOp.dst, LV.I, LV.B, LV.U, LV.S, LV.nil, Nat.reduceEqDiff, Nat.reduceAdd, Nat.reduceMul, Nat.reduceSub, Nat.reduceLeDiff, Nat.reduceBEq, Nat.reduceDiv, Nat.reduceMod, Int.reduceToNat, Int.reduceLT, Int.reduceLE, Int.reduceAdd, Int.reduceSub, Int.reduceMul, Int.reduceEq, Int.reduceNeg, reduceCtorEq, resV, resAll, ARes.ev, LV.flat, ite_true, ite_false, exists_eq_left', exists_eq_left, keyOf, implies_true, fillC, capOf]
    refine condC_dec (fun hlt => ?_) (fun hlt => ?_)
    · have hil : i < L.length := by omega
      have hg := bL.tri0 hil
      generalize hge : L.getD i default = e at hg
      simp (disch := omega) only [f4, f8, f9, f10, b8.cells, hg, Cell.row, Nat.mul_one, ↓SXd, SXu, slBounds, ↓sop, ↓aop, ↓reduceIte, LV.cells, AOp.dst, LV.I, LV.B, LV.U, LV.S, LV.nil, Nat.reduceEqDiff, Nat.reduceAdd, Nat.reduceMul, Nat.reduceSub, Nat.reduceLeDiff, Nat.reduceBEq, Nat.reduceDiv, Nat.reduceMod, Int.reduceToNat, Int.reduceLT, Int.reduceLE, Int.reduceAdd, Int.reduceSub, Int.reduceMul, Int.reduceEq, Int.reduceNeg, reduceCtorEq, resV, resAll, ARes.ev, LV.flat, ite_true, ite_false, exists_eq_left', exists_eq_left, keyOf, implies_true, fillC, capOf]
      refine callK_of (h_l2In sides4) ?_
      simp (disch := omega) only [f4, f8, f9, f10, ↓SXd, SXu, slBounds, ↓sop, ↓aop, ↓reduceIte, LV.cells, AOp.dst, LV.I, LV.B, LV.U, LV.S, LV.nil, Nat.reduceEqDiff, Nat.reduceAdd, Nat.reduceMul, Nat.reduceSub, Nat.reduceLeDiff, Nat.reduceBEq, Nat.reduceDiv, Nat.reduceMod, Int.reduceToNat, Int.reduceLT, Int.reduceLE, Int.reduceAdd, Int.reduceSub, Int.reduceMul, Int.reduceEq, Int.reduceNeg, reduceCtorEq, resV, resAll, ARes.ev, LV.flat, ite_true, ite_false, exists_eq_left', exists_eq_left, keyOf, implies_true, fillC, capOf]
      rw [cell_eta]
      by_cases hin : e.inBox 4 4 4
      · rw [decide_eq_true hin]
        have hbl := b8.lt
        simp (disch := omega) only [f4, f8, f9, f10, b8.cells, hg, Cell.row, Nat.mul_one, ↓SXd, SXu, slBounds, ↓sop, ↓aop, ↓reduceIte, LV.cells, AOp.dst, LV.I, LV.B, LV.U, LV.S, LV.nil, Nat.reduceEqDiff, Nat.reduceAdd, Nat.reduceMul, Nat.reduceSub, Nat.reduceLeDiff, Nat.reduceBEq, Nat.reduceDiv, Nat.reduceMod, Int.reduceToNat, Int.reduceLT, Int.reduceLE, Int.reduceAdd, Int.reduceSub, Int.reduceMul, Int.reduceEq, Int.reduceNeg, reduceCtorEq, resV, resAll, ARes.ev, LV.flat, ite_true, ite_false, exists_eq_left', exists_eq_left, keyOf, implies_true, fillC, capOf]
        refine callH_of (h_l2With bo hO hin) ?_
        intro u2 N4 hu2 hp4 hb2
        have hN4 := hp4.1
        simp (disch := omega) only [f4, f8, f9, f10, ↓SXd, SXu, slBounds, ↓sop, ↓aop, ↓reduceIte, LV.cells, AOp.dst, LV.I, LV.B, LV.U, LV.S, LV.nil, Nat.reduceEqDiff, Nat.reduceAdd, Nat.reduceMul, Nat.reduceSub, Nat.reduceLeDiff, Nat.reduceBEq, Nat.reduceDiv, Nat.reduceMod, Int.reduceToNat, Int.reduceLT, Int.reduceLE, Int.reduceAdd, Int.reduceSub, Int.reduceMul, Int.reduceEq, Int.reduceNeg, reduceCtorEq, resV, resAll, ARes.ev, LV.flat, ite_true, ite_false, exists_eq_left', exists_eq_left, keyOf, implies_true, fillC, capOf]
        refine memK_box (b8.pre hp4) (by simp) fun N5 k1 k2 k3 => ?_
        simp (disch := omega) only [f4, f8, f9, f10, ↓SXd, SXu, slBounds, ↓sop, ↓aop, ↓reduceIte, LV.cells, AOp.dst, LV.I, LV.B, LV.U, LV.S, LV.nil, Nat.reduceEqDiff, Nat.reduceAdd, Nat.reduceMul, Nat.reduceSub, Nat.reduceLeDiff, Nat.reduceBEq, Nat.reduceDiv, Nat.reduceMod, Int.reduceToNat, Int.reduceLT, Int.reduceLE, Int.reduceAdd, Int.reduceSub, Int.reduceMul, Int.reduceEq, Int.reduceNeg, reduceCtorEq, resV, resAll, ARes.ev, LV.flat, ite_true, ite_false, exists_eq_left', exists_eq_left, keyOf, implies_true, fillC, capOf]
        refine ⟨m - 1, by omega, i + 1, u2, _, by omega, pre_step (hpre'.trans hp4) (by omega) (j := 0) k1 k3, live_step (b4'.pre hp4) (by omega) k3, k2, live_step hb2 (by omega) k3, live_step (bL.pre hp4) (by omega) k3, by have := hpre'.1; omega, pick_ok sides4 _, fun _ => ?_, f4, f8, f9, eqI (natI _)⟩
        exact List.length_pos_of_mem ((mem_pick sides4).2 ⟨hin, by simp⟩)
      · rw [decide_eq_false hin]
        simp (disch := omega) only [f4, f8, f9, f10, splice, ↓SXd, SXu, slBounds, ↓sop, ↓aop, ↓reduceIte, LV.cells, AOp.dst, LV.I, LV.B, LV.U, LV.S, LV.nil, Nat.reduceEqDiff, Nat.reduceAdd, Nat.reduceMul, Nat.reduceSub, Nat.reduceLeDiff, Nat.reduceBEq, Nat.reduceDiv, Nat.reduceMod, Int.reduceToNat, Int.reduceLT, Int.reduceLE, Int.reduceAdd, Int.reduceSub, Int.reduceMul, Int.reduceEq, Int.reduceNeg, reduceCtorEq, resV, resAll, ARes.ev, LV.flat, ite_true, ite_false, exists_eq_left', exists_eq_left, keyOf, implies_true, fillC, capOf]
        refine memK_box b4' (by simp) fun N5 k1 k2 k3 => ?_
        simp (disch := omega) only [f4, f8, f9, f10, k2.cells, ↓SXd, SXu, slBounds, ↓sop, ↓aop, ↓reduceIte, LV.cells, AOp.dst, LV.I, LV.B, LV.U, LV.S, LV.nil, Nat.reduceEqDiff, Nat.reduceAdd, Nat.reduceMul, Nat.reduceSub, Nat.reduceLeDiff, Nat.reduceBEq, Nat.reduceDiv, Nat.reduceMod, Int.reduceToNat, Int.reduceLT, Int.reduceLE, Int.reduceAdd, Int.reduceSub, Int.reduceMul, Int.reduceEq, Int.reduceNeg, reduceCtorEq, resV, resAll, ARes.ev, LV.flat, ite_true, ite_false, exists_eq_left', exists_eq_left, keyOf, implies_true, fillC, capOf]
        exact ⟨.inl rfl, pre_step hpre' (by omega) (j := 0) k1 k3⟩
    · have hiL : i = L.length := by omega
      simp (disch := omega) only [f4, f8, f9, f10, b8.cells, ↓SXd, SXu, slBounds, ↓sop, ↓aop, ↓reduceIte, LV.cells, AOp.dst, LV.I, LV.B, LV.U, LV.S, LV.nil, Nat.reduceEqDiff, Nat.reduceAdd, Nat.reduceMul, Nat.reduceSub, Nat.reduceLeDiff, Nat.reduceBEq, Nat.reduceDiv, Nat.reduceMod, Int.reduceToNat, Int.reduceLT, Int.reduceLE, Int.reduceAdd, Int.reduceSub, Int.reduceMul, Int.reduceEq, Int.reduceNeg, reduceCtorEq, resV, resAll, ARes.ev, LV.flat, ite_true, ite_false, exists_eq_left', exists_eq_left, keyOf, implies_true, fillC, capOf]
      refine memK_box b4' (by simp) fun N5 k1 k2 k3 => ?_
      simp (disch := omega) only [f4, f8, f9, f10, k2.cells, ↓SXd, SXu, slBounds, ↓sop, ↓aop, ↓reduceIte, LV.cells, AOp.dst, LV.I, LV.B, LV.U, LV.S, LV.nil, Nat.reduceEqDiff, Nat.reduceAdd, Nat.reduceMul, Nat.reduceSub, Nat.reduceLeDiff, Nat.reduceBEq, Nat.reduceDiv, Nat.reduceMod, Int.reduceToNat, Int.reduceLT, Int.reduceLE, Int.reduceAdd, Int.reduceSub, Int.reduceMul, Int.reduceEq, Int.reduceNeg, reduceCtorEq, resV, resAll, ARes.ev, LV.flat, ite_true, ite_false, exists_eq_left', exists_eq_left, keyOf, implies_true, fillC, capOf]
      exact ⟨.inr ⟨uo, ds, rfl, hO, hne (by omega), live_step bo (bo.ne_esz b4' (by decide)) k3, huo⟩, pre_step hpre' (by omega) (j := 0) k1 k3⟩
end Go.Ab

/- The abstract code of some functions (written by a program of mine from the translation, by way of prepF). -/
namespace Go.Ab.C
open Go.Ab
def impl_CropHeap : AFn :=
  ⟨1, 76, [.cellN 2 4, .tmp 3],
    .seq (.ops [(none, .box 1 (.t 0)),
       (none, .alloc 2 [(.I 0), (.I 0), (.I 0), .nil]),
       (none, .mv 3 (.c (.B false)))])
    (.seq (.seq (.ops [(none, .loadN 10 4 (.t 1)),
         (none, .call (some 11) F.impl_IsHeap [(.t 10)]),
         (none, .un 12 .not (.t 11)),
         (none, .mv 13 (.t 12)),
         (some (13, false), .fieldAddr 14 (.t 1) 3),
         (some (13, false), .load1 15 (.t 14)),
         (some (13, false), .len 16 (.t 15)),
         (some (13, false), .bin 17 .eql (.t 16) (.c (.I 0))),
         (none, .pick 18 (.t 13) (.c (.B true)) (.t 17))])
      (.cond (.t 18) (.seq (.ops [(none, .build 19 [(.I 0), (.I 0), (.I 0), .nil] []),
           (none, .store 4 (.t 2) (.t 19)),
           (none, .mv 3 (.c (.B false)))])
        (.ret))
       (.skip)))
     (.seq (.draw [⟨(none, .fieldAddr 20 (.t 1) 3), [], []⟩,
         ⟨(none, .load1 21 (.t 20)), [], []⟩,
         ⟨(none, .idxS 22 3 (.t 21) (.c (.I 0))), [], []⟩,
         ⟨(none, .loadN 23 3 (.t 22)), [], []⟩,
         ⟨(none, .fieldAddr 24 (.t 1) 3), [], []⟩,
         ⟨(none, .load1 25 (.t 24)), [], []⟩,
         ⟨(none, .idxS 26 3 (.t 25) (.c (.I 0))), [], []⟩,
         ⟨(none, .loadN 27 3 (.t 26)), [], []⟩,
         ⟨(none, .alloc 4 [(.I 0), (.I 0), (.I 0)]), [], []⟩,
         ⟨(none, .alloc 5 [(.I 0), (.I 0), (.I 0)]), [], []⟩,
         ⟨(none, .store 3 (.t 4) (.t 23)), [], [4, 5, 6, 7]⟩,
         ⟨(none, .store 3 (.t 5) (.t 27)), [], []⟩])
      (.seq (.seq (.ops [(none, .fieldAddr 28 (.t 1) 3),
           (none, .load1 29 (.t 28)),
           (none, .len 30 (.t 29)),
           (none, .mv 31 (.c (.I 0)))])
        (.block 0 (.loop (.seq (.ops [(none, .bin 32 .lss (.t 31) (.t 30))])
           (.seq (.cond (.t 32) (.skip)
             (.exit 0))
            (.seq (.block 1 (.seq (.ops [(none, .idxS 33 3 (.t 29) (.t 31)),
                  (none, .loadN 34 3 (.t 33)),
                  (none, .alloc 7 [(.I 0), (.I 0), (.I 0)]),
                  (none, .store 3 (.t 7) (.t 34))])
               (.seq (.ops [(none, .mv 35 (.c (.I 0)))])
                (.block 2 (.loop (.seq (.ops [(none, .bin 36 .lss (.t 35) (.c (.I 3)))])
                   (.seq (.cond (.t 36) (.skip)
                     (.exit 2))
                    (.seq (.block 3 (.seq (.ops [(none, .mv 37 (.t 35)),
                          (none, .mv 8 (.t 37))])
                       (.draw [⟨(none, .mv 38 (.t 8)), [], []⟩,
                          ⟨(none, .mv 39 (.t 8)), [], []⟩,
                          ⟨(none, .mv 40 (.t 8)), [], []⟩,
                          ⟨(none, .idxA 41 3 1 (.t 4) (.t 40)), [], []⟩,
                          ⟨(none, .load1 42 (.t 41)), [], []⟩,
                          ⟨(none, .mv 43 (.t 8)), [], []⟩,
                          ⟨(none, .idxA 44 3 1 (.t 7) (.t 43)), [], []⟩,
                          ⟨(none, .load1 45 (.t 44)), [], []⟩,
                          ⟨(none, .mm 46 false [(.t 42), (.t 45)]), [], []⟩,
                          ⟨(none, .mv 47 (.t 8)), [], []⟩,
                          ⟨(none, .idxA 48 3 1 (.t 5) (.t 47)), [], []⟩,
                          ⟨(none, .load1 49 (.t 48)), [], []⟩,
                          ⟨(none, .mv 50 (.t 8)), [], []⟩,
                          ⟨(none, .idxA 51 3 1 (.t 7) (.t 50)), [], []⟩,
                          ⟨(none, .load1 52 (.t 51)), [], []⟩,
                          ⟨(none, .mm 53 true [(.t 49), (.t 52)]), [], []⟩,
                          ⟨(none, .idxA 54 3 1 (.t 4) (.t 38)), [], []⟩,
                          ⟨(none, .store 1 (.t 54) (.t 46)), [], [1, 9, 10, 11, 12, 13, 14, 15]⟩,
                          ⟨(none, .idxA 55 3 1 (.t 5) (.t 39)), [], []⟩,
                          ⟨(none, .store 1 (.t 55) (.t 53)), [], []⟩])))
                     (.ops [(none, .bin 56 .add (.t 35) (.c (.I 1))),
                        (none, .mv 35 (.t 56))])))))))))
             (.ops [(none, .bin 57 .add (.t 31) (.c (.I 1))),
                (none, .mv 31 (.t 57))])))))))
       (.seq (.ops [(none, .idxA 58 3 1 (.t 4) (.c (.I 0))),
           (none, .load1 59 (.t 58)),
           (none, .un 60 .neg (.t 59)),
           (none, .idxA 61 3 1 (.t 4) (.c (.I 1))),
           (none, .load1 62 (.t 61)),
           (none, .un 63 .neg (.t 62)),
           (none, .idxA 64 3 1 (.t 4) (.c (.I 2))),
           (none, .load1 65 (.t 64)),
           (none, .un 66 .neg (.t 65)),
           (none, .build 67 [(.I 0), (.I 0), (.I 0)] [(0, 1, (.t 60)), (1, 1, (.t 63)), (2, 1, (.t 66))]),
           (none, .alloc 9 [(.I 0), (.I 0), (.I 0)]),
           (none, .store 3 (.t 9) (.t 67))])
        (.seq (.draw [⟨(none, .loadN 68 4 (.t 1)), [], []⟩,
            ⟨(none, .loadN 69 3 (.t 5)), [], []⟩,
            ⟨(none, .loadN 70 3 (.t 9)), [], []⟩,
            ⟨(none, .build 72 [(.I 0), (.I 0), (.I 0)] [(0, 1, (.c (.I 1))), (1, 1, (.c (.I 1))), (2, 1, (.c (.I 1)))]), [], []⟩,
            ⟨(none, .mkf 74 F.impl_CropHeap_1 [(.t 9)]), [], []⟩,
            ⟨(none, .call (some 71) F.impl_added [(.t 69), (.t 70)]), [], [0, 3, 4]⟩,
            ⟨(none, .call (some 73) F.impl_added [(.t 71), (.t 72)]), [], [0, 4]⟩,
            ⟨(none, .call (some 75) F.impl_Heap_moved [(.t 68), (.t 73), (.t 74)]), [], []⟩,
            ⟨(none, .store 4 (.t 2) (.t 75)), [], []⟩,
            ⟨(none, .mv 3 (.c (.B true))), [], []⟩])
         (.ret))))))⟩
def impl_CropHeap_1 : AFn :=
  ⟨2, 7, [.cellN 3 3],
    .seq (.ops [(none, .box 2 (.t 0)),
       (none, .alloc 3 [(.I 0), (.I 0), (.I 0)])])
    (.seq (.ops [(none, .loadN 4 3 (.t 2)),
        (none, .loadN 5 3 (.t 1)),
        (none, .call (some 6) F.impl_added [(.t 4), (.t 5)]),
        (none, .store 3 (.t 3) (.t 6))])
     (.ret))⟩
def impl_added : AFn :=
  ⟨2, 21, [.cellN 4 3],
    .seq (.ops [(none, .box 2 (.t 0)),
       (none, .box 3 (.t 1)),
       (none, .alloc 4 [(.I 0), (.I 0), (.I 0)])])
    (.seq (.ops [(none, .idxA 5 3 1 (.t 2) (.c (.I 0))),
        (none, .load1 6 (.t 5)),
        (none, .idxA 7 3 1 (.t 3) (.c (.I 0))),
        (none, .load1 8 (.t 7)),
        (none, .bin 9 .add (.t 6) (.t 8)),
        (none, .idxA 10 3 1 (.t 2) (.c (.I 1))),
        (none, .load1 11 (.t 10)),
        (none, .idxA 12 3 1 (.t 3) (.c (.I 1))),
        (none, .load1 13 (.t 12)),
        (none, .bin 14 .add (.t 11) (.t 13)),
        (none, .idxA 15 3 1 (.t 2) (.c (.I 2))),
        (none, .load1 16 (.t 15)),
        (none, .idxA 17 3 1 (.t 3) (.c (.I 2))),
        (none, .load1 18 (.t 17)),
        (none, .bin 19 .add (.t 16) (.t 18)),
        (none, .build 20 [(.I 0), (.I 0), (.I 0)] [(0, 1, (.t 9)), (1, 1, (.t 14)), (2, 1, (.t 19))]),
        (none, .store 3 (.t 4) (.t 20))])
     (.ret))⟩
end Go.Ab.C

/- That the program has this code. -/
namespace Go.Ab.K
open Go Go.Ab
theorem impl_CropHeap : prepF Go.Proofs.Tryz.prog F.impl_CropHeap = some C.impl_CropHeap := by kernel_rfl
theorem impl_CropHeap_1 : prepF Go.Proofs.Tryz.prog F.impl_CropHeap_1 = some C.impl_CropHeap_1 := by kernel_rfl
theorem impl_added : prepF Go.Proofs.Tryz.prog F.impl_added = some C.impl_added := by kernel_rfl
end Go.Ab.K

/- The abstract code of some functions (written by a program of mine from the translation, by way of prepF). -/
namespace Go.Ab.C
open Go.Ab
def impl_Heap_moved : AFn :=
  ⟨3, 29, [.cellN 6 4],
    .seq (.ops [(none, .box 3 (.t 0)),
       (none, .box 4 (.t 1)),
       (none, .alloc 6 [(.I 0), (.I 0), (.I 0), .nil])])
    (.seq (.ops [(none, .mv 7 (.c (.U 0)))])
     (.seq (.seq (.ops [(none, .fieldAddr 10 (.t 3) 3),
          (none, .load1 11 (.t 10)),
          (none, .len 12 (.t 11)),
          (none, .mv 13 (.c (.I 0)))])
       (.block 0 (.loop (.seq (.ops [(none, .bin 14 .lss (.t 13) (.t 12))])
          (.seq (.cond (.t 14) (.skip)
            (.exit 0))
           (.seq (.block 1 (.seq (.ops [(none, .idxS 15 3 (.t 11) (.t 13)),
                 (none, .loadN 16 3 (.t 15)),
                 (none, .alloc 9 [(.I 0), (.I 0), (.I 0)]),
                 (none, .store 3 (.t 9) (.t 16))])
              (.draw [⟨(none, .mv 17 (.t 7)), [], []⟩,
                 ⟨(none, .loadN 18 3 (.t 4)), [], []⟩,
                 ⟨(none, .mv 19 (.t 2)), [], []⟩,
                 ⟨(none, .loadN 20 3 (.t 9)), [], []⟩,
                 ⟨(none, .callV (some 21) (.t 19) [(.t 20)]), [], [0, 1]⟩,
                 ⟨(none, .call (some 22) F.impl_box_index [(.t 18), (.t 21)]), [], [0]⟩,
                 ⟨(none, .bin 23 .shl (.c (.U 1)) (.t 22)), [], []⟩,
                 ⟨(none, .bin 24 .or (.t 17) (.t 23)), [], []⟩,
                 ⟨(none, .mv 7 (.t 24)), [], []⟩])))
            (.ops [(none, .bin 25 .add (.t 13) (.c (.I 1))),
               (none, .mv 13 (.t 25))])))))))
      (.seq (.ops [(none, .loadN 26 3 (.t 4)),
          (none, .mv 27 (.t 7)),
          (none, .call (some 28) F.impl_box_heap [(.t 26), (.t 27)]),
          (none, .store 4 (.t 6) (.t 28))])
       (.ret))))⟩
def impl_turning_of : AFn :=
  ⟨2, 29, [.cellN 4 4],
    .seq (.ops [(none, .box 2 (.t 0)),
       (none, .box 3 (.t 1)),
       (none, .alloc 4 [(.I 0), (.I 0), (.I 0), .nil])])
    (.seq (.ops [(none, .loadN 7 4 (.t 3)),
        (none, .call (some 8) F.impl_Heap_box [(.t 7)]),
        (none, .alloc 5 [(.I 0), (.I 0), (.I 0)]),
        (none, .store 3 (.t 5) (.t 8))])
     (.seq (.draw [⟨(none, .fieldAddr 9 (.t 2) 0), [], []⟩,
         ⟨(none, .idxA 10 3 1 (.t 9) (.c (.I 0))), [], []⟩,
         ⟨(none, .load1 11 (.t 10)), [], []⟩,
         ⟨(none, .idxA 12 3 1 (.t 5) (.t 11)), [], []⟩,
         ⟨(none, .load1 13 (.t 12)), [], []⟩,
         ⟨(none, .fieldAddr 14 (.t 2) 0), [], []⟩,
         ⟨(none, .idxA 15 3 1 (.t 14) (.c (.I 1))), [], []⟩,
         ⟨(none, .load1 16 (.t 15)), [], []⟩,
         ⟨(none, .idxA 17 3 1 (.t 5) (.t 16)), [], []⟩,
         ⟨(none, .load1 18 (.t 17)), [], []⟩,
         ⟨(none, .fieldAddr 19 (.t 2) 0), [], []⟩,
         ⟨(none, .idxA 20 3 1 (.t 19) (.c (.I 2))), [], []⟩,
         ⟨(none, .load1 21 (.t 20)), [], []⟩,
         ⟨(none, .idxA 22 3 1 (.t 5) (.t 21)), [], []⟩,
         ⟨(none, .load1 23 (.t 22)), [], []⟩,
         ⟨(none, .build 24 [(.I 0), (.I 0), (.I 0)] [(0, 1, (.t 13)), (1, 1, (.t 18)), (2, 1, (.t 23))]), [], []⟩,
         ⟨(none, .alloc 6 [(.I 0), (.I 0), (.I 0)]), [], []⟩,
         ⟨(none, .store 3 (.t 6) (.t 24)), [], []⟩])
      (.seq (.ops [(none, .loadN 25 4 (.t 3)),
          (none, .loadN 26 3 (.t 6)),
          (none, .mkf 27 F.impl_turning_of_1 [(.t 2), (.t 6)]),
          (none, .call (some 28) F.impl_Heap_moved [(.t 25), (.t 26), (.t 27)]),
          (none, .store 4 (.t 4) (.t 28))])
       (.ret))))⟩
def impl_turning_of_1 : AFn :=
  ⟨3, 37, [.cellN 4 3],
    .seq (.ops [(none, .box 3 (.t 0)),
       (none, .alloc 4 [(.I 0), (.I 0), (.I 0)])])
    (.seq (.ops [(none, .build 8 [(.I 0), (.I 0), (.I 0)] []),
        (none, .alloc 5 [(.I 0), (.I 0), (.I 0)]),
        (none, .store 3 (.t 5) (.t 8))])
     (.seq (.seq (.ops [(none, .fieldAddr 9 (.t 1) 0),
          (none, .loadN 10 3 (.t 9)),
          (none, .mv 11 (.c (.I 0)))])
       (.block 0 (.loop (.seq (.ops [(none, .bin 12 .lss (.t 11) (.c (.I 3)))])
          (.seq (.cond (.t 12) (.skip)
            (.exit 0))
           (.seq (.block 1 (.seq (.ops [(none, .mv 13 (.t 11)),
                 (none, .index 14 3 1 false (.t 10) (.t 11)),
                 (none, .mv 6 (.t 13)),
                 (none, .mv 7 (.t 14))])
              (.seq (.ops [(none, .mv 15 (.t 6)),
                  (none, .mv 16 (.t 7)),
                  (none, .idxA 17 3 1 (.t 3) (.t 16)),
                  (none, .load1 18 (.t 17)),
                  (none, .idxA 19 3 1 (.t 5) (.t 15)),
                  (none, .store 1 (.t 19) (.t 18))])
               (.seq (.ops [(none, .mv 20 (.t 6)),
                   (none, .fieldAddr 21 (.t 1) 3),
                   (none, .idxA 22 3 1 (.t 21) (.t 20)),
                   (none, .load1 23 (.t 22)),
                   (none, .bin 24 .eql (.t 23) (.c (.I 1)))])
                (.cond (.t 24) (.draw [⟨(none, .mv 25 (.t 6)), [], []⟩,
                    ⟨(none, .mv 26 (.t 6)), [], []⟩,
                    ⟨(none, .idxA 27 3 1 (.t 2) (.t 26)), [], []⟩,
                    ⟨(none, .load1 28 (.t 27)), [], []⟩,
                    ⟨(none, .bin 29 .sub (.t 28) (.c (.I 1))), [], []⟩,
                    ⟨(none, .mv 30 (.t 7)), [], []⟩,
                    ⟨(none, .idxA 31 3 1 (.t 3) (.t 30)), [], []⟩,
                    ⟨(none, .load1 32 (.t 31)), [], []⟩,
                    ⟨(none, .bin 33 .sub (.t 29) (.t 32)), [], []⟩,
                    ⟨(none, .idxA 34 3 1 (.t 5) (.t 25)), [], []⟩,
                    ⟨(none, .store 1 (.t 34) (.t 33)), [], []⟩])
                 (.skip))))))
            (.ops [(none, .bin 35 .add (.t 11) (.c (.I 1))),
               (none, .mv 11 (.t 35))])))))))
      (.seq (.ops [(none, .loadN 36 3 (.t 5)),
          (none, .store 3 (.t 4) (.t 36))])
       (.ret))))⟩
end Go.Ab.C

/- That the program has this code. -/
namespace Go.Ab.K
open Go Go.Ab
theorem impl_Heap_moved : prepF Go.Proofs.Tryz.prog F.impl_Heap_moved = some C.impl_Heap_moved := by kernel_rfl
theorem impl_turning_of : prepF Go.Proofs.Tryz.prog F.impl_turning_of = some C.impl_turning_of := by kernel_rfl
theorem impl_turning_of_1 : prepF Go.Proofs.Tryz.prog F.impl_turning_of_1 = some C.impl_turning_of_1 := by kernel_rfl
end Go.Ab.K

/- The abstract code of some functions (written by a program of mine from the translation, by way of prepF). -/
namespace Go.Ab.C
open Go.Ab
def impl_orders : AFn :=
  ⟨0, 8, [.tmp 0],
    .seq (.ops [(none, .mv 0 (.c .nil))])
    (.seq (.ops [(none, .build 1 [(.I 0), (.I 0), (.I 0)] [(0, 1, (.c (.I 0))), (1, 1, (.c (.I 1))), (2, 1, (.c (.I 2)))]),
        (none, .build 2 [(.I 0), (.I 0), (.I 0)] [(0, 1, (.c (.I 0))), (1, 1, (.c (.I 2))), (2, 1, (.c (.I 1)))]),
        (none, .build 3 [(.I 0), (.I 0), (.I 0)] [(0, 1, (.c (.I 1))), (1, 1, (.c (.I 0))), (2, 1, (.c (.I 2)))]),
        (none, .build 4 [(.I 0), (.I 0), (.I 0)] [(0, 1, (.c (.I 1))), (1, 1, (.c (.I 2))), (2, 1, (.c (.I 0)))]),
        (none, .build 5 [(.I 0), (.I 0), (.I 0)] [(0, 1, (.c (.I 2))), (1, 1, (.c (.I 0))), (2, 1, (.c (.I 1)))]),
        (none, .build 6 [(.I 0), (.I 0), (.I 0)] [(0, 1, (.c (.I 2))), (1, 1, (.c (.I 1))), (2, 1, (.c (.I 0)))]),
        (none, .buildSl 7 6 3 [(.I 0), (.I 0), (.I 0), (.I 0), (.I 0), (.I 0), (.I 0), (.I 0), (.I 0), (.I 0), (.I 0), (.I 0), (.I 0), (.I 0), (.I 0), (.I 0), (.I 0), (.I 0)] [(0, 3, (.t 1)), (3, 3, (.t 2)), (6, 3, (.t 3)), (9, 3, (.t 4)), (12, 3, (.t 5)), (15, 3, (.t 6))]),
        (none, .mv 0 (.t 7))])
     (.ret))⟩
def impl_turnings : AFn :=
  ⟨0, 66, [.tmp 0],
    .seq (.ops [(none, .mv 0 (.c .nil))])
    (.seq (.ops [(none, .buildSl 9 0 6 [] []),
        (none, .mv 1 (.t 9))])
     (.seq (.seq (.ops [(none, .call (some 10) F.impl_orders []),
          (none, .len 11 (.t 10)),
          (none, .mv 12 (.c (.I 0)))])
       (.block 0 (.loop (.seq (.ops [(none, .bin 13 .lss (.t 12) (.t 11))])
          (.seq (.cond (.t 13) (.skip)
            (.exit 0))
           (.seq (.block 1 (.seq (.ops [(none, .idxS 14 3 (.t 10) (.t 12)),
                 (none, .loadN 15 3 (.t 14)),
                 (none, .alloc 3 [(.I 0), (.I 0), (.I 0)]),
                 (none, .store 3 (.t 3) (.t 15))])
              (.seq (.ops [(none, .mv 4 (.c (.I 0)))])
               (.seq (.seq (.ops [(none, .mv 16 (.c (.I 0)))])
                 (.block 2 (.loop (.seq (.ops [(none, .bin 17 .lss (.t 16) (.c (.I 3)))])
                    (.seq (.cond (.t 17) (.skip)
                      (.exit 2))
                     (.seq (.block 3 (.seq (.ops [(none, .mv 18 (.t 16)),
                           (none, .mv 5 (.t 18))])
                        (.seq (.ops [(none, .mv 19 (.t 5)),
                            (none, .mv 20 (.c (.I 0)))])
                         (.block 4 (.loop (.seq (.ops [(none, .bin 21 .lss (.t 20) (.t 19))])
                            (.seq (.cond (.t 21) (.skip)
                              (.exit 4))
                             (.seq (.block 5 (.seq (.ops [(none, .mv 22 (.t 20)),
                                   (none, .mv 6 (.t 22))])
                                (.seq (.draw [⟨(none, .mv 23 (.t 6)), [], []⟩,
                                    ⟨(none, .idxA 24 3 1 (.t 3) (.t 23)), [], []⟩,
                                    ⟨(none, .load1 25 (.t 24)), [], []⟩,
                                    ⟨(none, .mv 26 (.t 5)), [], []⟩,
                                    ⟨(none, .idxA 27 3 1 (.t 3) (.t 26)), [], []⟩,
                                    ⟨(none, .load1 28 (.t 27)), [], []⟩,
                                    ⟨(none, .bin 29 .gtr (.t 25) (.t 28)), [], []⟩])
                                 (.cond (.t 29) (.ops [(none, .mv 30 (.t 4)),
                                     (none, .bin 31 .add (.t 30) (.c (.I 1))),
                                     (none, .mv 4 (.t 31))])
                                  (.skip)))))
                              (.ops [(none, .bin 32 .add (.t 20) (.c (.I 1))),
                                 (none, .mv 20 (.t 32))])))))))))
                      (.ops [(none, .bin 33 .add (.t 16) (.c (.I 1))),
                         (none, .mv 16 (.t 33))])))))))
                (.seq (.ops [(none, .mv 34 (.c (.I 0)))])
                 (.block 6 (.loop (.seq (.ops [(none, .bin 35 .lss (.t 34) (.c (.I 8)))])
                    (.seq (.cond (.t 35) (.skip)
                      (.exit 6))
                     (.seq (.block 7 (.seq (.ops [(none, .mv 36 (.t 34)),
                           (none, .mv 7 (.t 36))])
                        (.seq (.ops [(none, .mv 37 (.t 7)),
                            (none, .bin 38 .shr (.t 37) (.c (.U 2))),
                            (none, .mv 39 (.t 7)),
                            (none, .bin 40 .shr (.t 39) (.c (.U 1))),
                            (none, .bin 41 .and (.t 40) (.c (.I 1))),
                            (none, .mv 42 (.t 7)),
                            (none, .bin 43 .and (.t 42) (.c (.I 1))),
                            (none, .build 44 [(.I 0), (.I 0), (.I 0)] [(0, 1, (.t 38)), (1, 1, (.t 41)), (2, 1, (.t 43))]),
                            (none, .alloc 8 [(.I 0), (.I 0), (.I 0)]),
                            (none, .store 3 (.t 8) (.t 44))])
                         (.seq (.ops [(none, .mv 45 (.t 4)),
                             (none, .idxA 46 3 1 (.t 8) (.c (.I 0))),
                             (none, .load1 47 (.t 46)),
                             (none, .bin 48 .add (.t 45) (.t 47)),
                             (none, .idxA 49 3 1 (.t 8) (.c (.I 1))),
                             (none, .load1 50 (.t 49)),
                             (none, .bin 51 .add (.t 48) (.t 50)),
                             (none, .idxA 52 3 1 (.t 8) (.c (.I 2))),
                             (none, .load1 53 (.t 52)),
                             (none, .bin 54 .add (.t 51) (.t 53)),
                             (none, .bin 55 .rem (.t 54) (.c (.I 2))),
                             (none, .bin 56 .eql (.t 55) (.c (.I 0)))])
                          (.cond (.t 56) (.ops [(none, .mv 57 (.t 1)),
                              (none, .loadN 58 3 (.t 3)),
                              (none, .loadN 59 3 (.t 8)),
                              (none, .build 60 [(.I 0), (.I 0), (.I 0), (.I 0), (.I 0), (.I 0)] [(0, 3, (.t 58)), (3, 3, (.t 59))]),
                              (none, .buildSl 61 1 6 [(.I 0), (.I 0), (.I 0), (.I 0), (.I 0), (.I 0)] [(0, 6, (.t 60))]),
                              (none, .append 62 6 48 (.t 57) (.t 61)),
                              (none, .mv 1 (.t 62))])
                           (.skip))))))
                      (.ops [(none, .bin 63 .add (.t 34) (.c (.I 1))),
                         (none, .mv 34 (.t 63))])))))))))))
            (.ops [(none, .bin 64 .add (.t 12) (.c (.I 1))),
               (none, .mv 12 (.t 64))])))))))
      (.seq (.ops [(none, .mv 65 (.t 1)),
          (none, .mv 0 (.t 65))])
       (.ret))))⟩
end Go.Ab.C

/- That the program has this code. -/
namespace Go.Ab.K
open Go Go.Ab
theorem impl_orders : prepF Go.Proofs.Tryz.prog F.impl_orders = some C.impl_orders := by kernel_rfl
theorem impl_turnings : prepF Go.Proofs.Tryz.prog F.impl_turnings = some C.impl_turnings := by kernel_rfl
end Go.Ab.K

/- Contracts: the program's turns. -/
namespace Go.Ab
open Go
set_option linter.unusedSimpArgs false
set_option linter.unusedVariables false

def ordersL : List Cell := [⟨0, 1, 2⟩, ⟨0, 2, 1⟩, ⟨1, 0, 2⟩, ⟨1, 2, 0⟩, ⟨2, 0, 1⟩, ⟨2, 1, 0⟩]
theorem g_orders {M : Mem} : CallsTo PG F.impl_orders [] M (.ref M.length 0 6) (M ++ [some (.row (triL ordersL) true 3)]) := by
  refine calls_run K.impl_orders rfl ?_
  simp (disch := omega) only [C.impl_orders, splice, ↓SXd, SXu, slBounds, ↓sop, ↓aop, ↓reduceIte, LV.cells, AOp.dst, LV.I, LV.B, LV.U, LV.S, LV.nil, Nat.reduceEqDiff, Nat.reduceAdd, Nat.reduceMul, Nat.reduceSub, Nat.reduceLeDiff, Nat.reduceBEq, Nat.reduceDiv, Nat.reduceMod, Int.reduceToNat, Int.reduceLT, Int.reduceLE, Int.reduceAdd, Int.reduceSub, Int.reduceMul, Int.reduceEq, Int.reduceNeg, reduceCtorEq, resV, resAll, ARes.ev, LV.flat, ite_true, ite_false, exists_eq_left', exists_eq_left, keyOf, implies_true, fillC, capOf]
  exact cmp_keep1 (j := 0) (cs := triL ordersL) rfl (triL_lo _) (by simp [rn, rn0, rn1, keepR_n])

/-- The attempt at which an order's turns begin. -/
def nO (o : Nat) : Nat := if o = 0 then 8 else if o = 1 then 16 else if o = 2 then 24 else if o = 3 then 40 else if o = 4 then 48 else if o = 5 then 56 else 72
theorem orders_at {o : Nat} (ho : o < 6) : (∃ a b : Nat, a < 3 ∧ b < 3 ∧ a ≠ b ∧ ordersL.getD o default = ⟨a, b, 3 - a - b⟩ ∧ nO o = (a * 3 + b) * 8) ∧ turnsU (nO o + 8) = turnsU (nO (o + 1)) := by
  rcases (show o = 0 ∨ o = 1 ∨ o = 2 ∨ o = 3 ∨ o = 4 ∨ o = 5 by omega) with rfl | rfl | rfl | rfl | rfl | rfl
  · exact ⟨⟨0, 1, by decide, by decide, by decide, rfl, rfl⟩, by decide +kernel⟩
  · exact ⟨⟨0, 2, by decide, by decide, by decide, rfl, rfl⟩, by decide +kernel⟩
  · exact ⟨⟨1, 0, by decide, by decide, by decide, rfl, rfl⟩, by decide +kernel⟩
  · exact ⟨⟨1, 2, by decide, by decide, by decide, rfl, rfl⟩, by decide +kernel⟩
  · exact ⟨⟨2, 0, by decide, by decide, by decide, rfl, rfl⟩, by decide +kernel⟩
  · exact ⟨⟨2, 1, by decide, by decide, by decide, rfl, rfl⟩, by decide +kernel⟩
theorem sh_div {f : Nat} (hf : f < 8) : (f : Int).fdiv (2 ^ min 2 64) = ((f / 4 : Nat) : Int) := by
  rcases (show f = 0 ∨ f = 1 ∨ f = 2 ∨ f = 3 ∨ f = 4 ∨ f = 5 ∨ f = 6 ∨ f = 7 by omega) with rfl | rfl | rfl | rfl | rfl | rfl | rfl | rfl <;> decide +kernel

theorem g_turnings {M : Mem} : CallsTo PG F.impl_turnings [] M (.ref M.length 0 turns.length) (M ++ [some (.row (sixL turns) true 6)]) := by
  refine calls_run K.impl_turnings rfl ?_
  simp (disch := omega) only [C.impl_turnings, ↓SXd, SXu, slBounds, ↓sop, ↓aop, ↓reduceIte, LV.cells, AOp.dst, LV.I, LV.B, LV.U, LV.S, LV.nil, Nat.reduceEqDiff, Nat.reduceAdd, Nat.reduceMul, Nat.reduceSub, Nat.reduceLeDiff, Nat.reduceBEq, Nat.reduceDiv, Nat.reduceMod, Int.reduceToNat, Int.reduceLT, Int.reduceLE, Int.reduceAdd, Int.reduceSub, Int.reduceMul, Int.reduceEq, Int.reduceNeg, reduceCtorEq, resV, resAll, ARes.ev, LV.flat, ite_true, ite_false, exists_eq_left', exists_eq_left, keyOf, implies_true, fillC, capOf]
  refine callK_of (g_orders) ?_
  simp (disch := omega) only [↓SXd, SXu, slBounds, ↓sop, ↓aop, ↓reduceIte, LV.cells, AOp.dst, LV.I, LV.B, LV.U, LV.S, LV.nil, Nat.reduceEqDiff, Nat.reduceAdd, Nat.reduceMul, Nat.reduceSub, Nat.reduceLeDiff, Nat.reduceBEq, Nat.reduceDiv, Nat.reduceMod, Int.reduceToNat, Int.reduceLT, Int.reduceLE, Int.reduceAdd, Int.reduceSub, Int.reduceMul, Int.reduceEq, Int.reduceNeg, reduceCtorEq, resV, resAll, ARes.ev, LV.flat, ite_true, ite_false, exists_eq_left', exists_eq_left, keyOf, implies_true, fillC, capOf]
  refine ev_loop (fun m fr M' => ∃ o u : Nat, o + m = 6 ∧ Pre M M' ∧ M.length ≤ u ∧ u ≠ M.length + 1 ∧ Live M' (M.length + 1) (.row (triL ordersL) true 3) ∧ Live M' u (.row (sixL (turnsU (nO o))) true 6) ∧ fr 1 = .ref u 0 (turnsU (nO o)).length ∧ fr 10 = .ref (M.length + 1) 0 6 ∧ fr 11 = .I 6 ∧ fr 12 = .I o) 6
    ⟨0, M.length, rfl, Pre.app _ _, by omega, by omega, Live.newj rfl, by rw [show turnsU (nO 0) = [] by decide +kernel]; exact Live.new, by rw [show turnsU (nO 0) = [] by decide +kernel]; rfl, rfl, rfl, rfl⟩ ?_
  rintro m fr M' ⟨o, u, ho, hpre, hu, hu1, bo, bu, f1, f10, f11, f12⟩
  simp (disch := omega) only [f1, f10, f11, f12, ↓SXd, SXu, slBounds, ↓sop, ↓aop, ↓reduceIte, LV.cells, AOp.dst, LV.I, LV.B, LV.U, LV.S, LV.nil, Nat.reduceEqDiff, Nat.reduceAdd, Nat.reduceMul, Nat.reduceSub, Nat.reduceLeDiff, Nat.reduceBEq, Nat.reduceDiv, Nat.reduceMod, Int.reduceToNat, Int.reduceLT, Int.reduceLE, Int.reduceAdd, Int.reduceSub, Int.reduceMul, Int.reduceEq, Int.reduceNeg, reduceCtorEq, resV, resAll, ARes.ev, LV.flat, ite_true, ite_false, exists_eq_left', exists_eq_left, keyOf, implies_true, fillC, capOf]
  refine condC_dec (fun hlt => ?_) (fun hlt => ?_)
  rotate_left
  · simp (disch := omega) only [f1, f10, f11, f12, ↓SXd, SXu, slBounds, ↓sop, ↓aop, ↓reduceIte, LV.cells, AOp.dst, LV.I, LV.B, LV.U, LV.S, LV.nil, Nat.reduceEqDiff, Nat.reduceAdd, Nat.reduceMul, Nat.reduceSub, Nat.reduceLeDiff, Nat.reduceBEq, Nat.reduceDiv, Nat.reduceMod, Int.reduceToNat, Int.reduceLT, Int.reduceLE, Int.reduceAdd, Int.reduceSub, Int.reduceMul, Int.reduceEq, Int.reduceNeg, reduceCtorEq, resV, resAll, ARes.ev, LV.flat, ite_true, ite_false, exists_eq_left', exists_eq_left, keyOf, implies_true, fillC, capOf]
    have : o = 6 := by omega
    subst this
    have e : turnsU (nO 6) = turns := rfl
    rw [e] at bu f1 ⊢
    exact cmp_keepL hpre hu bu (sixL_lo _) (by simp [rn, rn0, rn1])
  · have ho6 : o < 6 := by omega
    obtain ⟨⟨a, b, ha3, hb3, hab, hc, hn⟩, hnx⟩ := orders_at ho6
    have hg := bo.tri0 (k := o) ho6
    rw [hc] at hg
    have hl := bo.lt
    have hlu := bu.lt
    simp (disch := omega) only [f1, f10, f11, f12, hg, splice, Cell.row, ↓SXd, SXu, slBounds, ↓sop, ↓aop, ↓reduceIte, LV.cells, AOp.dst, LV.I, LV.B, LV.U, LV.S, LV.nil, Nat.reduceEqDiff, Nat.reduceAdd, Nat.reduceMul, Nat.reduceSub, Nat.reduceLeDiff, Nat.reduceBEq, Nat.reduceDiv, Nat.reduceMod, Int.reduceToNat, Int.reduceLT, Int.reduceLE, Int.reduceAdd, Int.reduceSub, Int.reduceMul, Int.reduceEq, Int.reduceNeg, reduceCtorEq, resV, resAll, ARes.ev, LV.flat, ite_true, ite_false, exists_eq_left', exists_eq_left, keyOf, implies_true, fillC, capOf]
    have e3 : Live (M' ++ [some (.row (Cell.row ⟨a, b, 3 - a - b⟩) true 0)]) M'.length (.row (Cell.row ⟨a, b, 3 - a - b⟩) true 0) := Live.new
    have hp1 : Pre M' (M' ++ [some (.row (Cell.row ⟨a, b, 3 - a - b⟩) true 0)]) := Pre.app _ _
    refine ev_loop (fun m2 fr N => ∃ i : Nat, i + m2 = 3 ∧ N = M' ++ [some (.row (Cell.row ⟨a, b, 3 - a - b⟩) true 0)] ∧ fr 1 = .ref u 0 (turnsU (nO o)).length ∧ fr 10 = .ref (M.length + 1) 0 6 ∧ fr 11 = .I 6 ∧ fr 12 = .I o ∧ fr 3 = .ptr M'.length 0 ∧ fr 4 = .I (oddK ⟨a, b, 3 - a - b⟩ i 0) ∧ fr 16 = .I i) 3
      ⟨0, rfl, rfl, f1, f10, f11, f12, rfl, rfl, rfl⟩ ?_
    clear f1 f10 f11 f12
    rintro m2 fr N ⟨i, hi, rfl, f1, f10, f11, f12, f3, f4, f16⟩
    simp (disch := omega) only [f1, f10, f11, f12, f3, f4, f16, ↓SXd, SXu, slBounds, ↓sop, ↓aop, ↓reduceIte, LV.cells, AOp.dst, LV.I, LV.B, LV.U, LV.S, LV.nil, Nat.reduceEqDiff, Nat.reduceAdd, Nat.reduceMul, Nat.reduceSub, Nat.reduceLeDiff, Nat.reduceBEq, Nat.reduceDiv, Nat.reduceMod, Int.reduceToNat, Int.reduceLT, Int.reduceLE, Int.reduceAdd, Int.reduceSub, Int.reduceMul, Int.reduceEq, Int.reduceNeg, reduceCtorEq, resV, resAll, ARes.ev, LV.flat, ite_true, ite_false, exists_eq_left', exists_eq_left, keyOf, implies_true, fillC, capOf]
    refine condC_dec (fun hlt2 => ?_) (fun hlt2 => ?_)
    · simp (disch := omega) only [f1, f10, f11, f12, f3, f4, f16, ↓SXd, SXu, slBounds, ↓sop, ↓aop, ↓reduceIte, LV.cells, AOp.dst, LV.I, LV.B, LV.U, LV.S, LV.nil, Nat.reduceEqDiff, Nat.reduceAdd, Nat.reduceMul, Nat.reduceSub, Nat.reduceLeDiff, Nat.reduceBEq, Nat.reduceDiv, Nat.reduceMod, Int.reduceToNat, Int.reduceLT, Int.reduceLE, Int.reduceAdd, Int.reduceSub, Int.reduceMul, Int.reduceEq, Int.reduceNeg, reduceCtorEq, resV, resAll, ARes.ev, LV.flat, ite_true, ite_false, exists_eq_left', exists_eq_left, keyOf, implies_true, fillC, capOf]
      refine ev_loop (fun m3 fr N => ∃ k : Nat, k + m3 = i ∧ N = M' ++ [some (.row (Cell.row ⟨a, b, 3 - a - b⟩) true 0)] ∧ fr 1 = .ref u 0 (turnsU (nO o)).length ∧ fr 10 = .ref (M.length + 1) 0 6 ∧ fr 11 = .I 6 ∧ fr 12 = .I o ∧ fr 3 = .ptr M'.length 0 ∧ fr 4 = .I (oddK ⟨a, b, 3 - a - b⟩ i k) ∧ fr 16 = .I i ∧ fr 5 = .I i ∧ fr 19 = .I i ∧ fr 20 = .I k) i
        ⟨0, by omega, rfl, f1, f10, f11, f12, f3, f4, f16, rfl, rfl, rfl⟩ ?_
      clear f1 f10 f11 f12 f3 f4 f16
      rintro m3 fr N ⟨k, hk, rfl, f1, f10, f11, f12, f3, f4, f16, f5, f19, f20⟩
      simp (disch := omega) only [f1, f10, f11, f12, f3, f4, f16, f5, f19, f20, ↓SXd, SXu, slBounds, ↓sop, ↓aop, ↓reduceIte, LV.cells, AOp.dst, LV.I, LV.B, LV.U, LV.S, LV.nil, Nat.reduceEqDiff, Nat.reduceAdd, Nat.reduceMul, Nat.reduceSub, Nat.reduceLeDiff, Nat.reduceBEq, Nat.reduceDiv, Nat.reduceMod, Int.reduceToNat, Int.reduceLT, Int.reduceLE, Int.reduceAdd, Int.reduceSub, Int.reduceMul, Int.reduceEq, Int.reduceNeg, reduceCtorEq, resV, resAll, ARes.ev, LV.flat, ite_true, ite_false, exists_eq_left', exists_eq_left, keyOf, implies_true, fillC, capOf]
      refine condC_dec (fun hlt3 => ?_) (fun hlt3 => ?_)
      · obtain ⟨hb1, hb2⟩ := oddK_le (c := ⟨a, b, 3 - a - b⟩) (i := i) (k := k)
        have q1 := e3.cell (o := k)
        have q2 := e3.cell (o := i)
        rw [Cell.row_at (by omega)] at q1 q2
        simp (disch := omega) only [f1, f10, f11, f12, f3, f4, f16, f5, f19, f20, q1, q2, Nat.mul_one, ↓SXd, SXu, slBounds, ↓sop, ↓aop, ↓reduceIte, LV.cells, AOp.dst, LV.I, LV.B, LV.U, LV.S, LV.nil, Nat.reduceEqDiff, Nat.reduceAdd, Nat.reduceMul, Nat.reduceSub, Nat.reduceLeDiff, Nat.reduceBEq, Nat.reduceDiv, Nat.reduceMod, Int.reduceToNat, Int.reduceLT, Int.reduceLE, Int.reduceAdd, Int.reduceSub, Int.reduceMul, Int.reduceEq, Int.reduceNeg, reduceCtorEq, resV, resAll, ARes.ev, LV.flat, ite_true, ite_false, exists_eq_left', exists_eq_left, keyOf, implies_true, fillC, capOf]
        have hik : (i = 1 ∧ k = 0) ∨ (i = 2 ∧ k = 0) ∨ (i = 2 ∧ k = 1) := by omega
        refine condC_dec (fun hgt => ?_) (fun hgt => ?_)
        · simp (disch := omega) only [f1, f10, f11, f12, f3, f4, f16, f5, f19, f20, ↓SXd, SXu, slBounds, ↓sop, ↓aop, ↓reduceIte, LV.cells, AOp.dst, LV.I, LV.B, LV.U, LV.S, LV.nil, Nat.reduceEqDiff, Nat.reduceAdd, Nat.reduceMul, Nat.reduceSub, Nat.reduceLeDiff, Nat.reduceBEq, Nat.reduceDiv, Nat.reduceMod, Int.reduceToNat, Int.reduceLT, Int.reduceLE, Int.reduceAdd, Int.reduceSub, Int.reduceMul, Int.reduceEq, Int.reduceNeg, reduceCtorEq, resV, resAll, ARes.ev, LV.flat, ite_true, ite_false, exists_eq_left', exists_eq_left, keyOf, implies_true, fillC, capOf]
          refine ⟨m3 - 1, by omega, k + 1, by omega, rfl, f1, f10, f11, f12, f3, eqI ?_, f16, f5, f19, eqI (natI _)⟩
          rcases hik with ⟨rfl, rfl⟩ | ⟨rfl, rfl⟩ | ⟨rfl, rfl⟩ <;> simp [oddK, Cell.at] at hgt ⊢ <;> simp [hgt] <;> omega
        · simp (disch := omega) only [f1, f10, f11, f12, f3, f4, f16, f5, f19, f20, ↓SXd, SXu, slBounds, ↓sop, ↓aop, ↓reduceIte, LV.cells, AOp.dst, LV.I, LV.B, LV.U, LV.S, LV.nil, Nat.reduceEqDiff, Nat.reduceAdd, Nat.reduceMul, Nat.reduceSub, Nat.reduceLeDiff, Nat.reduceBEq, Nat.reduceDiv, Nat.reduceMod, Int.reduceToNat, Int.reduceLT, Int.reduceLE, Int.reduceAdd, Int.reduceSub, Int.reduceMul, Int.reduceEq, Int.reduceNeg, reduceCtorEq, resV, resAll, ARes.ev, LV.flat, ite_true, ite_false, exists_eq_left', exists_eq_left, keyOf, implies_true, fillC, capOf]
          refine ⟨m3 - 1, by omega, k + 1, by omega, rfl, f1, f10, f11, f12, f3, f4.trans (eqI ?_), f16, f5, f19, eqI (natI _)⟩
          rcases hik with ⟨rfl, rfl⟩ | ⟨rfl, rfl⟩ | ⟨rfl, rfl⟩ <;> simp [oddK, Cell.at] at hgt ⊢ <;> omega
      · simp (disch := omega) only [f1, f10, f11, f12, f3, f4, f16, f5, f19, f20, ↓SXd, SXu, slBounds, ↓sop, ↓aop, ↓reduceIte, LV.cells, AOp.dst, LV.I, LV.B, LV.U, LV.S, LV.nil, Nat.reduceEqDiff, Nat.reduceAdd, Nat.reduceMul, Nat.reduceSub, Nat.reduceLeDiff, Nat.reduceBEq, Nat.reduceDiv, Nat.reduceMod, Int.reduceToNat, Int.reduceLT, Int.reduceLE, Int.reduceAdd, Int.reduceSub, Int.reduceMul, Int.reduceEq, Int.reduceNeg, reduceCtorEq, resV, resAll, ARes.ev, LV.flat, ite_true, ite_false, exists_eq_left', exists_eq_left, keyOf, implies_true, fillC, capOf]
        have : k = i := by omega
        subst this
        refine ⟨m2 - 1, by omega, k + 1, by omega, rfl, f1, f10, f11, f12, f3, f4.trans (eqI ?_), eqI (natI _)⟩
        rcases (show k = 0 ∨ k = 1 ∨ k = 2 by omega) with rfl | rfl | rfl <;> simp [oddK]
    · simp (disch := omega) only [f1, f10, f11, f12, f3, f4, f16, ↓SXd, SXu, slBounds, ↓sop, ↓aop, ↓reduceIte, LV.cells, AOp.dst, LV.I, LV.B, LV.U, LV.S, LV.nil, Nat.reduceEqDiff, Nat.reduceAdd, Nat.reduceMul, Nat.reduceSub, Nat.reduceLeDiff, Nat.reduceBEq, Nat.reduceDiv, Nat.reduceMod, Int.reduceToNat, Int.reduceLT, Int.reduceLE, Int.reduceAdd, Int.reduceSub, Int.reduceMul, Int.reduceEq, Int.reduceNeg, reduceCtorEq, resV, resAll, ARes.ev, LV.flat, ite_true, ite_false, exists_eq_left', exists_eq_left, keyOf, implies_true, fillC, capOf]
      have : i = 3 := by omega
      subst this
      have hod : oddOf ⟨a, b, 3 - a - b⟩ = oddK ⟨a, b, 3 - a - b⟩ 3 0 % 2 := by simp [oddK, oddOf]
      obtain ⟨hb1, hb2⟩ := oddK_le (c := ⟨a, b, 3 - a - b⟩) (i := 3) (k := 0)
      generalize oddK ⟨a, b, 3 - a - b⟩ 3 0 = O at hod hb1 hb2 f4
      refine ev_loop (fun m4 fr N => ∃ f u : Nat, f + m4 = 8 ∧ Pre M N ∧ M.length ≤ u ∧ u ≠ M.length + 1 ∧ u ≠ M'.length ∧ M'.length < N.length ∧ Live N (M.length + 1) (.row (triL ordersL) true 3) ∧ Live N M'.length (.row (Cell.row ⟨a, b, 3 - a - b⟩) true 0) ∧ Live N u (.row (sixL (turnsU (nO o + f))) true 6) ∧ fr 1 = .ref u 0 (turnsU (nO o + f)).length ∧ fr 10 = .ref (M.length + 1) 0 6 ∧ fr 11 = .I 6 ∧ fr 12 = .I o ∧ fr 3 = .ptr M'.length 0 ∧ fr 4 = .I O ∧ fr 34 = .I f) 8
        ⟨0, u, rfl, hpre.trans hp1, hu, hu1, by omega, e3.lt, bo.app, e3, bu.app, f1, f10, f11, f12, f3, f4, rfl⟩ ?_
      clear f1 f10 f11 f12 f3 f4 f16 e3 hp1 bo bu hg hlu hl hpre
      rintro m4 fr N ⟨f, u, hf, hpre, hu, hu1, hu2, hNM, bo, e3, bu, f1, f10, f11, f12, f3, f4, f34⟩
      simp (disch := omega) only [f1, f10, f11, f12, f3, f4, f34, ↓SXd, SXu, slBounds, ↓sop, ↓aop, ↓reduceIte, LV.cells, AOp.dst, LV.I, LV.B, LV.U, LV.S, LV.nil, Nat.reduceEqDiff, Nat.reduceAdd, Nat.reduceMul, Nat.reduceSub, Nat.reduceLeDiff, Nat.reduceBEq, Nat.reduceDiv, Nat.reduceMod, Int.reduceToNat, Int.reduceLT, Int.reduceLE, Int.reduceAdd, Int.reduceSub, Int.reduceMul, Int.reduceEq, Int.reduceNeg, reduceCtorEq, resV, resAll, ARes.ev, LV.flat, ite_true, ite_false, exists_eq_left', exists_eq_left, keyOf, implies_true, fillC, capOf]
      refine condC_dec (fun hlt3 => ?_) (fun hlt3 => ?_)
      · obtain ⟨h1, h2, h3⟩ := sh_and (f := f) (by omega)
        have h4 := sh_div (f := f) (by omega)
        simp (disch := omega) only [f1, f10, f11, f12, f3, f4, f34, splice, h2, h3, h4, ↓SXd, SXu, slBounds, ↓sop, ↓aop, ↓reduceIte, LV.cells, AOp.dst, LV.I, LV.B, LV.U, LV.S, LV.nil, Nat.reduceEqDiff, Nat.reduceAdd, Nat.reduceMul, Nat.reduceSub, Nat.reduceLeDiff, Nat.reduceBEq, Nat.reduceDiv, Nat.reduceMod, Int.reduceToNat, Int.reduceLT, Int.reduceLE, Int.reduceAdd, Int.reduceSub, Int.reduceMul, Int.reduceEq, Int.reduceNeg, reduceCtorEq, resV, resAll, ARes.ev, LV.flat, ite_true, ite_false, exists_eq_left', exists_eq_left, keyOf, implies_true, fillC, capOf]
        have hta := turnAt_at (a := a) (b := b) (f := f) hb3 (by omega)
        have hus := turnsU_succ (n := nO o + f)
        rw [hn] at hus bu f1
        have hul := turnsU_len (n := (a * 3 + b) * 8 + f)
        have e8 := Live.new (M := N) (L := []) (b := .row [.I ((f / 4 : Nat) : Int), .I ((f / 2 % 2 : Nat) : Int), .I ((f % 2 : Nat) : Int)] true 0)
        have hp1 : Pre N (N ++ [some (.row [.I ((f / 4 : Nat) : Int), .I ((f / 2 % 2 : Nat) : Int), .I ((f % 2 : Nat) : Int)] true 0)]) := Pre.app _ _
        generalize N ++ [some (.row [.I ((f / 4 : Nat) : Int), .I ((f / 2 % 2 : Nat) : Int), .I ((f % 2 : Nat) : Int)] true 0)] = N1 at e8 hp1 ⊢
        have hN1 := hp1.1
        have c3 := e3.pre hp1
        have hlu := bu.lt
        refine condC_dec (fun hq => ?_) (fun hq => ?_)
        · rw [Int.tmod_eq_emod_of_nonneg (by omega)] at hq
          rw [if_pos ⟨hab, by rw [hod]; omega⟩] at hta
          rw [hta] at hus
          simp (disch := omega) only [f1, f10, f11, f12, f3, f4, f34, f1, e8.cells, c3.cells, Cell.row, splice, ↓SXd, SXu, slBounds, ↓sop, ↓aop, ↓reduceIte, LV.cells, AOp.dst, LV.I, LV.B, LV.U, LV.S, LV.nil, Nat.reduceEqDiff, Nat.reduceAdd, Nat.reduceMul, Nat.reduceSub, Nat.reduceLeDiff, Nat.reduceBEq, Nat.reduceDiv, Nat.reduceMod, Int.reduceToNat, Int.reduceLT, Int.reduceLE, Int.reduceAdd, Int.reduceSub, Int.reduceMul, Int.reduceEq, Int.reduceNeg, reduceCtorEq, resV, resAll, ARes.ev, LV.flat, ite_true, ite_false, exists_eq_left', exists_eq_left, keyOf, implies_true, fillC, capOf]
          refine appendK_1 (e := 6) (b := 48) (acc := sixL (turnsU ((a * 3 + b) * 8 + f))) (new := Turn.row ⟨⟨a, b, 3 - a - b⟩, ⟨((f / 4 : Nat) : Int), ((f / 2 % 2 : Nat) : Int), ((f % 2 : Nat) : Int)⟩⟩) (bu.pre hp1) (by rw [sixL_len]) rfl (by omega) (by omega) (by omega) fun N' l1 l2 l3 => ?_
          simp (disch := omega) only [f1, f10, f11, f12, f3, f4, f34, ↓SXd, SXu, slBounds, ↓sop, ↓aop, ↓reduceIte, LV.cells, AOp.dst, LV.I, LV.B, LV.U, LV.S, LV.nil, Nat.reduceEqDiff, Nat.reduceAdd, Nat.reduceMul, Nat.reduceSub, Nat.reduceLeDiff, Nat.reduceBEq, Nat.reduceDiv, Nat.reduceMod, Int.reduceToNat, Int.reduceLT, Int.reduceLE, Int.reduceAdd, Int.reduceSub, Int.reduceMul, Int.reduceEq, Int.reduceNeg, reduceCtorEq, resV, resAll, ARes.ev, LV.flat, ite_true, ite_false, exists_eq_left', exists_eq_left, keyOf, implies_true, fillC, capOf]
          refine ⟨m4 - 1, by omega, f + 1, N1.length + 1, by omega, pre_step (hpre.trans hp1) hu l1 l3, by have := hpre.1; omega, by have := hpre.1; omega, by omega, by omega, live_step (bo.pre hp1) (by omega) l3, live_step c3 (by omega) l3, ?_, ?_, f10, f11, f12, f3, f4, eqI (natI _)⟩
          · rw [← Nat.add_assoc, hn, hus, sixL_append]
            exact l2
          · rw [← Nat.add_assoc, hn, hus, List.length_append]; rfl
        · rw [Int.tmod_eq_emod_of_nonneg (by omega)] at hq
          rw [if_neg (fun h => hq (by have := h.2; rw [hod] at this; omega))] at hta
          rw [hta] at hus
          simp only [Option.toList, List.append_nil] at hus
          simp (disch := omega) only [f1, f10, f11, f12, f3, f4, f34, ↓SXd, SXu, slBounds, ↓sop, ↓aop, ↓reduceIte, LV.cells, AOp.dst, LV.I, LV.B, LV.U, LV.S, LV.nil, Nat.reduceEqDiff, Nat.reduceAdd, Nat.reduceMul, Nat.reduceSub, Nat.reduceLeDiff, Nat.reduceBEq, Nat.reduceDiv, Nat.reduceMod, Int.reduceToNat, Int.reduceLT, Int.reduceLE, Int.reduceAdd, Int.reduceSub, Int.reduceMul, Int.reduceEq, Int.reduceNeg, reduceCtorEq, resV, resAll, ARes.ev, LV.flat, ite_true, ite_false, exists_eq_left', exists_eq_left, keyOf, implies_true, fillC, capOf]
          refine ⟨m4 - 1, by omega, f + 1, u, by omega, hpre.trans hp1, hu, hu1, hu2, by omega, bo.pre hp1, c3, ?_, ?_, f10, f11, f12, f3, f4, eqI (natI _)⟩
          · rw [← Nat.add_assoc, hn, hus]; exact bu.pre hp1
          · rw [← Nat.add_assoc, hn, hus]; exact f1
      · simp (disch := omega) only [f1, f10, f11, f12, f3, f4, f34, ↓SXd, SXu, slBounds, ↓sop, ↓aop, ↓reduceIte, LV.cells, AOp.dst, LV.I, LV.B, LV.U, LV.S, LV.nil, Nat.reduceEqDiff, Nat.reduceAdd, Nat.reduceMul, Nat.reduceSub, Nat.reduceLeDiff, Nat.reduceBEq, Nat.reduceDiv, Nat.reduceMod, Int.reduceToNat, Int.reduceLT, Int.reduceLE, Int.reduceAdd, Int.reduceSub, Int.reduceMul, Int.reduceEq, Int.reduceNeg, reduceCtorEq, resV, resAll, ARes.ev, LV.flat, ite_true, ite_false, exists_eq_left', exists_eq_left, keyOf, implies_true, fillC, capOf]
        have : f = 8 := by omega
        subst this
        rw [hnx] at bu f1
        exact ⟨m - 1, by omega, o + 1, u, by omega, hpre, hu, hu1, bo, bu, f1, f10, f11, eqI (natI _)⟩
end Go.Ab

/- Contracts: the program's turned heaps. -/
namespace Go.Ab
open Go
set_option linter.unusedSimpArgs false
set_option linter.unusedVariables false

theorem g_moved {x y z X Y Z : Int} {t o : Nat} {cs : List Cell} {g : Cell → Cell} {f : FuncId} {caps : List (Nat × Nat)} {M : Mem} (h : Tri M t o cs) (hn : cs.length ≤ 1000000) (hS : Sides X Y Z) (hin : ∀ c ∈ cs, (g c).inBox X Y Z)
    (hf : ∀ M', Pre M M' → ∀ c ∈ cs, CallsTo PG f ([.agg [.I c.a, .I c.b, .I c.c]] ++ caps.map fun p => .ptr p.1 p.2) M' (.agg [.I (g c).a, .I (g c).b, .I (g c).c]) M') :
    CallsTo PG F.impl_Heap_moved [.agg [.I x, .I y, .I z, .ref t o cs.length], .agg [.I X, .I Y, .I Z], .clo f caps] M (.agg [.I X, .I Y, .I Z, .ref M.length 0 (pick X Y Z fun d => decide (d ∈ cs.map g)).length])
      (M ++ [some (.row (triL (pick X Y Z fun d => decide (d ∈ cs.map g))) true 3)]) := by
  have ht := h.lt
  refine calls_run K.impl_Heap_moved rfl ?_
  simp (disch := omega) only [C.impl_Heap_moved, ↓SXd, SXu, slBounds, ↓sop, ↓aop, ↓reduceIte, LV.cells, AOp.dst, LV.I, LV.B, LV.U, LV.S, LV.nil, Nat.reduceEqDiff, Nat.reduceAdd, Nat.reduceMul, Nat.reduceSub, Nat.reduceLeDiff, Nat.reduceBEq, Nat.reduceDiv, Nat.reduceMod, Int.reduceToNat, Int.reduceLT, Int.reduceLE, Int.reduceAdd, Int.reduceSub, Int.reduceMul, Int.reduceEq, Int.reduceNeg, reduceCtorEq, resV, resAll, ARes.ev, LV.flat, ite_true, ite_false, exists_eq_left', exists_eq_left, keyOf, implies_true, fillC, capOf]
  have hLl : (cs.map g).length = cs.length := List.length_map ..
  have hLg : ∀ i, i < cs.length → (cs.map g).getD i default = g (cs.getD i default) := fun i hi => by simp [hi]
  generalize cs.map g = L at hLl hLg ⊢
  refine ev_loop (fun m fr M' => ∃ i : Nat, i + m = cs.length ∧ Pre M M' ∧ Live M' M.length (.row [.I x, .I y, .I z, .ref t o cs.length] true 0) ∧ Live M' (M.length + 1) (.row [.I X, .I Y, .I Z] true 0) ∧ Live M' (M.length + 2) (.row [.I 0, .I 0, .I 0, .nil] true 0) ∧
    fr 2 = .clo f caps ∧ fr 3 = .ptr M.length 0 ∧ fr 4 = .ptr (M.length + 1) 0 ∧ fr 6 = .ptr (M.length + 2) 0 ∧ fr 7 = .W (bs X Y Z fun d => decide (d ∈ L.take i)) ∧ fr 11 = .ref t o cs.length ∧ fr 12 = .I cs.length ∧ fr 13 = .I i) cs.length
    ⟨0, by omega, Pre.app _ _, Live.new, Live.newj rfl, Live.newj rfl, rfl, rfl, rfl, rfl, by rw [show (bs X Y Z fun d => decide (d ∈ L.take 0)) = 0#64 from (bs_zero hS).2 fun c _ => by simp]; rfl, rfl, rfl, rfl⟩ ?_
  rintro m fr M' ⟨i, hi, hpre, b3, b4, b6, f2, f3, f4, f6, f7, f11, f12, f13⟩
  simp (disch := omega) only [f2, f3, f4, f6, f7, f11, f12, f13, ↓SXd, SXu, slBounds, ↓sop, ↓aop, ↓reduceIte, LV.cells, AOp.dst, LV.I, LV.B, LV.U, LV.S, LV.nil, Nat.reduceEqDiff, Nat.reduceAdd, Nat.reduceMul, Nat.reduceSub, Nat.reduceLeDiff, Nat.reduceBEq, Nat.reduceDiv, Nat.reduceMod, Int.reduceToNat, Int.reduceLT, Int.reduceLE, Int.reduceAdd, Int.reduceSub, Int.reduceMul, Int.reduceEq, Int.reduceNeg, reduceCtorEq, resV, resAll, ARes.ev, LV.flat, ite_true, ite_false, exists_eq_left', exists_eq_left, keyOf, implies_true, fillC, capOf]
  refine condC_dec (fun hlt => ?_) (fun hlt => ?_)
  · have hil : i < cs.length := by omega
    have hg := Tri.get (h.pre hpre) hil
    have hmem := getD_mem' (d := default) hil
    have hLi := hLg i hil
    have htd := fun d => take_dec (cs := L) (k := i) (c := d) (by omega)
    have hgi := hin _ hmem
    have hfi := hf (M' ++ [some (.row [.I (cs.getD i default).a, .I (cs.getD i default).b, .I (cs.getD i default).c] true 0)]) (hpre.trans (Pre.app _ _)) _ hmem
    generalize cs.getD i default = c at hg hLi hmem hgi hfi
    have hix := (idx_in hS hgi).1
    have hl6 := b6.lt
    simp (disch := omega) only [f2, f3, f4, f6, f7, f11, f12, f13, hg, Cell.row, splice, b4.app.cells, List.getElem?_append_left, ↓SXd, SXu, slBounds, ↓sop, ↓aop, ↓reduceIte, LV.cells, AOp.dst, LV.I, LV.B, LV.U, LV.S, LV.nil, Nat.reduceEqDiff, Nat.reduceAdd, Nat.reduceMul, Nat.reduceSub, Nat.reduceLeDiff, Nat.reduceBEq, Nat.reduceDiv, Nat.reduceMod, Int.reduceToNat, Int.reduceLT, Int.reduceLE, Int.reduceAdd, Int.reduceSub, Int.reduceMul, Int.reduceEq, Int.reduceNeg, reduceCtorEq, resV, resAll, ARes.ev, LV.flat, ite_true, ite_false, exists_eq_left', exists_eq_left, keyOf, implies_true, fillC, capOf]
    refine callK_of hfi ?_
    simp (disch := omega) only [f2, f3, f4, f6, f7, f11, f12, f13, List.getElem?_append_left, ↓SXd, SXu, slBounds, ↓sop, ↓aop, ↓reduceIte, LV.cells, AOp.dst, LV.I, LV.B, LV.U, LV.S, LV.nil, Nat.reduceEqDiff, Nat.reduceAdd, Nat.reduceMul, Nat.reduceSub, Nat.reduceLeDiff, Nat.reduceBEq, Nat.reduceDiv, Nat.reduceMod, Int.reduceToNat, Int.reduceLT, Int.reduceLE, Int.reduceAdd, Int.reduceSub, Int.reduceMul, Int.reduceEq, Int.reduceNeg, reduceCtorEq, resV, resAll, ARes.ev, LV.flat, ite_true, ite_false, exists_eq_left', exists_eq_left, keyOf, implies_true, fillC, capOf]
    refine callK_of (g_index hS hgi) ?_
    simp (disch := omega) only [f2, f3, f4, f6, f7, f11, f12, f13, ↓SXd, SXu, slBounds, ↓sop, ↓aop, ↓reduceIte, LV.cells, AOp.dst, LV.I, LV.B, LV.U, LV.S, LV.nil, Nat.reduceEqDiff, Nat.reduceAdd, Nat.reduceMul, Nat.reduceSub, Nat.reduceLeDiff, Nat.reduceBEq, Nat.reduceDiv, Nat.reduceMod, Int.reduceToNat, Int.reduceLT, Int.reduceLE, Int.reduceAdd, Int.reduceSub, Int.reduceMul, Int.reduceEq, Int.reduceNeg, reduceCtorEq, resV, resAll, ARes.ev, LV.flat, ite_true, ite_false, exists_eq_left', exists_eq_left, keyOf, implies_true, fillC, capOf]
    rw [bs_one hS hgi, bs_or hS, show (bs X Y Z fun d => decide (d ∈ L.take i) || decide (d = g c)) = bs X Y Z fun d => decide (d ∈ L.take (i + 1)) from (bs_eq hS).2 fun d _ => by rw [← hLi]; exact htd d]
    exact ⟨m - 1, by omega, i + 1, by omega, hpre.app', b3.app, b4.app, b6.app, f2, f3, f4, f6, rfl, f11, f12, eqI (natI _)⟩
  · simp (disch := omega) only [f2, f3, f4, f6, f7, f11, f12, f13, b4.cells, ↓SXd, SXu, slBounds, ↓sop, ↓aop, ↓reduceIte, LV.cells, AOp.dst, LV.I, LV.B, LV.U, LV.S, LV.nil, Nat.reduceEqDiff, Nat.reduceAdd, Nat.reduceMul, Nat.reduceSub, Nat.reduceLeDiff, Nat.reduceBEq, Nat.reduceDiv, Nat.reduceMod, Int.reduceToNat, Int.reduceLT, Int.reduceLE, Int.reduceAdd, Int.reduceSub, Int.reduceMul, Int.reduceEq, Int.reduceNeg, reduceCtorEq, resV, resAll, ARes.ev, LV.flat, ite_true, ite_false, exists_eq_left', exists_eq_left, keyOf, implies_true, fillC, capOf]
    have : i = cs.length := by omega
    subst this
    rw [← hLl, List.take_length]
    refine callH_of (g_heap hS) ?_
    intro tn N htn hp2 hnr
    simp (disch := omega) only [f2, f3, f4, f6, f7, f11, f12, f13, ↓SXd, SXu, slBounds, ↓sop, ↓aop, ↓reduceIte, LV.cells, AOp.dst, LV.I, LV.B, LV.U, LV.S, LV.nil, Nat.reduceEqDiff, Nat.reduceAdd, Nat.reduceMul, Nat.reduceSub, Nat.reduceLeDiff, Nat.reduceBEq, Nat.reduceDiv, Nat.reduceMod, Int.reduceToNat, Int.reduceLT, Int.reduceLE, Int.reduceAdd, Int.reduceSub, Int.reduceMul, Int.reduceEq, Int.reduceNeg, reduceCtorEq, resV, resAll, ARes.ev, LV.flat, ite_true, ite_false, exists_eq_left', exists_eq_left, keyOf, implies_true, fillC, capOf]
    have hN := hp2.1
    have hl6 := b6.lt
    refine memK_box (b6.pre hp2) (by simp) fun N3 k1 k2 k3 => ?_
    simp (disch := omega) only [f2, f3, f4, f6, f7, f11, f12, f13, k2.cells, ↓SXd, SXu, slBounds, ↓sop, ↓aop, ↓reduceIte, LV.cells, AOp.dst, LV.I, LV.B, LV.U, LV.S, LV.nil, Nat.reduceEqDiff, Nat.reduceAdd, Nat.reduceMul, Nat.reduceSub, Nat.reduceLeDiff, Nat.reduceBEq, Nat.reduceDiv, Nat.reduceMod, Int.reduceToNat, Int.reduceLT, Int.reduceLE, Int.reduceAdd, Int.reduceSub, Int.reduceMul, Int.reduceEq, Int.reduceNeg, reduceCtorEq, resV, resAll, ARes.ev, LV.flat, ite_true, ite_false, exists_eq_left', exists_eq_left, keyOf, implies_true, fillC, capOf]
    exact cmp_keepL (pre_step (hpre.trans hp2) (by omega) (j := 0) k1 k3) (by omega) (live_step hnr (by omega) k3) (triL_lo _) (by simp [rn, rn0, rn1])

theorem Cell.row_dir {c : Cell} {s : Int} (h : Dir s) : c.row[s.toNat]? = some (.I (c.at s)) := by
  rcases h with rfl | rfl | rfl <;> rfl
theorem side_row {x y z : Int} {T : Turn} {d : Nat} (hd : d < 3) : [LV.I (sideOf x y z T.fr.a), .I (sideOf x y z T.fr.b), .I (sideOf x y z T.fr.c)][d]? = some (.I (sideOf x y z (T.fr.at d))) := by
  rcases (show d = 0 ∨ d = 1 ∨ d = 2 by omega) with rfl | rfl | rfl <;> rfl
theorem g_turning_1 {x y z : Int} {T : Turn} {c : Cell} {tT tS : Nat} {M : Mem} (hT : OkT T) (hS : Sides x y z) (hc : c.inBox x y z) (h1 : Live M tT (.row T.row true 0)) (h2 : Live M tS (.row [.I (sideOf x y z T.fr.a), .I (sideOf x y z T.fr.b), .I (sideOf x y z T.fr.c)] true 0)) :
    CallsTo PG F.impl_turning_of_1 ([.agg [.I c.a, .I c.b, .I c.c]] ++ [(tT, 0), (tS, 0)].map fun p => .ptr p.1 p.2) M (.agg [.I (mapT x y z T c).a, .I (mapT x y z T c).b, .I (mapT x y z T c).c]) M := by
  have ht1 := h1.lt
  have ht2 := h2.lt
  obtain ⟨t1, t2, t3⟩ := hT
  refine calls_run K.impl_turning_of_1 rfl ?_
  simp (disch := omega) only [C.impl_turning_of_1, (h1.app).cells, Turn.row, Cell.row, List.map_cons, List.map_nil, splice, ↓SXd, SXu, slBounds, ↓sop, ↓aop, ↓reduceIte, LV.cells, AOp.dst, LV.I, LV.B, LV.U, LV.S, LV.nil, Nat.reduceEqDiff, Nat.reduceAdd, Nat.reduceMul, Nat.reduceSub, Nat.reduceLeDiff, Nat.reduceBEq, Nat.reduceDiv, Nat.reduceMod, Int.reduceToNat, Int.reduceLT, Int.reduceLE, Int.reduceAdd, Int.reduceSub, Int.reduceMul, Int.reduceEq, Int.reduceNeg, reduceCtorEq, resV, resAll, ARes.ev, LV.flat, ite_true, ite_false, exists_eq_left', exists_eq_left, keyOf, implies_true, fillC, capOf]
  refine ev_loop (fun m fr M' => ∃ d : Nat, d + m = 3 ∧ Pre M M' ∧ Live M' M.length (.row c.row true 0) ∧ Live M' (M.length + 1) (.row [.I 0, .I 0, .I 0] true 0) ∧ Live M' (M.length + 2) (.row (partC (mapT x y z T c) d).row true 0) ∧
    fr 1 = .ptr tT 0 ∧ fr 2 = .ptr tS 0 ∧ fr 3 = .ptr M.length 0 ∧ fr 4 = .ptr (M.length + 1) 0 ∧ fr 5 = .ptr (M.length + 2) 0 ∧ fr 10 = .agg [.I T.fr.a, .I T.fr.b, .I T.fr.c] ∧ fr 11 = .I d) 3
    ⟨0, rfl, Pre.app _ _, Live.new, Live.newj rfl, Live.newj rfl, rfl, rfl, rfl, rfl, rfl, rfl, rfl⟩ ?_
  rintro m fr M' ⟨d, hd, hpre, b3, b4, b5, f1, f2, f3, f4, f5, f10, f11⟩
  simp (disch := omega) only [f1, f2, f3, f4, f5, f10, f11, ↓SXd, SXu, slBounds, ↓sop, ↓aop, ↓reduceIte, LV.cells, AOp.dst, LV.I, LV.B, LV.U, LV.S, LV.nil, Nat.reduceEqDiff, Nat.reduceAdd, Nat.reduceMul, Nat.reduceSub, Nat.reduceLeDiff, Nat.reduceBEq, Nat.reduceDiv, Nat.reduceMod, Int.reduceToNat, Int.reduceLT, Int.reduceLE, Int.reduceAdd, Int.reduceSub, Int.reduceMul, Int.reduceEq, Int.reduceNeg, reduceCtorEq, resV, resAll, ARes.ev, LV.flat, ite_true, ite_false, exists_eq_left', exists_eq_left, keyOf, implies_true, fillC, capOf]
  refine condC_dec (fun hlt => ?_) (fun hlt => ?_)
  · have hd3 : d < 3 := by omega
    have hs := OkT.dir ⟨t1, t2, t3⟩ hd3
    have hma := mapT_at (x := x) (y := y) (z := z) (T := T) (c := c) hd3
    have a1 := at_in hc (T.fr.at d)
    have hss := sideOf_in hS (T.fr.at d)
    have q2 : 0 ≤ T.fr.at d := by rcases hs with h | h | h <;> omega
    have q3 : T.fr.at d < 3 := by rcases hs with h | h | h <;> omega
    have e3 := b3.cell (o := (T.fr.at d).toNat)
    rw [Cell.row_dir hs] at e3
    have hl5 := b5.lt
    have hix : [LV.I T.fr.a, .I T.fr.b, .I T.fr.c][d]? = some (.I (T.fr.at d)) := Cell.row_at hd3
    simp (disch := omega) only [f1, f2, f3, f4, f5, f10, f11, hix, e3, Nat.mul_one, Nat.zero_add, ↓SXd, SXu, slBounds, ↓sop, ↓aop, ↓reduceIte, LV.cells, AOp.dst, LV.I, LV.B, LV.U, LV.S, LV.nil, Nat.reduceEqDiff, Nat.reduceAdd, Nat.reduceMul, Nat.reduceSub, Nat.reduceLeDiff, Nat.reduceBEq, Nat.reduceDiv, Nat.reduceMod, Int.reduceToNat, Int.reduceLT, Int.reduceLE, Int.reduceAdd, Int.reduceSub, Int.reduceMul, Int.reduceEq, Int.reduceNeg, reduceCtorEq, resV, resAll, ARes.ev, LV.flat, ite_true, ite_false, exists_eq_left', exists_eq_left, keyOf, implies_true, fillC, capOf]
    refine memK_at b5 (show d < 3 from hd3) fun N1 k1 k2 k3 => ?_
    have hM := hpre.1
    have hpre1 := pre_step hpre (by omega) (j := 0) k1 k3
    have d3 := live_step b3 (by omega) k3
    have d4 := live_step b4 (by omega) k3
    have e2 := (h1.pre hpre1).cell (o := 3 + d)
    rw [Turn.row_fl hd3] at e2
    have e3 := d3.cell (o := (T.fr.at d).toNat)
    rw [Cell.row_dir hs] at e3
    have e6 := (h2.pre hpre1).cell (o := d)
    rw [side_row hd3] at e6
    simp (disch := omega) only [f1, f2, f3, f4, f5, f10, f11, e2, Nat.mul_one, ↓SXd, SXu, slBounds, ↓sop, ↓aop, ↓reduceIte, LV.cells, AOp.dst, LV.I, LV.B, LV.U, LV.S, LV.nil, Nat.reduceEqDiff, Nat.reduceAdd, Nat.reduceMul, Nat.reduceSub, Nat.reduceLeDiff, Nat.reduceBEq, Nat.reduceDiv, Nat.reduceMod, Int.reduceToNat, Int.reduceLT, Int.reduceLE, Int.reduceAdd, Int.reduceSub, Int.reduceMul, Int.reduceEq, Int.reduceNeg, reduceCtorEq, resV, resAll, ARes.ev, LV.flat, ite_true, ite_false, exists_eq_left', exists_eq_left, keyOf, implies_true, fillC, capOf]
    refine condC_dec (fun hf => ?_) (fun hf => ?_)
    · simp (disch := omega) only [f1, f2, f3, f4, f5, f10, f11, e3, e6, q2, q3, Nat.mul_one, Nat.zero_add, ↓SXd, SXu, slBounds, ↓sop, ↓aop, ↓reduceIte, LV.cells, AOp.dst, LV.I, LV.B, LV.U, LV.S, LV.nil, Nat.reduceEqDiff, Nat.reduceAdd, Nat.reduceMul, Nat.reduceSub, Nat.reduceLeDiff, Nat.reduceBEq, Nat.reduceDiv, Nat.reduceMod, Int.reduceToNat, Int.reduceLT, Int.reduceLE, Int.reduceAdd, Int.reduceSub, Int.reduceMul, Int.reduceEq, Int.reduceNeg, reduceCtorEq, resV, resAll, ARes.ev, LV.flat, ite_true, ite_false, exists_eq_left', exists_eq_left, keyOf, implies_true, fillC, capOf]
      refine memK_at k2 (by rw [List.length_set]; exact hd3) fun N2 l1 l2 l3 => ?_
      simp (disch := omega) only [f1, f2, f3, f4, f5, f10, f11, ↓SXd, SXu, slBounds, ↓sop, ↓aop, ↓reduceIte, LV.cells, AOp.dst, LV.I, LV.B, LV.U, LV.S, LV.nil, Nat.reduceEqDiff, Nat.reduceAdd, Nat.reduceMul, Nat.reduceSub, Nat.reduceLeDiff, Nat.reduceBEq, Nat.reduceDiv, Nat.reduceMod, Int.reduceToNat, Int.reduceLT, Int.reduceLE, Int.reduceAdd, Int.reduceSub, Int.reduceMul, Int.reduceEq, Int.reduceNeg, reduceCtorEq, resV, resAll, ARes.ev, LV.flat, ite_true, ite_false, exists_eq_left', exists_eq_left, keyOf, implies_true, fillC, capOf]
      rw [List.set_set] at l2
      refine ⟨m - 1, by omega, d + 1, by omega, pre_step hpre1 (by omega) (j := 0) l1 l3, live_step d3 (by omega) l3, live_step d4 (by omega) l3, ?_, f1, f2, f3, f4, f5, f10, eqI (natI _)⟩
      rw [← partC_set hd3, hma]
      unfold turnC
      rw [if_pos hf]
      exact l2
    · simp (disch := omega) only [f1, f2, f3, f4, f5, f10, f11, ↓SXd, SXu, slBounds, ↓sop, ↓aop, ↓reduceIte, LV.cells, AOp.dst, LV.I, LV.B, LV.U, LV.S, LV.nil, Nat.reduceEqDiff, Nat.reduceAdd, Nat.reduceMul, Nat.reduceSub, Nat.reduceLeDiff, Nat.reduceBEq, Nat.reduceDiv, Nat.reduceMod, Int.reduceToNat, Int.reduceLT, Int.reduceLE, Int.reduceAdd, Int.reduceSub, Int.reduceMul, Int.reduceEq, Int.reduceNeg, reduceCtorEq, resV, resAll, ARes.ev, LV.flat, ite_true, ite_false, exists_eq_left', exists_eq_left, keyOf, implies_true, fillC, capOf]
      refine ⟨m - 1, by omega, d + 1, by omega, hpre1, d3, d4, ?_, f1, f2, f3, f4, f5, f10, eqI (natI _)⟩
      rw [← partC_set hd3, hma]
      unfold turnC
      rw [if_neg hf]
      exact k2
  · have : d = 3 := by omega
    subst this
    have e7 : partC (mapT x y z T c) 3 = mapT x y z T c := rfl
    rw [e7] at b5
    have hl5 := b5.lt
    simp (disch := omega) only [f1, f2, f3, f4, f5, f10, f11, b5.cells, Cell.row, ↓SXd, SXu, slBounds, ↓sop, ↓aop, ↓reduceIte, LV.cells, AOp.dst, LV.I, LV.B, LV.U, LV.S, LV.nil, Nat.reduceEqDiff, Nat.reduceAdd, Nat.reduceMul, Nat.reduceSub, Nat.reduceLeDiff, Nat.reduceBEq, Nat.reduceDiv, Nat.reduceMod, Int.reduceToNat, Int.reduceLT, Int.reduceLE, Int.reduceAdd, Int.reduceSub, Int.reduceMul, Int.reduceEq, Int.reduceNeg, reduceCtorEq, resV, resAll, ARes.ev, LV.flat, ite_true, ite_false, exists_eq_left', exists_eq_left, keyOf, implies_true, fillC, capOf]
    refine memK_box b4 (by simp) fun N3 k1 k2 k3 => ?_
    simp (disch := omega) only [f1, f2, f3, f4, f5, f10, f11, k2.cells, ↓SXd, SXu, slBounds, ↓sop, ↓aop, ↓reduceIte, LV.cells, AOp.dst, LV.I, LV.B, LV.U, LV.S, LV.nil, Nat.reduceEqDiff, Nat.reduceAdd, Nat.reduceMul, Nat.reduceSub, Nat.reduceLeDiff, Nat.reduceBEq, Nat.reduceDiv, Nat.reduceMod, Int.reduceToNat, Int.reduceLT, Int.reduceLE, Int.reduceAdd, Int.reduceSub, Int.reduceMul, Int.reduceEq, Int.reduceNeg, reduceCtorEq, resV, resAll, ARes.ev, LV.flat, ite_true, ite_false, exists_eq_left', exists_eq_left, keyOf, implies_true, fillC, capOf]
    exact cmp_pre (pre_step hpre (by omega) (j := 0) k1 k3) rfl

theorem g_turning_of {x y z : Int} {t : Nat} {w : Bool} {cs : List Cell} {T : Turn} {M : Mem} (h : Live M t (.row (triL cs) w 3)) (hH : HeapOK x y z cs) (hT : OkT T) :
    CallsTo PG F.impl_turning_of [.agg [.I T.fr.a, .I T.fr.b, .I T.fr.c, .I T.fl.a, .I T.fl.b, .I T.fl.c], .agg [.I x, .I y, .I z, .ref t 0 cs.length]] M
      (.agg [.I (turnHp x y z T cs).x, .I (turnHp x y z T cs).y, .I (turnHp x y z T cs).z, .ref M.length 0 (turnHp x y z T cs).cs.length]) (M ++ [some (.row (triL (turnHp x y z T cs).cs) true 3)]) := by
  have hS := hH.1
  have hlen := hH.len
  have hs : ∀ s, Dir s → [LV.I x, .I y, .I z][s.toNat]? = some (.I (sideOf x y z s)) := fun s h => by rcases h with rfl | rfl | rfl <;> rfl
  obtain ⟨t1, t2, t3⟩ := id hT
  have q : ∀ s, Dir s → 0 ≤ s ∧ s < 3 := fun s h => by rcases h with rfl | rfl | rfl <;> omega
  obtain ⟨q1, q1'⟩ := q _ t1
  obtain ⟨q2, q2'⟩ := q _ t2
  obtain ⟨q3, q3'⟩ := q _ t3
  refine calls_run K.impl_turning_of rfl ?_
  simp (disch := omega) only [C.impl_turning_of, ↓SXd, SXu, slBounds, ↓sop, ↓aop, ↓reduceIte, LV.cells, AOp.dst, LV.I, LV.B, LV.U, LV.S, LV.nil, Nat.reduceEqDiff, Nat.reduceAdd, Nat.reduceMul, Nat.reduceSub, Nat.reduceLeDiff, Nat.reduceBEq, Nat.reduceDiv, Nat.reduceMod, Int.reduceToNat, Int.reduceLT, Int.reduceLE, Int.reduceAdd, Int.reduceSub, Int.reduceMul, Int.reduceEq, Int.reduceNeg, reduceCtorEq, resV, resAll, ARes.ev, LV.flat, ite_true, ite_false, exists_eq_left', exists_eq_left, keyOf, implies_true, fillC, capOf]
  refine callK_of (g_box) ?_
  simp (disch := omega) only [(hs _ t1), (hs _ t2), (hs _ t3), Nat.mul_one, Nat.zero_add, splice, ↓SXd, SXu, slBounds, ↓sop, ↓aop, ↓reduceIte, LV.cells, AOp.dst, LV.I, LV.B, LV.U, LV.S, LV.nil, Nat.reduceEqDiff, Nat.reduceAdd, Nat.reduceMul, Nat.reduceSub, Nat.reduceLeDiff, Nat.reduceBEq, Nat.reduceDiv, Nat.reduceMod, Int.reduceToNat, Int.reduceLT, Int.reduceLE, Int.reduceAdd, Int.reduceSub, Int.reduceMul, Int.reduceEq, Int.reduceNeg, reduceCtorEq, resV, resAll, ARes.ev, LV.flat, ite_true, ite_false, exists_eq_left', exists_eq_left, keyOf, implies_true, fillC, capOf]
  refine callK_of (g_moved (g := mapT x y z T) (Has.app h.has) (by omega) (turnSides hS T) (fun c hc => mapT_in (hH.mem hc) T) fun M' hp c hc => ?_) ?_
  · exact g_turning_1 hT hS (hH.mem hc) ((Live.newj (j := 0) rfl).pre hp) ((Live.newj (j := 4) rfl).pre hp)
  simp (disch := omega) only [splice, ↓SXd, SXu, slBounds, ↓sop, ↓aop, ↓reduceIte, LV.cells, AOp.dst, LV.I, LV.B, LV.U, LV.S, LV.nil, Nat.reduceEqDiff, Nat.reduceAdd, Nat.reduceMul, Nat.reduceSub, Nat.reduceLeDiff, Nat.reduceBEq, Nat.reduceDiv, Nat.reduceMod, Int.reduceToNat, Int.reduceLT, Int.reduceLE, Int.reduceAdd, Int.reduceSub, Int.reduceMul, Int.reduceEq, Int.reduceNeg, reduceCtorEq, resV, resAll, ARes.ev, LV.flat, ite_true, ite_false, exists_eq_left', exists_eq_left, keyOf, implies_true, fillC, capOf]
  exact cmp_keep1 (j := 5) rfl (triL_lo _) (by simp [rn, rn0, rn1, keepR_n, turnHp])
end Go.Ab

/- Contracts: the program's least boxes. -/
namespace Go.Ab
open Go
set_option linter.unusedSimpArgs false
set_option linter.unusedVariables false

def leC (a b : Cell) : Prop := a.a ≤ b.a ∧ a.b ≤ b.b ∧ a.c ≤ b.c
theorem leC_trans {a b c : Cell} (h : leC a b) (k : leC b c) : leC a c := by unfold leC at *; omega
theorem loC_le (a b : Cell) : leC (loC a b) a ∧ leC (loC a b) b := by unfold leC loC; simp only; omega
theorem hiC_le (a b : Cell) : leC a (hiC a b) ∧ leC b (hiC a b) := by unfold leC hiC; simp only; omega
theorem fold_lo : ∀ {l : List Cell} {b : Cell}, leC (l.foldl loC b) b ∧ ∀ c ∈ l, leC (l.foldl loC b) c
  | [], b => ⟨by unfold leC; simp, by simp⟩
  | a :: l, b => by
    have h := fold_lo (l := l) (b := loC b a)
    rw [List.foldl_cons]
    refine ⟨leC_trans h.1 (loC_le b a).1, fun c hc => ?_⟩
    rcases List.mem_cons.1 hc with rfl | hc
    · exact leC_trans h.1 (loC_le b _).2
    · exact h.2 c hc
theorem fold_hi : ∀ {l : List Cell} {b : Cell}, leC b (l.foldl hiC b) ∧ ∀ c ∈ l, leC c (l.foldl hiC b)
  | [], b => ⟨by unfold leC; simp, by simp⟩
  | a :: l, b => by
    have h := fold_hi (l := l) (b := hiC b a)
    rw [List.foldl_cons]
    refine ⟨leC_trans (hiC_le b a).1 h.1, fun c hc => ?_⟩
    rcases List.mem_cons.1 hc with rfl | hc
    · exact leC_trans (hiC_le b _).2 h.1
    · exact h.2 c hc
theorem fold_lo_ge {k : Cell} : ∀ {l : List Cell} {b : Cell}, leC k b → (∀ c ∈ l, leC k c) → leC k (l.foldl loC b)
  | [], b, h, _ => h
  | a :: l, b, h, hl => by
    rw [List.foldl_cons]
    refine fold_lo_ge ?_ fun c hc => hl c (by simp [hc])
    have := hl a (by simp)
    unfold leC loC at *; simp only; omega
theorem fold_hi_le {k : Cell} : ∀ {l : List Cell} {b : Cell}, leC b k → (∀ c ∈ l, leC c k) → leC (l.foldl hiC b) k
  | [], b, h, _ => h
  | a :: l, b, h, hl => by
    rw [List.foldl_cons]
    refine fold_hi_le ?_ fun c hc => hl c (by simp [hc])
    have := hl a (by simp)
    unfold leC hiC at *; simp only; omega
theorem crop_ok {x y z : Int} {cs : List Cell} (hH : HeapOK x y z cs) (h0 : 0 < cs.length) : HeapOK (cropHp cs).x (cropHp cs).y (cropHp cs).z (cropHp cs).cs := by
  obtain ⟨⟨_, _⟩, ⟨_, _⟩, ⟨_, _⟩⟩ := hH.1
  have hin : ∀ c ∈ cs, leC ⟨0, 0, 0⟩ c ∧ leC c ⟨x - 1, y - 1, z - 1⟩ := fun c hc => by
    obtain ⟨⟨_, _⟩, ⟨_, _⟩, ⟨_, _⟩⟩ := hH.mem hc
    unfold leC; simp only; omega
  have hg := getD_mem' (d := (default : Cell)) h0
  have l1 : leC ⟨0, 0, 0⟩ (lowOf cs) := fold_lo_ge (hin _ hg).1 fun c hc => (hin c hc).1
  have l2 : leC (highOf cs) ⟨x - 1, y - 1, z - 1⟩ := fold_hi_le (hin _ hg).2 fun c hc => (hin c hc).2
  have l3 : ∀ c ∈ cs, leC (lowOf cs) c := fold_lo.2
  have l4 : ∀ c ∈ cs, leC c (highOf cs) := fold_hi.2
  have l5 := leC_trans (l3 _ hg) (l4 _ hg)
  have hX : (cropHp cs).x = (highOf cs).a - (lowOf cs).a + 1 := rfl
  have hY : (cropHp cs).y = (highOf cs).b - (lowOf cs).b + 1 := rfl
  have hZ : (cropHp cs).z = (highOf cs).c - (lowOf cs).c + 1 := rfl
  have hC : (cropHp cs).cs = cs.map (shift ⟨0 - (lowOf cs).a, 0 - (lowOf cs).b, 0 - (lowOf cs).c⟩) := rfl
  rw [hX, hY, hZ, hC]
  generalize lowOf cs = lo at *
  generalize highOf cs = hi at *
  unfold leC at l1 l2 l5
  simp only at l1 l2 l5
  refine HeapOK.of ⟨⟨by omega, by omega⟩, ⟨by omega, by omega⟩, ⟨by omega, by omega⟩⟩ ?_ fun c hc => ?_
  · rw [List.pairwise_map]
    refine hH.sorted.imp fun {a b} hab => ?_
    unfold Cell.lt shift at *; simp only; omega
  · obtain ⟨d, hd, rfl⟩ := List.mem_map.1 hc
    have h1 := l3 d hd
    have h2 := l4 d hd
    unfold leC at h1 h2
    exact ⟨⟨by unfold shift; simp only; omega, by unfold shift; simp only; omega⟩, ⟨by unfold shift; simp only; omega, by unfold shift; simp only; omega⟩, ⟨by unfold shift; simp only; omega, by unfold shift; simp only; omega⟩⟩

theorem g_added {c p : Cell} {M : Mem} (hc : Small c) (hp : Small p) : CallsTo PG F.impl_added [.agg [.I c.a, .I c.b, .I c.c], .agg [.I p.a, .I p.b, .I p.c]] M (.agg [.I (shift p c).a, .I (shift p c).b, .I (shift p c).c]) M := by
  obtain ⟨⟨_, _⟩, ⟨_, _⟩, ⟨_, _⟩⟩ := hc
  obtain ⟨⟨_, _⟩, ⟨_, _⟩, ⟨_, _⟩⟩ := hp
  refine calls_run K.impl_added rfl ?_
  simp (disch := omega) only [C.impl_added, splice, ↓SXd, SXu, slBounds, ↓sop, ↓aop, ↓reduceIte, LV.cells, AOp.dst, LV.I, LV.B, LV.U, LV.S, LV.nil, Nat.reduceEqDiff, Nat.reduceAdd, Nat.reduceMul, Nat.reduceSub, Nat.reduceLeDiff, Nat.reduceBEq, Nat.reduceDiv, Nat.reduceMod, Int.reduceToNat, Int.reduceLT, Int.reduceLE, Int.reduceAdd, Int.reduceSub, Int.reduceMul, Int.reduceEq, Int.reduceNeg, reduceCtorEq, resV, resAll, ARes.ev, LV.flat, ite_true, ite_false, exists_eq_left', exists_eq_left, keyOf, implies_true, fillC, capOf]
  exact cmp_drop rfl
theorem g_crop_1 {c p : Cell} {t : Nat} {M : Mem} (h : Live M t (.row [.I p.a, .I p.b, .I p.c] true 0)) (hc : Small c) (hp : Small p) :
    CallsTo PG F.impl_CropHeap_1 ([.agg [.I c.a, .I c.b, .I c.c]] ++ [(t, 0)].map fun p => .ptr p.1 p.2) M (.agg [.I (shift p c).a, .I (shift p c).b, .I (shift p c).c]) M := by
  refine calls_run K.impl_CropHeap_1 rfl ?_
  simp (disch := omega) only [C.impl_CropHeap_1, List.map_cons, List.map_nil, h.app.cells, ↓SXd, SXu, slBounds, ↓sop, ↓aop, ↓reduceIte, LV.cells, AOp.dst, LV.I, LV.B, LV.U, LV.S, LV.nil, Nat.reduceEqDiff, Nat.reduceAdd, Nat.reduceMul, Nat.reduceSub, Nat.reduceLeDiff, Nat.reduceBEq, Nat.reduceDiv, Nat.reduceMod, Int.reduceToNat, Int.reduceLT, Int.reduceLE, Int.reduceAdd, Int.reduceSub, Int.reduceMul, Int.reduceEq, Int.reduceNeg, reduceCtorEq, resV, resAll, ARes.ev, LV.flat, ite_true, ite_false, exists_eq_left', exists_eq_left, keyOf, implies_true, fillC, capOf]
  refine callK_of (g_added hc hp) ?_
  simp (disch := omega) only [splice, ↓SXd, SXu, slBounds, ↓sop, ↓aop, ↓reduceIte, LV.cells, AOp.dst, LV.I, LV.B, LV.U, LV.S, LV.nil, Nat.reduceEqDiff, Nat.reduceAdd, Nat.reduceMul, Nat.reduceSub, Nat.reduceLeDiff, Nat.reduceBEq, Nat.reduceDiv, Nat.reduceMod, Int.reduceToNat, Int.reduceLT, Int.reduceLE, Int.reduceAdd, Int.reduceSub, Int.reduceMul, Int.reduceEq, Int.reduceNeg, reduceCtorEq, resV, resAll, ARes.ev, LV.flat, ite_true, ite_false, exists_eq_left', exists_eq_left, keyOf, implies_true, fillC, capOf]
  exact cmp_drop rfl

theorem g_CropHeap {x y z : Int} {t : Nat} {w : Bool} {cs : List Cell} {M : Mem} (h : Live M t (.row (triL cs) w 3)) (hH : HeapOK x y z cs) (h0 : 0 < cs.length) :
    CallsTo PG F.impl_CropHeap [.agg [.I x, .I y, .I z, .ref t 0 cs.length]] M (.tup [.agg [.I (cropHp cs).x, .I (cropHp cs).y, .I (cropHp cs).z, .ref M.length 0 (cropHp cs).cs.length], .B true]) (M ++ [some (.row (triL (cropHp cs).cs) true 3)]) := by
  have ht := h.lt
  have hlen := hH.len
  have hT : Tri M t 0 cs := h.has
  have hc := cells_small hH
  have hg0 := Tri.get hT (k := 0) h0
  refine calls_run K.impl_CropHeap rfl ?_
  rw [Nat.zero_mul, Nat.add_zero] at hg0
  have hz : ¬ (((cs.length : Nat) : Int) = 0) := by omega
  simp (disch := omega) only [C.impl_CropHeap, ↓SXd, SXu, slBounds, ↓sop, ↓aop, ↓reduceIte, LV.cells, AOp.dst, LV.I, LV.B, LV.U, LV.S, LV.nil, Nat.reduceEqDiff, Nat.reduceAdd, Nat.reduceMul, Nat.reduceSub, Nat.reduceLeDiff, Nat.reduceBEq, Nat.reduceDiv, Nat.reduceMod, Int.reduceToNat, Int.reduceLT, Int.reduceLE, Int.reduceAdd, Int.reduceSub, Int.reduceMul, Int.reduceEq, Int.reduceNeg, reduceCtorEq, resV, resAll, ARes.ev, LV.flat, ite_true, ite_false, exists_eq_left', exists_eq_left, keyOf, implies_true, fillC, capOf]
  refine callK_of (g_IsHeap hT.app (by omega)) ?_
  simp (disch := omega) only [hH, hz, h0, (getCells_app ht), hg0, Nat.zero_mul, Nat.add_zero, Cell.row, splice, List.getElem?_append_left, ↓SXd, SXu, slBounds, ↓sop, ↓aop, ↓reduceIte, LV.cells, AOp.dst, LV.I, LV.B, LV.U, LV.S, LV.nil, Nat.reduceEqDiff, Nat.reduceAdd, Nat.reduceMul, Nat.reduceSub, Nat.reduceLeDiff, Nat.reduceBEq, Nat.reduceDiv, Nat.reduceMod, Int.reduceToNat, Int.reduceLT, Int.reduceLE, Int.reduceAdd, Int.reduceSub, Int.reduceMul, Int.reduceEq, Int.reduceNeg, reduceCtorEq, resV, resAll, ARes.ev, LV.flat, ite_true, ite_false, exists_eq_left', exists_eq_left, keyOf, implies_true, fillC, capOf]
  have hsm : ∀ i, Small ((cs.take i).foldl loC (cs.getD 0 default)) ∧ Small ((cs.take i).foldl hiC (cs.getD 0 default)) := fun i => by
    have h1 := hc _ (getD_mem' (d := default) h0)
    exact ⟨fold_small loC_small h1 fun d hd => hc d (List.mem_of_mem_take hd), fold_small hiC_small h1 fun d hd => hc d (List.mem_of_mem_take hd)⟩
  have hstep : ∀ i, i < cs.length → (cs.take (i + 1)).foldl loC (cs.getD 0 default) = loC ((cs.take i).foldl loC (cs.getD 0 default)) (cs.getD i default) ∧ (cs.take (i + 1)).foldl hiC (cs.getD 0 default) = hiC ((cs.take i).foldl hiC (cs.getD 0 default)) (cs.getD i default) := fun i hi => by
    have e : cs.getD i default = cs[i] := by simp [hi]
    rw [e, List.take_succ, List.getElem?_eq_getElem hi, Option.toList_some, List.foldl_append, List.foldl_append]
    exact ⟨rfl, rfl⟩
  refine ev_loop (fun m fr M' => ∃ i : Nat, i + m = cs.length ∧ Pre M M' ∧ Live M' M.length (.row [.I x, .I y, .I z, .ref t 0 cs.length] true 0) ∧ Live M' (M.length + 1) (.row [.I 0, .I 0, .I 0, .nil] true 0) ∧
    Live M' (M.length + 2) (.row ((cs.take i).foldl loC (cs.getD 0 default)).row true 0) ∧ Live M' (M.length + 3) (.row ((cs.take i).foldl hiC (cs.getD 0 default)).row true 0) ∧
    fr 1 = .ptr M.length 0 ∧ fr 2 = .ptr (M.length + 1) 0 ∧ fr 4 = .ptr (M.length + 2) 0 ∧ fr 5 = .ptr (M.length + 3) 0 ∧ fr 29 = .ref t 0 cs.length ∧ fr 30 = .I cs.length ∧ fr 31 = .I i) cs.length
    ⟨0, by omega, Pre.app _ _, Live.new, Live.newj rfl, Live.newj rfl, Live.newj rfl, rfl, rfl, rfl, rfl, rfl, rfl, rfl⟩ ?_
  rintro m fr M' ⟨i, hi, hpre, b1, b2, b4, b5, f1, f2, f4, f5, f29, f30, f31⟩
  have hlM := b5.lt
  simp (disch := omega) only [f1, f2, f4, f5, f29, f30, f31, ↓SXd, SXu, slBounds, ↓sop, ↓aop, ↓reduceIte, LV.cells, AOp.dst, LV.I, LV.B, LV.U, LV.S, LV.nil, Nat.reduceEqDiff, Nat.reduceAdd, Nat.reduceMul, Nat.reduceSub, Nat.reduceLeDiff, Nat.reduceBEq, Nat.reduceDiv, Nat.reduceMod, Int.reduceToNat, Int.reduceLT, Int.reduceLE, Int.reduceAdd, Int.reduceSub, Int.reduceMul, Int.reduceEq, Int.reduceNeg, reduceCtorEq, resV, resAll, ARes.ev, LV.flat, ite_true, ite_false, exists_eq_left', exists_eq_left, keyOf, implies_true, fillC, capOf]
  refine condC_dec (fun hlt => ?_) (fun hlt => ?_)
  · have hil : i < cs.length := by omega
    have hg := Tri.get (hT.pre hpre) hil
    obtain ⟨s1, s2⟩ := hstep i hil
    rw [Nat.zero_add] at hg
    generalize cs.getD i default = c at hg s1 s2
    simp (disch := omega) only [f1, f2, f4, f5, f29, f30, f31, hg, Cell.row, splice, ↓SXd, SXu, slBounds, ↓sop, ↓aop, ↓reduceIte, LV.cells, AOp.dst, LV.I, LV.B, LV.U, LV.S, LV.nil, Nat.reduceEqDiff, Nat.reduceAdd, Nat.reduceMul, Nat.reduceSub, Nat.reduceLeDiff, Nat.reduceBEq, Nat.reduceDiv, Nat.reduceMod, Int.reduceToNat, Int.reduceLT, Int.reduceLE, Int.reduceAdd, Int.reduceSub, Int.reduceMul, Int.reduceEq, Int.reduceNeg, reduceCtorEq, resV, resAll, ARes.ev, LV.flat, ite_true, ite_false, exists_eq_left', exists_eq_left, keyOf, implies_true, fillC, capOf]
    refine ev_loop (fun m2 fr N => ∃ d : Nat, d + m2 = 3 ∧ Pre M N ∧ M'.length < N.length ∧ Live N M'.length (.row c.row true 0) ∧ Live N M.length (.row [.I x, .I y, .I z, .ref t 0 cs.length] true 0) ∧ Live N (M.length + 1) (.row [.I 0, .I 0, .I 0, .nil] true 0) ∧
      Live N (M.length + 2) (.row (mixC ((cs.take i).foldl loC (cs.getD 0 default)) ((cs.take (i + 1)).foldl loC (cs.getD 0 default)) d).row true 0) ∧ Live N (M.length + 3) (.row (mixC ((cs.take i).foldl hiC (cs.getD 0 default)) ((cs.take (i + 1)).foldl hiC (cs.getD 0 default)) d).row true 0) ∧
      fr 1 = .ptr M.length 0 ∧ fr 2 = .ptr (M.length + 1) 0 ∧ fr 4 = .ptr (M.length + 2) 0 ∧ fr 5 = .ptr (M.length + 3) 0 ∧ fr 29 = .ref t 0 cs.length ∧ fr 30 = .I cs.length ∧ fr 31 = .I i ∧ fr 7 = .ptr M'.length 0 ∧ fr 35 = .I d) 3
      ⟨0, rfl, hpre.trans (Pre.app _ _), by simp, Live.new, b1.app, b2.app, b4.app, b5.app, f1, f2, f4, f5, f29, f30, f31, rfl, rfl⟩ ?_
    clear f1 f2 f4 f5 f29 f30 f31 hg b1 b2 b4 b5 hpre
    rintro m2 fr N ⟨d, hd, hpre, hNM, b7, b1, b2, b4, b5, f1, f2, f4, f5, f29, f30, f31, f7, f35⟩
    simp (disch := omega) only [f1, f2, f4, f5, f29, f30, f31, f7, f35, ↓SXd, SXu, slBounds, ↓sop, ↓aop, ↓reduceIte, LV.cells, AOp.dst, LV.I, LV.B, LV.U, LV.S, LV.nil, Nat.reduceEqDiff, Nat.reduceAdd, Nat.reduceMul, Nat.reduceSub, Nat.reduceLeDiff, Nat.reduceBEq, Nat.reduceDiv, Nat.reduceMod, Int.reduceToNat, Int.reduceLT, Int.reduceLE, Int.reduceAdd, Int.reduceSub, Int.reduceMul, Int.reduceEq, Int.reduceNeg, reduceCtorEq, resV, resAll, ARes.ev, LV.flat, ite_true, ite_false, exists_eq_left', exists_eq_left, keyOf, implies_true, fillC, capOf]
    refine condC_dec (fun hlt2 => ?_) (fun hlt2 => ?_)
    · have hd3 : d < 3 := by omega
      have e4 := b4.cell (o := d)
      have e5 := b5.cell (o := d)
      have e7 := b7.cell (o := d)
      rw [Cell.row_at hd3, mixC_at hd3] at e4 e5
      rw [Cell.row_at hd3] at e7
      simp (disch := omega) only [f1, f2, f4, f5, f29, f30, f31, f7, f35, e4, e5, e7, Nat.mul_one, Nat.zero_add, maxV, if_true, ite_true, ↓SXd, SXu, slBounds, ↓sop, ↓aop, ↓reduceIte, LV.cells, AOp.dst, LV.I, LV.B, LV.U, LV.S, LV.nil, Nat.reduceEqDiff, Nat.reduceAdd, Nat.reduceMul, Nat.reduceSub, Nat.reduceLeDiff, Nat.reduceBEq, Nat.reduceDiv, Nat.reduceMod, Int.reduceToNat, Int.reduceLT, Int.reduceLE, Int.reduceAdd, Int.reduceSub, Int.reduceMul, Int.reduceEq, Int.reduceNeg, reduceCtorEq, resV, resAll, ARes.ev, LV.flat, ite_true, ite_false, exists_eq_left', exists_eq_left, keyOf, implies_true, fillC, capOf]
      refine memK_at b4 hd3 fun N1 k1 k2 k3 => ?_
      have hM := hpre.1
      have c1 := live_step b1 (by omega) k3
      have c2 := live_step b2 (by omega) k3
      have c5 := live_step b5 (by omega) k3
      have c7 := live_step b7 (by omega) k3
      have e0 : N1[M.length + 3]? = N[M.length + 3]? := k3 _ (by omega) b5.lt
      have e00 : N1[M'.length]? = N[M'.length]? := k3 _ (by omega) b7.lt
      simp (disch := omega) only [f1, f2, f4, f5, f29, f30, f31, f7, f35, e0, e00, ↓SXd, SXu, slBounds, ↓sop, ↓aop, ↓reduceIte, LV.cells, AOp.dst, LV.I, LV.B, LV.U, LV.S, LV.nil, Nat.reduceEqDiff, Nat.reduceAdd, Nat.reduceMul, Nat.reduceSub, Nat.reduceLeDiff, Nat.reduceBEq, Nat.reduceDiv, Nat.reduceMod, Int.reduceToNat, Int.reduceLT, Int.reduceLE, Int.reduceAdd, Int.reduceSub, Int.reduceMul, Int.reduceEq, Int.reduceNeg, reduceCtorEq, resV, resAll, ARes.ev, LV.flat, ite_true, ite_false, exists_eq_left', exists_eq_left, keyOf, implies_true, fillC, capOf]
      refine memK_at c5 hd3 fun N2 l1 l2 l3 => ?_
      simp (disch := omega) only [f1, f2, f4, f5, f29, f30, f31, f7, f35, ↓SXd, SXu, slBounds, ↓sop, ↓aop, ↓reduceIte, LV.cells, AOp.dst, LV.I, LV.B, LV.U, LV.S, LV.nil, Nat.reduceEqDiff, Nat.reduceAdd, Nat.reduceMul, Nat.reduceSub, Nat.reduceLeDiff, Nat.reduceBEq, Nat.reduceDiv, Nat.reduceMod, Int.reduceToNat, Int.reduceLT, Int.reduceLE, Int.reduceAdd, Int.reduceSub, Int.reduceMul, Int.reduceEq, Int.reduceNeg, reduceCtorEq, resV, resAll, ARes.ev, LV.flat, ite_true, ite_false, exists_eq_left', exists_eq_left, keyOf, implies_true, fillC, capOf]
      refine ⟨m2 - 1, by omega, d + 1, by omega, pre_step (pre_step hpre (by omega) (j := 0) k1 k3) (by omega) (j := 0) l1 l3, by omega, live_step c7 (by omega) l3, live_step c1 (by omega) l3, live_step c2 (by omega) l3, live_step (t := M.length + 3) (u := M.length + 2) ?_ (by omega) l3, ?_, f1, f2, f4, f5, f29, f30, f31, f7, eqI (natI _)⟩
      · rw [← mixC_set hd3, s1, loC_at hd3, ← s1]; exact k2
      · rw [← mixC_set hd3, s2, hiC_at hd3, ← s2]; exact l2
    · simp (disch := omega) only [f1, f2, f4, f5, f29, f30, f31, f7, f35, ↓SXd, SXu, slBounds, ↓sop, ↓aop, ↓reduceIte, LV.cells, AOp.dst, LV.I, LV.B, LV.U, LV.S, LV.nil, Nat.reduceEqDiff, Nat.reduceAdd, Nat.reduceMul, Nat.reduceSub, Nat.reduceLeDiff, Nat.reduceBEq, Nat.reduceDiv, Nat.reduceMod, Int.reduceToNat, Int.reduceLT, Int.reduceLE, Int.reduceAdd, Int.reduceSub, Int.reduceMul, Int.reduceEq, Int.reduceNeg, reduceCtorEq, resV, resAll, ARes.ev, LV.flat, ite_true, ite_false, exists_eq_left', exists_eq_left, keyOf, implies_true, fillC, capOf]
      have : d = 3 := by omega
      subst this
      exact ⟨m - 1, by omega, i + 1, by omega, hpre, b1, b2, b4, b5, f1, f2, f4, f5, f29, f30, eqI (natI _)⟩
  · have : i = cs.length := by omega
    subst this
    rw [List.take_length] at b4 b5
    have hsm := hsm cs.length
    rw [List.take_length] at hsm
    have hok := crop_ok hH h0
    have hpk := hok.pick
    change Live M' (M.length + 2) (.row (lowOf cs).row true 0) at b4
    change Live M' (M.length + 3) (.row (highOf cs).row true 0) at b5
    change Small (lowOf cs) ∧ Small (highOf cs) at hsm
    have hX : (cropHp cs).x = (highOf cs).a - (lowOf cs).a + 1 := rfl
    have hY : (cropHp cs).y = (highOf cs).b - (lowOf cs).b + 1 := rfl
    have hZ : (cropHp cs).z = (highOf cs).c - (lowOf cs).c + 1 := rfl
    have hC : (cropHp cs).cs = cs.map (shift ⟨0 - (lowOf cs).a, 0 - (lowOf cs).b, 0 - (lowOf cs).c⟩) := rfl
    rw [hX, hY, hZ, hC] at hok hpk ⊢
    generalize lowOf cs = lo at *
    generalize highOf cs = hi at *
    have hsl : Small ⟨0 - lo.a, 0 - lo.b, 0 - lo.c⟩ := by
      obtain ⟨⟨⟨_, _⟩, ⟨_, _⟩, ⟨_, _⟩⟩, _⟩ := hsm
      exact ⟨⟨by simp only; omega, by simp only; omega⟩, ⟨by simp only; omega, by simp only; omega⟩, ⟨by simp only; omega, by simp only; omega⟩⟩
    have hsd : Small (shift ⟨0 - lo.a, 0 - lo.b, 0 - lo.c⟩ hi) := by
      obtain ⟨⟨_, _⟩, ⟨_, _⟩, ⟨_, _⟩⟩ := hok.1
      unfold shift
      exact ⟨⟨by simp only; omega, by simp only; omega⟩, ⟨by simp only; omega, by simp only; omega⟩, ⟨by simp only; omega, by simp only; omega⟩⟩
    have hso : Small ⟨1, 1, 1⟩ := ⟨⟨by decide, by decide⟩, ⟨by decide, by decide⟩, ⟨by decide, by decide⟩⟩
    have hin : ∀ c ∈ cs, (shift ⟨0 - lo.a, 0 - lo.b, 0 - lo.c⟩ c).inBox (hi.a - lo.a + 1) (hi.b - lo.b + 1) (hi.c - lo.c + 1) := fun c hc => hok.mem (List.mem_map_of_mem hc)
    have hSh := hok.1
    obtain ⟨⟨⟨_, _⟩, ⟨_, _⟩, ⟨_, _⟩⟩, hsh⟩ := hsm
    simp (disch := omega) only [f1, f2, f4, f5, f29, f30, f31, b4.cell, b5.cell, Cell.row, splice, b1.app.cells, b5.app.cells, ↓SXd, SXu, slBounds, ↓sop, ↓aop, ↓reduceIte, LV.cells, AOp.dst, LV.I, LV.B, LV.U, LV.S, LV.nil, Nat.reduceEqDiff, Nat.reduceAdd, Nat.reduceMul, Nat.reduceSub, Nat.reduceLeDiff, Nat.reduceBEq, Nat.reduceDiv, Nat.reduceMod, Int.reduceToNat, Int.reduceLT, Int.reduceLE, Int.reduceAdd, Int.reduceSub, Int.reduceMul, Int.reduceEq, Int.reduceNeg, reduceCtorEq, resV, resAll, ARes.ev, LV.flat, ite_true, ite_false, exists_eq_left', exists_eq_left, keyOf, implies_true, fillC, capOf]
    refine callK_of (g_added (p := ⟨0 - lo.a, 0 - lo.b, 0 - lo.c⟩) hsh hsl) ?_
    simp (disch := omega) only [f1, f2, f4, f5, f29, f30, f31, ↓SXd, SXu, slBounds, ↓sop, ↓aop, ↓reduceIte, LV.cells, AOp.dst, LV.I, LV.B, LV.U, LV.S, LV.nil, Nat.reduceEqDiff, Nat.reduceAdd, Nat.reduceMul, Nat.reduceSub, Nat.reduceLeDiff, Nat.reduceBEq, Nat.reduceDiv, Nat.reduceMod, Int.reduceToNat, Int.reduceLT, Int.reduceLE, Int.reduceAdd, Int.reduceSub, Int.reduceMul, Int.reduceEq, Int.reduceNeg, reduceCtorEq, resV, resAll, ARes.ev, LV.flat, ite_true, ite_false, exists_eq_left', exists_eq_left, keyOf, implies_true, fillC, capOf]
    refine callK_of (g_added (p := ⟨1, 1, 1⟩) (c := shift ⟨0 - lo.a, 0 - lo.b, 0 - lo.c⟩ hi) hsd hso) ?_
    simp (disch := omega) only [f1, f2, f4, f5, f29, f30, f31, ↓SXd, SXu, slBounds, ↓sop, ↓aop, ↓reduceIte, LV.cells, AOp.dst, LV.I, LV.B, LV.U, LV.S, LV.nil, Nat.reduceEqDiff, Nat.reduceAdd, Nat.reduceMul, Nat.reduceSub, Nat.reduceLeDiff, Nat.reduceBEq, Nat.reduceDiv, Nat.reduceMod, Int.reduceToNat, Int.reduceLT, Int.reduceLE, Int.reduceAdd, Int.reduceSub, Int.reduceMul, Int.reduceEq, Int.reduceNeg, reduceCtorEq, resV, resAll, ARes.ev, LV.flat, ite_true, ite_false, exists_eq_left', exists_eq_left, keyOf, implies_true, fillC, capOf]
    rw [show (shift ⟨1, 1, 1⟩ (shift ⟨0 - lo.a, 0 - lo.b, 0 - lo.c⟩ hi)).a = hi.a - lo.a + 1 by unfold shift; simp only; omega, show (shift ⟨1, 1, 1⟩ (shift ⟨0 - lo.a, 0 - lo.b, 0 - lo.c⟩ hi)).b = hi.b - lo.b + 1 by unfold shift; simp only; omega, show (shift ⟨1, 1, 1⟩ (shift ⟨0 - lo.a, 0 - lo.b, 0 - lo.c⟩ hi)).c = hi.c - lo.c + 1 by unfold shift; simp only; omega]
    refine callK_of (g_moved (g := shift ⟨0 - lo.a, 0 - lo.b, 0 - lo.c⟩) (hT.pre (hpre.trans (Pre.app _ _))) (by omega) hSh hin fun N hp c hcc => ?_) ?_
    · exact g_crop_1 (Live.new.pre hp) (hc c hcc) hsl
    rw [← hpk]
    simp (disch := omega) only [f1, f2, f4, f5, f29, f30, f31, ↓SXd, SXu, slBounds, ↓sop, ↓aop, ↓reduceIte, LV.cells, AOp.dst, LV.I, LV.B, LV.U, LV.S, LV.nil, Nat.reduceEqDiff, Nat.reduceAdd, Nat.reduceMul, Nat.reduceSub, Nat.reduceLeDiff, Nat.reduceBEq, Nat.reduceDiv, Nat.reduceMod, Int.reduceToNat, Int.reduceLT, Int.reduceLE, Int.reduceAdd, Int.reduceSub, Int.reduceMul, Int.reduceEq, Int.reduceNeg, reduceCtorEq, resV, resAll, ARes.ev, LV.flat, ite_true, ite_false, exists_eq_left', exists_eq_left, keyOf, implies_true, fillC, capOf]
    refine memK_box b2.app (by simp) fun N3 k1 k2 k3 => ?_
    simp (disch := omega) only [f1, f2, f4, f5, f29, f30, f31, k2.cells, ↓SXd, SXu, slBounds, ↓sop, ↓aop, ↓reduceIte, LV.cells, AOp.dst, LV.I, LV.B, LV.U, LV.S, LV.nil, Nat.reduceEqDiff, Nat.reduceAdd, Nat.reduceMul, Nat.reduceSub, Nat.reduceLeDiff, Nat.reduceBEq, Nat.reduceDiv, Nat.reduceMod, Int.reduceToNat, Int.reduceLT, Int.reduceLE, Int.reduceAdd, Int.reduceSub, Int.reduceMul, Int.reduceEq, Int.reduceNeg, reduceCtorEq, resV, resAll, ARes.ev, LV.flat, ite_true, ite_false, exists_eq_left', exists_eq_left, keyOf, implies_true, fillC, capOf]
    refine cmp_keepL (pre_step (hpre.trans (Pre.app _ _)) (by omega) (j := 0) k1 k3) (t := M'.length + 1) (by omega) (live_step (Live.newj (j := 1) rfl) (by omega) k3) (triL_lo _) (by simp [rn, rn0, rn1])
end Go.Ab

/- Plain words: the turns as a group; forms of turned heaps; symmetries and positions. -/
namespace Go.Ab
open Go
set_option linter.unusedSimpArgs false
set_option linter.unusedVariables false
set_option maxRecDepth 20000

theorem same_len {α : Type} [DecidableEq α] : ∀ {l m : List α}, l.Nodup → m.Nodup → (∀ a, a ∈ l ↔ a ∈ m) → l.length = m.length
  | [], m, _, _, h => by
    cases m with
    | nil => rfl
    | cons b m => exact absurd ((h b).2 (by simp)) (by simp)
  | a :: l, m, hl, hm, h => by
    rw [List.nodup_cons] at hl
    have ha : a ∈ m := (h a).1 (by simp)
    have := same_len (l := l) (m := m.erase a) hl.2 (hm.erase a) fun b => by
      constructor
      · intro hb
        have hne : b ≠ a := fun e => hl.1 (e ▸ hb)
        exact (List.mem_erase_of_ne hne).2 ((h b).1 (by simp [hb]))
      · intro hb
        have h1 := List.mem_of_mem_erase hb
        rcases List.mem_cons.1 ((h b).2 h1) with e | e
        · subst e; exact absurd hb (hm.not_mem_erase)
        · exact e
    rw [List.length_cons, this, List.length_erase_of_mem ha]
    have := List.length_pos_of_mem ha
    omega
def xorI (a b : Int) : Int := if a = b then 0 else 1
/-- First the one turn, then the other. -/
def behind (t u : Turn) : Turn := ⟨⟨t.fr.at u.fr.a, t.fr.at u.fr.b, t.fr.at u.fr.c⟩, ⟨xorI (t.fl.at u.fr.a) u.fl.a, xorI (t.fl.at u.fr.b) u.fl.b, xorI (t.fl.at u.fr.c) u.fl.c⟩⟩
def oneT : Turn := ⟨⟨0, 1, 2⟩, ⟨0, 0, 0⟩⟩
def invT (t : Turn) : Turn := (turns.find? fun u => decide (behind t u = oneT)).getD oneT
def Bit (n : Int) : Prop := n = 0 ∨ n = 1
def BitT (t : Turn) : Prop := Bit t.fl.a ∧ Bit t.fl.b ∧ Bit t.fl.c
instance (n : Int) : Decidable (Bit n) := by unfold Bit; exact inferInstance
instance (t : Turn) : Decidable (BitT t) := by unfold BitT; exact inferInstance
theorem turns_bit : ∀ t ∈ turns, BitT t := by decide +kernel
theorem turns_nodup : turns.Nodup := by decide +kernel
theorem one_mem : oneT ∈ turns := by decide +kernel
theorem behind_mem : ∀ t ∈ turns, ∀ u ∈ turns, behind t u ∈ turns := by decide +kernel
theorem inv_mem : ∀ t ∈ turns, invT t ∈ turns ∧ behind t (invT t) = oneT := by decide +kernel
theorem inv_cancel : ∀ t ∈ turns, ∀ u ∈ turns, behind (behind u t) (invT t) = u ∧ behind (behind u (invT t)) t = u ∧ behind t (behind (invT t) u) = u := by decide +kernel

theorem turnC_behind {x y z : Int} {t : Turn} {c : Cell} {s f : Int} (hb : BitT t) (hs : Dir s) (hf : Bit f) :
    turnC (sideOf x y z t.fr.a) (sideOf x y z t.fr.b) (sideOf x y z t.fr.c) (mapT x y z t c) s f = turnC x y z c (t.fr.at s) (xorI (t.fl.at s) f) := by
  obtain ⟨h1, h2, h3⟩ := hb
  rcases hs with rfl | rfl | rfl
  · rcases h1 with h1 | h1 <;> rcases hf with rfl | rfl <;> simp [turnC, sideOf, Cell.at, mapT, xorI, h1] <;> omega
  · rcases h2 with h2 | h2 <;> rcases hf with rfl | rfl <;> simp [turnC, sideOf, Cell.at, mapT, xorI, h2] <;> omega
  · rcases h3 with h3 | h3 <;> rcases hf with rfl | rfl <;> simp [turnC, sideOf, Cell.at, mapT, xorI, h3] <;> omega
theorem mapT_behind {x y z : Int} {t u : Turn} {c : Cell} (hb : BitT t) (hu : OkT u) (hub : BitT u) :
    mapT (sideOf x y z t.fr.a) (sideOf x y z t.fr.b) (sideOf x y z t.fr.c) u (mapT x y z t c) = mapT x y z (behind t u) c := by
  obtain ⟨a1, a2, a3⟩ := hu
  obtain ⟨b1, b2, b3⟩ := hub
  rw [cell_eq]
  exact ⟨turnC_behind hb a1 b1, turnC_behind hb a2 b2, turnC_behind hb a3 b3⟩
theorem side_behind {x y z : Int} {t : Turn} {s : Int} (hs : Dir s) : sideOf (sideOf x y z t.fr.a) (sideOf x y z t.fr.b) (sideOf x y z t.fr.c) s = sideOf x y z (t.fr.at s) := by
  rcases hs with rfl | rfl | rfl <;> simp [sideOf, Cell.at]
theorem mem_turnHp {x y z : Int} {cs : List Cell} {T : Turn} (hH : HeapOK x y z cs) {d : Cell} : d ∈ (turnHp x y z T cs).cs ↔ ∃ c ∈ cs, mapT x y z T c = d := by
  show d ∈ pick _ _ _ _ ↔ _
  rw [mem_pick (turnSides hH.1 T), decide_eq_true_iff, List.mem_map]
  constructor
  · exact fun h => h.2
  · rintro ⟨c, hc, rfl⟩
    exact ⟨mapT_in (hH.mem hc) T, c, hc, rfl⟩
theorem turnHp_behind {x y z : Int} {cs : List Cell} {t u : Turn} (hH : HeapOK x y z cs) (hb : BitT t) (hu : OkT u) (hub : BitT u) :
    turnHp (turnHp x y z t cs).x (turnHp x y z t cs).y (turnHp x y z t cs).z u (turnHp x y z t cs).cs = turnHp x y z (behind t u) cs := by
  have h1 := turnHp_ok hH t
  have e1 : (turnHp (turnHp x y z t cs).x (turnHp x y z t cs).y (turnHp x y z t cs).z u (turnHp x y z t cs).cs).x = (turnHp x y z (behind t u) cs).x := side_behind hu.1
  have e2 : (turnHp (turnHp x y z t cs).x (turnHp x y z t cs).y (turnHp x y z t cs).z u (turnHp x y z t cs).cs).y = (turnHp x y z (behind t u) cs).y := side_behind hu.2.1
  have e3 : (turnHp (turnHp x y z t cs).x (turnHp x y z t cs).y (turnHp x y z t cs).z u (turnHp x y z t cs).cs).z = (turnHp x y z (behind t u) cs).z := side_behind hu.2.2
  have e4 : (turnHp (turnHp x y z t cs).x (turnHp x y z t cs).y (turnHp x y z t cs).z u (turnHp x y z t cs).cs).cs = (turnHp x y z (behind t u) cs).cs := by
    refine sorted_ext (turnHp_ok h1 u).sorted (turnHp_ok hH _).sorted fun d => ?_
    rw [mem_turnHp h1, mem_turnHp hH]
    constructor
    · rintro ⟨e, he, rfl⟩
      obtain ⟨c, hc, rfl⟩ := (mem_turnHp hH).1 he
      exact ⟨c, hc, (mapT_behind hb hu hub).symm⟩
    · rintro ⟨c, hc, rfl⟩
      exact ⟨_, (mem_turnHp hH).2 ⟨c, hc, rfl⟩, mapT_behind hb hu hub⟩
  generalize turnHp (turnHp x y z t cs).x (turnHp x y z t cs).y (turnHp x y z t cs).z u (turnHp x y z t cs).cs = A at *
  generalize turnHp x y z (behind t u) cs = B at *
  obtain ⟨a, b, c, l⟩ := A
  obtain ⟨a', b', c', l'⟩ := B
  simp only at e1 e2 e3 e4
  rw [e1, e2, e3, e4]
theorem nodup_le {l m : List Cell} (hn : l.Nodup) (hm : ∀ c ∈ l, c ∈ m) : l.length ≤ m.length := by
  induction l generalizing m with
  | nil => exact Nat.zero_le _
  | cons a l ih =>
    rw [List.nodup_cons] at hn
    have ha := hm a (by simp)
    have h1 := ih hn.2 (m := m.erase a) fun c hc => (List.mem_erase_of_ne (fun e => by subst e; exact hn.1 hc)).2 (hm c (by simp [hc]))
    rw [List.length_erase_of_mem ha] at h1
    have := List.length_pos_of_mem ha
    simp only [List.length_cons]; omega
theorem turnHp_len {x y z : Int} {cs : List Cell} {T : Turn} (hH : HeapOK x y z cs) (hT : T ∈ turns) : (turnHp x y z T cs).cs.length = cs.length := by
  obtain ⟨i1, i2⟩ := inv_mem T hT
  have key : ∀ {x y z : Int} {cs : List Cell} {T : Turn}, HeapOK x y z cs → (turnHp x y z T cs).cs.length ≤ cs.length := fun {x y z cs T} hH => by
    have := nodup_le (l := (turnHp x y z T cs).cs) (m := cs.map (mapT x y z T)) (turnHp_ok hH T).nodup fun c hc => List.mem_map.2 ((mem_turnHp hH).1 hc)
    rwa [List.length_map] at this
  refine Nat.le_antisymm (key hH) ?_
  have h2 := key (T := invT T) (turnHp_ok hH T)
  rw [turnHp_behind hH (turns_bit T hT) (turns_ok _ i1) (turns_bit _ i1), i2] at h2
  have h3 : (turnHp x y z oneT cs).cs = cs := by
    refine sorted_ext (turnHp_ok hH _).sorted hH.sorted fun d => ?_
    rw [mem_turnHp hH]
    have : ∀ c, mapT x y z oneT c = c := fun c => rfl
    simp [this]
  rwa [h3] at h2

theorem shiftT_lt {p a b : Cell} : (shift p a).lt (shift p b) ↔ a.lt b := by unfold shift Cell.lt; simp only; omega
theorem shift_sorted {p : Cell} {l : List Cell} (h : l.Pairwise Cell.lt) : (l.map (shift p)).Pairwise Cell.lt := h.map _ fun a b hab => shiftT_lt.2 hab
theorem loC_shift {p a b : Cell} : loC (shift p a) (shift p b) = shift p (loC a b) := by rw [cell_eq]; unfold loC shift; simp only; omega
theorem hiC_shift {p a b : Cell} : hiC (shift p a) (shift p b) = shift p (hiC a b) := by rw [cell_eq]; unfold hiC shift; simp only; omega
theorem fold_shift {f : Cell → Cell → Cell} {p : Cell} (hf : ∀ a b, f (shift p a) (shift p b) = shift p (f a b)) : ∀ (l : List Cell) (b : Cell), (l.map (shift p)).foldl f (shift p b) = shift p (l.foldl f b)
  | [], _ => rfl
  | a :: l, b => by rw [List.map_cons, List.foldl_cons, List.foldl_cons, hf, fold_shift hf l]
theorem cropHp_shift {p : Cell} {l : List Cell} (h0 : 0 < l.length) : cropHp (l.map (shift p)) = cropHp l := by
  have hg : (l.map (shift p)).getD 0 default = shift p (l.getD 0 default) := by
    cases l with
    | nil => simp at h0
    | cons a l => rfl
  have h1 : lowOf (l.map (shift p)) = shift p (lowOf l) := by unfold lowOf; rw [hg, fold_shift fun a b => loC_shift]
  have h2 : highOf (l.map (shift p)) = shift p (highOf l) := by unfold highOf; rw [hg, fold_shift fun a b => hiC_shift]
  unfold cropHp
  rw [h1, h2, List.map_map]
  have e : (shift ⟨0 - (shift p (lowOf l)).a, 0 - (shift p (lowOf l)).b, 0 - (shift p (lowOf l)).c⟩ ∘ shift p) = shift ⟨0 - (lowOf l).a, 0 - (lowOf l).b, 0 - (lowOf l).c⟩ := by
    funext c
    rw [Function.comp_apply, cell_eq]
    unfold shift; simp only; omega
  rw [e, Hp.mk.injEq]
  unfold shift
  refine ⟨?_, ?_, ?_, rfl⟩ <;> simp only <;> omega
def turnS (x y z x' y' z' : Int) (T : Turn) (p : Cell) : Cell :=
  ⟨if T.fl.a = 1 then sideOf x' y' z' T.fr.a - sideOf x y z T.fr.a - p.at T.fr.a else p.at T.fr.a, if T.fl.b = 1 then sideOf x' y' z' T.fr.b - sideOf x y z T.fr.b - p.at T.fr.b else p.at T.fr.b, if T.fl.c = 1 then sideOf x' y' z' T.fr.c - sideOf x y z T.fr.c - p.at T.fr.c else p.at T.fr.c⟩
theorem shift_at {p c : Cell} {s : Int} : (shift p c).at s = c.at s + p.at s := by unfold shift Cell.at; simp only; split <;> (try split) <;> rfl
theorem mapT_shift {x y z x' y' z' : Int} {T : Turn} {p c : Cell} : mapT x' y' z' T (shift p c) = shift (turnS x y z x' y' z' T p) (mapT x y z T c) := by
  have key : ∀ s f, turnC x' y' z' (shift p c) s f = turnC x y z c s f + (if f = 1 then sideOf x' y' z' s - sideOf x y z s - p.at s else p.at s) := fun s f => by
    unfold turnC
    rw [shift_at]
    split <;> omega
  rw [cell_eq]
  exact ⟨key _ _, key _ _, key _ _⟩
theorem turn_shift {x y z x' y' z' : Int} {cs : List Cell} {T : Turn} {p : Cell} (hH : HeapOK x y z cs) (hH' : HeapOK x' y' z' (cs.map (shift p))) :
    (turnHp x' y' z' T (cs.map (shift p))).cs = (turnHp x y z T cs).cs.map (shift (turnS x y z x' y' z' T p)) := by
  refine sorted_ext (turnHp_ok hH' T).sorted (shift_sorted (turnHp_ok hH T).sorted) fun d => ?_
  rw [mem_turnHp hH', List.mem_map]
  constructor
  · rintro ⟨e, he, rfl⟩
    obtain ⟨c, hc, rfl⟩ := List.mem_map.1 he
    exact ⟨_, (mem_turnHp hH).2 ⟨c, hc, rfl⟩, mapT_shift.symm⟩
  · rintro ⟨e, he, rfl⟩
    obtain ⟨c, hc, rfl⟩ := (mem_turnHp hH).1 he
    exact ⟨_, List.mem_map.2 ⟨c, hc, rfl⟩, mapT_shift⟩
theorem posHp_crop {x y z : Int} {cs : List Cell} {T : Turn} (hH : HeapOK x y z cs) (h0 : 0 < cs.length) : posHp (cropHp cs).x (cropHp cs).y (cropHp cs).z (cropHp cs).cs T = posHp x y z cs T := by
  have h1 := crop_ok hH h0
  unfold posHp
  show cropHp (turnHp (cropHp cs).x (cropHp cs).y (cropHp cs).z T (cs.map _)).cs = _
  rw [turn_shift hH h1, cropHp_shift (turnHp_pos hH h0 T)]
section
variable {x y z : Int} {cs : List Cell} (hH : HeapOK x y z cs) (h0 : 0 < cs.length)
include hH
theorem posHp_turn {T U : Turn} (hT : T ∈ turns) (hU : U ∈ turns) : posHp (turnHp x y z T cs).x (turnHp x y z T cs).y (turnHp x y z T cs).z (turnHp x y z T cs).cs U = posHp x y z cs (behind T U) := by
  unfold posHp
  rw [turnHp_behind hH (turns_bit T hT) (turns_ok U hU) (turns_bit U hU)]
theorem posHp_one : posHp x y z cs oneT = cropHp cs := by
  unfold posHp
  have h3 : (turnHp x y z oneT cs).cs = cs := by
    refine sorted_ext (turnHp_ok hH _).sorted hH.sorted fun d => ?_
    rw [mem_turnHp hH]
    have : ∀ c, mapT x y z oneT c = c := fun c => rfl
    simp [this]
  rw [h3]
include h0
theorem posHp_pos {T U : Turn} (hT : T ∈ turns) (hU : U ∈ turns) : posHp (posHp x y z cs T).x (posHp x y z cs T).y (posHp x y z cs T).z (posHp x y z cs T).cs U = posHp x y z cs (behind T U) := by
  rw [← posHp_turn hH hT hU]
  exact posHp_crop (turnHp_ok hH T) (turnHp_pos hH h0 T)
end

theorem lexC_trans : ∀ {l m n : List Cell}, lexC l m = true → lexC m n = true → lexC l n = true
  | _, [], _, h, _ => by cases ‹List Cell› <;> simp [lexC] at h
  | _, _ :: _, [], _, k => by simp [lexC] at k
  | [], _ :: _, _ :: _, _, _ => rfl
  | a :: l, b :: m, c :: n, h, k => by
    simp only [lexC] at h k ⊢
    by_cases e : a = b
    · subst e
      rw [if_pos rfl] at h
      by_cases e2 : a = c
      · subst e2
        rw [if_pos rfl] at k ⊢
        exact lexC_trans h k
      · rw [if_neg e2] at k ⊢
        exact k
    · rw [if_neg e] at h
      have h1 := of_decide_eq_true h
      by_cases e2 : b = c
      · subst e2
        rw [if_neg e]; exact h
      · rw [if_neg e2] at k
        have h2 := Cell.lt_trans h1 (of_decide_eq_true k)
        rw [if_neg (fun e3 => by subst e3; exact Cell.lt_irrefl _ h2)]
        exact decide_eq_true h2
theorem lessHp_trans {f g h : Hp} (h1 : lessHp f g = true) (h2 : lessHp g h = true) : lessHp f h = true := by
  unfold lessHp at *
  by_cases e : f.dims = g.dims
  · rw [if_pos e] at h1
    by_cases e2 : g.dims = h.dims
    · rw [if_pos e2] at h2
      rw [if_pos (e.trans e2)]; exact lexC_trans h1 h2
    · rw [if_neg e2] at h2
      rw [e, if_neg e2]; exact h2
  · rw [if_neg e] at h1
    have k1 := of_decide_eq_true h1
    by_cases e2 : g.dims = h.dims
    · rw [← e2, if_neg e]; exact h1
    · rw [if_neg e2] at h2
      have k2 := Cell.lt_trans k1 (of_decide_eq_true h2)
      rw [if_neg (fun e3 => by rw [e3] at k2; exact Cell.lt_irrefl _ k2)]
      exact decide_eq_true k2
theorem best_spec : ∀ {l : List Hp} {b : Hp}, bestH b l ∈ b :: l ∧ ∀ g ∈ b :: l, lessHp g (bestH b l) = false
  | [], b => ⟨by simp [bestH], fun g hg => by simp at hg; subst hg; exact lessHp_irr _⟩
  | n :: l, b => by
    obtain ⟨h1, h2⟩ := best_spec (l := l) (b := if lessHp n b then n else b)
    change bestH b (n :: l) ∈ _ at h1
    have e : bestH (if lessHp n b then n else b) l = bestH b (n :: l) := rfl
    rw [e] at h2
    have hb := h2 (if lessHp n b then n else b) (by simp)
    refine ⟨?_, fun g hg => ?_⟩
    · rcases List.mem_cons.1 h1 with h | h
      · rw [h]; split <;> simp
      · simp [h]
    · by_cases hn : lessHp n b = true
      · rw [if_pos hn] at hb
        rcases List.mem_cons.1 hg with rfl | hg
        · by_cases hl : lessHp g (bestH g (n :: l)) = true
          · rw [lessHp_trans hn hl] at hb; cases hb
          · simpa using hl
        · rcases List.mem_cons.1 hg with rfl | hg
          · exact hb
          · exact h2 g (by simp [hg])
      · rw [if_neg hn] at hb
        rcases List.mem_cons.1 hg with rfl | hg
        · exact hb
        · rcases List.mem_cons.1 hg with rfl | hg
          · by_cases hl : lessHp g (bestH b (g :: l)) = true
            · rcases Bool.eq_false_or_eq_true (lessHp (bestH b (g :: l)) b) with k | k
              · exact absurd (lessHp_trans hl k) hn
              · have := lessHp_tot k hb
                rw [this] at hl
                exact absurd hl hn
            · simpa using hl
          · exact h2 g (by simp [hg])
/-- The first form is the least of all positions. -/
theorem form_spec {x y z : Int} {cs : List Cell} (hH : HeapOK x y z cs) : (∃ T ∈ turns, formHp x y z cs = posHp x y z cs T) ∧ ∀ T ∈ turns, lessHp (posHp x y z cs T) (formHp x y z cs) = false := by
  obtain ⟨h1, h2⟩ := best_spec (l := turns.map (posHp x y z cs)) (b := cropHp cs)
  refine ⟨?_, fun T hT => h2 _ (List.mem_cons_of_mem _ (List.mem_map_of_mem hT))⟩
  rcases List.mem_cons.1 h1 with h | h
  · exact ⟨oneT, one_mem, by rw [posHp_one hH]; exact h⟩
  · obtain ⟨T, hT, e⟩ := List.mem_map.1 h
    exact ⟨T, hT, e.symm⟩
theorem form_eq {x y z x' y' z' : Int} {cs ds : List Cell} (hH : HeapOK x y z cs) (hH' : HeapOK x' y' z' ds) (h : ∀ T ∈ turns, ∃ U ∈ turns, posHp x y z cs T = posHp x' y' z' ds U) (h' : ∀ T ∈ turns, ∃ U ∈ turns, posHp x' y' z' ds T = posHp x y z cs U) : formHp x y z cs = formHp x' y' z' ds := by
  obtain ⟨⟨T, hT, e1⟩, h2⟩ := form_spec hH
  obtain ⟨⟨U, hU, e3⟩, h4⟩ := form_spec hH'
  refine lessHp_tot ?_ ?_
  · obtain ⟨V, hV, e⟩ := h T hT
    rw [e1, e]; exact h4 V hV
  · obtain ⟨V, hV, e⟩ := h' U hU
    rw [e3, e]; exact h2 V hV
section
variable {x y z : Int} {cs : List Cell} (hH : HeapOK x y z cs)
include hH
theorem form_turn {T : Turn} (hT : T ∈ turns) : formHp (turnHp x y z T cs).x (turnHp x y z T cs).y (turnHp x y z T cs).z (turnHp x y z T cs).cs = formHp x y z cs := by
  refine form_eq (turnHp_ok hH T) hH (fun U hU => ⟨behind T U, behind_mem T hT U hU, posHp_turn hH hT hU⟩) fun U hU => ?_
  have hi := (inv_mem T hT).1
  refine ⟨behind (invT T) U, behind_mem _ hi U hU, ?_⟩
  rw [posHp_turn hH hT (behind_mem _ hi U hU), (inv_cancel T hT U hU).2.2]
theorem form_crop (h0 : 0 < cs.length) : formHp (cropHp cs).x (cropHp cs).y (cropHp cs).z (cropHp cs).cs = formHp x y z cs :=
  form_eq (crop_ok hH h0) hH (fun U hU => ⟨U, hU, posHp_crop hH h0⟩) fun U hU => ⟨U, hU, (posHp_crop hH h0).symm⟩
theorem form_ok (h0 : 0 < cs.length) : HeapOK (formHp x y z cs).x (formHp x y z cs).y (formHp x y z cs).z (formHp x y z cs).cs ∧ (formHp x y z cs).cs.length = cs.length := by
  obtain ⟨⟨T, hT, e⟩, _⟩ := form_spec hH
  rw [e]
  exact ⟨crop_ok (turnHp_ok hH T) (turnHp_pos hH h0 T), by unfold posHp; rw [cropHp_len, turnHp_len hH hT]⟩
theorem form_form (h0 : 0 < cs.length) : formHp (formHp x y z cs).x (formHp x y z cs).y (formHp x y z cs).z (formHp x y z cs).cs = formHp x y z cs := by
  obtain ⟨⟨T, hT, e⟩, _⟩ := form_spec hH
  have h1 := form_crop (turnHp_ok hH T) (turnHp_pos hH h0 T)
  rw [form_turn hH hT] at h1
  have e2 : cropHp (turnHp x y z T cs).cs = formHp x y z cs := e.symm
  rw [e2] at h1
  exact h1
end

/-- Equally large classes: their size divides the length. -/
theorem classes_dvd {α β : Type} {e : α → α → Bool} {f : α → β} (he : ∀ a b, e a b = true ↔ f a = f b) {n : Nat} : ∀ (k : Nat) (l : List α), l.length ≤ k → (∀ a ∈ l, (l.filter (e a)).length = n) → n ∣ l.length
  | _, [], _, _ => ⟨0, rfl⟩
  | 0, a :: l, h, _ => by simp at h
  | k + 1, a :: l, h, hl => by
    have h1 : (a :: l).length = ((a :: l).filter (e a)).length + ((a :: l).filter fun b => !e a b).length := by
      rw [← List.countP_eq_length_filter, ← List.countP_eq_length_filter]
      have := List.length_eq_countP_add_countP (e a) (l := a :: l)
      simpa using this
    have h2 : n ∣ ((a :: l).filter fun b => !e a b).length := by
      refine classes_dvd he k _ ?_ fun b hb => ?_
      · rw [List.filter_cons, if_neg (by simp [(he a a).2 rfl])]
        have := List.length_filter_le (fun b => !e a b) l
        simp at h; omega
      · obtain ⟨hb1, hb2⟩ := List.mem_filter.1 hb
        rw [List.filter_filter, ← hl b hb1]
        congr 1
        refine List.filter_congr fun v _ => ?_
        by_cases hv : e b v = true
        · rw [hv, Bool.true_and]
          have hav : e a v = false := by
            rcases Bool.eq_false_or_eq_true (e a v) with h | h
            · have := (he a b).2 (((he a v).1 h).trans ((he b v).1 hv).symm)
              rw [this] at hb2; cases hb2
            · exact h
          rw [hav]; rfl
        · rw [show e b v = false by simpa using hv, Bool.false_and]
    rw [h1, hl a (by simp)]
    exact (Nat.dvd_add_right (Nat.dvd_refl n)).2 h2
theorem countP_range {α : Type} {q : α → Bool} {d : α} : ∀ (l : List α), (List.range l.length).countP (fun j => q (l.getD j d)) = l.countP q
  | [] => rfl
  | a :: l => by
    rw [List.length_cons, List.range_succ_eq_map, List.countP_cons, List.countP_map, List.countP_cons, ← countP_range l (q := q) (d := d)]
    rfl
theorem syms_len {x y z : Int} {cs : List Cell} : (symsK x y z cs 24).length = (turns.filter (symB x y z cs)).length := by
  unfold symsK
  rw [List.length_map, ← List.countP_eq_length_filter, ← List.countP_eq_length_filter, ← countP_range turns (d := oneT), turns_len]
  refine List.countP_congr fun j hj => ?_
  have hj := List.mem_range.1 hj
  unfold symAt
  rw [List.getElem?_eq_getElem (by rw [turns_len]; exact hj)]
  simp [turns_len, hj]
/-- The number of symmetries divides 24. -/
theorem syms_dvd {x y z : Int} {cs : List Cell} (hH : HeapOK x y z cs) (h0 : 0 < cs.length) : (symsK x y z cs 24).length ∣ 24 := by
  rw [syms_len, ← turns_len]
  have hsym : ∀ T, symB x y z cs T = true ↔ posHp x y z cs T = cropHp cs := fun T => sameHp
  refine classes_dvd (e := fun T U => !lessHp (posHp x y z cs T) (posHp x y z cs U) && !lessHp (posHp x y z cs U) (posHp x y z cs T)) (f := posHp x y z cs) (fun a b => sameHp) _ turns (Nat.le_refl _) fun T hT => ?_
  obtain ⟨hi, hi2⟩ := inv_mem T hT
  rw [show (turns.filter (symB x y z cs)).length = ((turns.filter (symB x y z cs)).map fun U => behind U T).length from (List.length_map ..).symm]
  have hinj : ((turns.filter (symB x y z cs)).map fun U => behind U T).Nodup := by
    have := turns_nodup.filter (symB x y z cs)
    refine List.pairwise_map.2 ?_
    refine List.Pairwise.imp_of_mem ?_ this
    intro U V hU hV hne e
    have this : behind (behind U T) (invT T) = behind (behind V T) (invT T) := congrArg (fun W => behind W (invT T)) e
    rw [(inv_cancel T hT U (List.mem_filter.1 hU).1).1, (inv_cancel T hT V (List.mem_filter.1 hV).1).1] at this
    exact hne this
  refine same_len (turns_nodup.filter _) hinj fun V => ?_
  rw [List.mem_filter, List.mem_map]
  constructor
  · rintro ⟨hV, hs⟩
    have hs := sameHp.1 hs
    refine ⟨behind V (invT T), List.mem_filter.2 ⟨behind_mem _ hV _ hi, (hsym _).2 ?_⟩, (inv_cancel T hT V hV).2.1⟩
    rw [← posHp_pos hH h0 hV hi, ← hs, posHp_pos hH h0 hT hi, hi2, posHp_one hH]
  · rintro ⟨U, hU, rfl⟩
    obtain ⟨hU, hs⟩ := List.mem_filter.1 hU
    refine ⟨behind_mem _ hU _ hT, sameHp.2 ?_⟩
    rw [← posHp_pos hH h0 hU hT, (hsym U).1 hs, posHp_crop hH h0]

def mir2C (z : Int) (c : Cell) : Cell := ⟨c.a, c.b, z - 1 - c.c⟩
def mir2Hp (x y z : Int) (cs : List Cell) : List Cell := pick x y z fun d => decide (d ∈ cs.map (mir2C z))
theorem mir2C_in {x y z : Int} {c : Cell} (hc : c.inBox x y z) : (mir2C z c).inBox x y z := by
  obtain ⟨⟨_, _⟩, ⟨_, _⟩, ⟨_, _⟩⟩ := hc
  exact ⟨⟨by simp only [mir2C]; omega, by simp only [mir2C]; omega⟩, ⟨by simp only [mir2C]; omega, by simp only [mir2C]; omega⟩, ⟨by simp only [mir2C]; omega, by simp only [mir2C]; omega⟩⟩
/-- Mirrored in one direction and in another: one form. -/
theorem form_mirrors {x y z : Int} {cs : List Cell} (hH : HeapOK x y z cs) : formHp x y z (mir2Hp x y z cs) = formHp x y z (mirHp x y z cs) := by
  have hT : (⟨⟨0, 1, 2⟩, ⟨1, 0, 1⟩⟩ : Turn) ∈ turns := by decide +kernel
  have hm : HeapOK x y z (mirHp x y z cs) := mir_ok hH.1
  have h := form_turn hm hT
  rw [← h]
  have e : (turnHp x y z ⟨⟨0, 1, 2⟩, ⟨1, 0, 1⟩⟩ (mirHp x y z cs)).cs = mir2Hp x y z cs := by
    refine sorted_ext (turnHp_ok hm _).sorted (pick_sorted hH.1 _) fun d => ?_
    rw [mem_turnHp hm]
    unfold mir2Hp
    rw [mem_pick hH.1, decide_eq_true_iff, List.mem_map]
    constructor
    · rintro ⟨c, hc, rfl⟩
      obtain ⟨hc1, hc2⟩ := (mem_pick hH.1).1 hc
      rw [decide_eq_true_iff, List.mem_map] at hc2
      obtain ⟨b, hb, rfl⟩ := hc2
      have e : mapT x y z ⟨⟨0, 1, 2⟩, ⟨1, 0, 1⟩⟩ (mirC x b) = mir2C z b := by
        rw [cell_eq]
        simp [mapT, turnC, sideOf, Cell.at, mirC, mir2C]; omega
      rw [e]
      exact ⟨mir2C_in (hH.mem hb), b, hb, rfl⟩
    · rintro ⟨_, b, hb, rfl⟩
      refine ⟨mirC x b, (mem_pick hH.1).2 ⟨mirC_in (hH.mem hb), decide_eq_true (List.mem_map.2 ⟨b, hb, rfl⟩)⟩, ?_⟩
      rw [cell_eq]
      simp [mapT, turnC, sideOf, Cell.at, mirC, mir2C]; omega
  rw [e]
  rfl
end Go.Ab
