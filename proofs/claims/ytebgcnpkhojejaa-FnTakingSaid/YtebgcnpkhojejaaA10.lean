/- Parts of the proof of FnTakingSaid: Hc Hd C_Dc2 K_Dc2 Dc2 C_De2 K_De2 C_De K_De De C_Dd2 K_Dd2 Dd2 De2 He Jd C_Jj K_Jj Jj Bx C_Jq K_Jq C_Jp K_Jp C_Vd K_Vd C_Vc K_Vc C_Um K_Um Um C_Pb K_Pb Pa Pb Pw Vc Vd Ve Jo C_Hi K_Hi. -/
import Derived.Test.YtebgcnpkhojejaaA9
import Derived.Test.YtebgcnpkhojejaaA4
import Derived.Test.YtebgcnpkhojejaaA6
import Derived.Test.YtebgcnpkhojejaaA8
import Derived.Test.YtebgcnpkhojejaaA3
import Derived.Test.YtebgcnpkhojejaaProg
import Derived.KernelRfl
import Derived.Test.YtebgcnpkhojejaaA5
import Derived.Test.YtebgcnpkhojejaaA7
set_option linter.all false
/- Contracts: the heaps that the laws draw. -/
namespace Go.Ab
open Go
set_option linter.unusedSimpArgs false
set_option linter.unusedVariables false
set_option maxRecDepth 20000

section
variable {p t o a : Nat} {bs : List Nat} {M : Mem}
theorem d_amongNew {xs : List Int} (h : CurAt M p t o bs a) (ha : a ≤ 999990) (h0 : 0 < xs.length) (hxl : xs.length ≤ 1000) : CallsR PG F.spec_l1Cur_among [.ptr p 0, .ref M.length 0 xs.length] (M ++ [some (.row (intL xs) true 1)]) fun v N => (∃ b : Int, v = .I b ∧ b ∈ xs) ∧ DrawN M p t o bs (a + 2) N :=
  (d_among (h.pre (Pre.app _ _)) ha (Live.new (b := .row (intL xs) true 1)).has (by obtain ⟨⟨_, _, _, hp⟩, _⟩ := h; have := hp.lt; omega) h0 hxl).mono fun v N hv => ⟨hv.1, DrawN.of_pre (Pre.app _ _) hv.2⟩
theorem DrawN.up {M N : Mem} {p t o : Nat} {bs : List Nat} {a b : Nat} (h : DrawN M p t o bs a N) (hab : a ≤ b) : DrawN M p t o bs b N := ⟨h.1.keep (fun _ _ => rfl) hab, h.2⟩
theorem d_sides (h : CurAt M p t o bs a) (ha : a ≤ 999900) : CallsR PG F.spec_l1Cur_sides [.ptr p 0] M fun v N => (∃ x y z : Int, v = .tup [.I x, .I y, .I z]) ∧ DrawN M p t o bs (a + 10) N := by
  refine callsR_run K.spec_l1Cur_sides rfl ?_
  simp (disch := omega) only [C.spec_l1Cur_sides, ↓SXd, SXu, slBounds, ↓sop, ↓aop, ↓reduceIte, LV.cells, AOp.dst, LV.I, LV.B, LV.U, LV.S, LV.nil, Nat.reduceEqDiff, Nat.reduceAdd, Nat.reduceMul, Nat.reduceSub, Nat.reduceLeDiff, Nat.reduceBEq, Nat.reduceDiv, Nat.reduceMod, Int.reduceToNat, Int.reduceLT, Int.reduceLE, Int.reduceAdd, Int.reduceSub, Int.reduceMul, Int.reduceEq, Int.reduceNeg, reduceCtorEq, resV, resAll, ARes.ev, LV.flat, ite_true, ite_false, exists_eq_left', exists_eq_left, keyOf, implies_true, fillC, capOf]
  refine callR_of (d_amongNew (xs := [2, 3, 3, 1, 4]) h (by omega) (by simp) (by simp)) ?_
  rintro _ N1 ⟨⟨x, rfl, _⟩, hd1⟩
  simp (disch := omega) only [↓SXd, SXu, slBounds, ↓sop, ↓aop, ↓reduceIte, LV.cells, AOp.dst, LV.I, LV.B, LV.U, LV.S, LV.nil, Nat.reduceEqDiff, Nat.reduceAdd, Nat.reduceMul, Nat.reduceSub, Nat.reduceLeDiff, Nat.reduceBEq, Nat.reduceDiv, Nat.reduceMod, Int.reduceToNat, Int.reduceLT, Int.reduceLE, Int.reduceAdd, Int.reduceSub, Int.reduceMul, Int.reduceEq, Int.reduceNeg, reduceCtorEq, resV, resAll, ARes.ev, LV.flat, ite_true, ite_false, exists_eq_left', exists_eq_left, keyOf, implies_true, fillC, capOf]
  refine callR_of (d_amongNew (xs := [2, 3, 2, 1, 4]) hd1.1 (by omega) (by simp) (by simp)) ?_
  rintro _ N2 ⟨⟨y, rfl, _⟩, hd2⟩
  simp (disch := omega) only [↓SXd, SXu, slBounds, ↓sop, ↓aop, ↓reduceIte, LV.cells, AOp.dst, LV.I, LV.B, LV.U, LV.S, LV.nil, Nat.reduceEqDiff, Nat.reduceAdd, Nat.reduceMul, Nat.reduceSub, Nat.reduceLeDiff, Nat.reduceBEq, Nat.reduceDiv, Nat.reduceMod, Int.reduceToNat, Int.reduceLT, Int.reduceLE, Int.reduceAdd, Int.reduceSub, Int.reduceMul, Int.reduceEq, Int.reduceNeg, reduceCtorEq, resV, resAll, ARes.ev, LV.flat, ite_true, ite_false, exists_eq_left', exists_eq_left, keyOf, implies_true, fillC, capOf]
  refine callR_of (d_amongNew (xs := [2, 3, 3, 1, 4]) hd2.1 (by omega) (by simp) (by simp)) ?_
  rintro _ N3 ⟨⟨z, rfl, _⟩, hd3⟩
  simp (disch := omega) only [↓SXd, SXu, slBounds, ↓sop, ↓aop, ↓reduceIte, LV.cells, AOp.dst, LV.I, LV.B, LV.U, LV.S, LV.nil, Nat.reduceEqDiff, Nat.reduceAdd, Nat.reduceMul, Nat.reduceSub, Nat.reduceLeDiff, Nat.reduceBEq, Nat.reduceDiv, Nat.reduceMod, Int.reduceToNat, Int.reduceLT, Int.reduceLE, Int.reduceAdd, Int.reduceSub, Int.reduceMul, Int.reduceEq, Int.reduceNeg, reduceCtorEq, resV, resAll, ARes.ev, LV.flat, ite_true, ite_false, exists_eq_left', exists_eq_left, keyOf, implies_true, fillC, capOf]
  refine callR_of (d_pick hd3.1 (by omega)) ?_
  rintro _ N4 ⟨⟨b, rfl, _⟩, hd4⟩
  have hD := ((hd1.trans hd2).trans hd3).trans hd4
  by_cases b0 : (b : Int) = 0
  · simp (disch := omega) only [b0, ↓SXd, SXu, slBounds, ↓sop, ↓aop, ↓reduceIte, LV.cells, AOp.dst, LV.I, LV.B, LV.U, LV.S, LV.nil, Nat.reduceEqDiff, Nat.reduceAdd, Nat.reduceMul, Nat.reduceSub, Nat.reduceLeDiff, Nat.reduceBEq, Nat.reduceDiv, Nat.reduceMod, Int.reduceToNat, Int.reduceLT, Int.reduceLE, Int.reduceAdd, Int.reduceSub, Int.reduceMul, Int.reduceEq, Int.reduceNeg, reduceCtorEq, resV, resAll, ARes.ev, LV.flat, ite_true, ite_false, exists_eq_left', exists_eq_left, keyOf, implies_true, fillC, capOf]
    refine callR_of (d_amongNew (xs := [0, 5, -1, 4611686018427387904]) hd4.1 (by omega) (by simp) (by simp)) ?_
    rintro _ N5 ⟨⟨x', rfl, _⟩, hd5⟩
    simp (disch := omega) only [↓SXd, SXu, slBounds, ↓sop, ↓aop, ↓reduceIte, LV.cells, AOp.dst, LV.I, LV.B, LV.U, LV.S, LV.nil, Nat.reduceEqDiff, Nat.reduceAdd, Nat.reduceMul, Nat.reduceSub, Nat.reduceLeDiff, Nat.reduceBEq, Nat.reduceDiv, Nat.reduceMod, Int.reduceToNat, Int.reduceLT, Int.reduceLE, Int.reduceAdd, Int.reduceSub, Int.reduceMul, Int.reduceEq, Int.reduceNeg, reduceCtorEq, resV, resAll, ARes.ev, LV.flat, ite_true, ite_false, exists_eq_left', exists_eq_left, keyOf, implies_true, fillC, capOf]
    exact ⟨⟨_, _, _, rfl⟩, hD.trans hd5⟩
  by_cases b1 : (b : Int) = 1
  · simp (disch := omega) only [b1, ↓SXd, SXu, slBounds, ↓sop, ↓aop, ↓reduceIte, LV.cells, AOp.dst, LV.I, LV.B, LV.U, LV.S, LV.nil, Nat.reduceEqDiff, Nat.reduceAdd, Nat.reduceMul, Nat.reduceSub, Nat.reduceLeDiff, Nat.reduceBEq, Nat.reduceDiv, Nat.reduceMod, Int.reduceToNat, Int.reduceLT, Int.reduceLE, Int.reduceAdd, Int.reduceSub, Int.reduceMul, Int.reduceEq, Int.reduceNeg, reduceCtorEq, resV, resAll, ARes.ev, LV.flat, ite_true, ite_false, exists_eq_left', exists_eq_left, keyOf, implies_true, fillC, capOf]
    refine callR_of (d_amongNew (xs := [0, 5, -1]) hd4.1 (by omega) (by simp) (by simp)) ?_
    rintro _ N5 ⟨⟨x', rfl, _⟩, hd5⟩
    simp (disch := omega) only [↓SXd, SXu, slBounds, ↓sop, ↓aop, ↓reduceIte, LV.cells, AOp.dst, LV.I, LV.B, LV.U, LV.S, LV.nil, Nat.reduceEqDiff, Nat.reduceAdd, Nat.reduceMul, Nat.reduceSub, Nat.reduceLeDiff, Nat.reduceBEq, Nat.reduceDiv, Nat.reduceMod, Int.reduceToNat, Int.reduceLT, Int.reduceLE, Int.reduceAdd, Int.reduceSub, Int.reduceMul, Int.reduceEq, Int.reduceNeg, reduceCtorEq, resV, resAll, ARes.ev, LV.flat, ite_true, ite_false, exists_eq_left', exists_eq_left, keyOf, implies_true, fillC, capOf]
    exact ⟨⟨_, _, _, rfl⟩, hD.trans hd5⟩
  by_cases b2 : (b : Int) = 2
  · simp (disch := omega) only [b2, ↓SXd, SXu, slBounds, ↓sop, ↓aop, ↓reduceIte, LV.cells, AOp.dst, LV.I, LV.B, LV.U, LV.S, LV.nil, Nat.reduceEqDiff, Nat.reduceAdd, Nat.reduceMul, Nat.reduceSub, Nat.reduceLeDiff, Nat.reduceBEq, Nat.reduceDiv, Nat.reduceMod, Int.reduceToNat, Int.reduceLT, Int.reduceLE, Int.reduceAdd, Int.reduceSub, Int.reduceMul, Int.reduceEq, Int.reduceNeg, reduceCtorEq, resV, resAll, ARes.ev, LV.flat, ite_true, ite_false, exists_eq_left', exists_eq_left, keyOf, implies_true, fillC, capOf]
    refine callR_of (d_amongNew (xs := [0, 5, -1]) hd4.1 (by omega) (by simp) (by simp)) ?_
    rintro _ N5 ⟨⟨x', rfl, _⟩, hd5⟩
    simp (disch := omega) only [↓SXd, SXu, slBounds, ↓sop, ↓aop, ↓reduceIte, LV.cells, AOp.dst, LV.I, LV.B, LV.U, LV.S, LV.nil, Nat.reduceEqDiff, Nat.reduceAdd, Nat.reduceMul, Nat.reduceSub, Nat.reduceLeDiff, Nat.reduceBEq, Nat.reduceDiv, Nat.reduceMod, Int.reduceToNat, Int.reduceLT, Int.reduceLE, Int.reduceAdd, Int.reduceSub, Int.reduceMul, Int.reduceEq, Int.reduceNeg, reduceCtorEq, resV, resAll, ARes.ev, LV.flat, ite_true, ite_false, exists_eq_left', exists_eq_left, keyOf, implies_true, fillC, capOf]
    exact ⟨⟨_, _, _, rfl⟩, hD.trans hd5⟩
  · simp (disch := omega) only [b0, b1, b2, ↓SXd, SXu, slBounds, ↓sop, ↓aop, ↓reduceIte, LV.cells, AOp.dst, LV.I, LV.B, LV.U, LV.S, LV.nil, Nat.reduceEqDiff, Nat.reduceAdd, Nat.reduceMul, Nat.reduceSub, Nat.reduceLeDiff, Nat.reduceBEq, Nat.reduceDiv, Nat.reduceMod, Int.reduceToNat, Int.reduceLT, Int.reduceLE, Int.reduceAdd, Int.reduceSub, Int.reduceMul, Int.reduceEq, Int.reduceNeg, reduceCtorEq, resV, resAll, ARes.ev, LV.flat, ite_true, ite_false, exists_eq_left', exists_eq_left, keyOf, implies_true, fillC, capOf]
    exact ⟨⟨_, _, _, rfl⟩, hD.up (by omega)⟩
end
theorem DrawN.keep {M N N' : Mem} {p t o : Nat} {bs : List Nat} {a b : Nat} (h : DrawN M p t o bs a N) (hp : p < M.length) (ht : t < M.length) (hab : a ≤ b) (hl : N.length ≤ N'.length) (hk : ∀ q, q < M.length → N'[q]? = N[q]?) : DrawN M p t o bs b N' := by
  obtain ⟨⟨⟨i, s, h1, h2⟩, h3, h4⟩, h5, h6⟩ := h
  exact ⟨⟨⟨i, s, by omega, Live.at h2 (hk _ hp)⟩, Has.at' h3 (hk _ ht), h4⟩, by omega, fun q q1 q2 => by rw [hk q q1]; exact h6 q q1 q2⟩
theorem sub_heap {x y z : Int} (hS : Sides x y z) {cs : List Cell} (h : cs.Sublist (cellsOf x y z)) : HeapOK x y z cs :=
  HeapOK.of hS ((cellsOf_sorted hS).sublist h) fun c hc => (mem_cellsOf hS).1 (h.mem hc)
section
variable {p t o a : Nat} {bs : List Nat} {M : Mem}
theorem h_l2Heights {x y z : Int} {t o : Nat} {cs : List Cell} {M : Mem} (h : Tri M t o cs) (hH : HeapOK x y z cs) : CallsTo PG F.spec_l2Heights [.agg [.I x, .I y, .I z, .ref t o cs.length]] M (.ref M.length 0 (viewL x y z 2 cs).length) (M ++ [some (.row (intL (viewL x y z 2 cs)) true 1)]) := by
  have hv := h_l2View (d := 2) (M := M ++ [some (.row [.I x, .I y, .I z, .ref t o cs.length] true 0)]) h.app hH (by omega)
  rw [show ((2 : Nat) : Int) = 2 from rfl] at hv
  refine calls_run K.spec_l2Heights rfl ?_
  simp (disch := omega) only [C.spec_l2Heights, ↓SXd, SXu, slBounds, ↓sop, ↓aop, ↓reduceIte, LV.cells, AOp.dst, LV.I, LV.B, LV.U, LV.S, LV.nil, Nat.reduceEqDiff, Nat.reduceAdd, Nat.reduceMul, Nat.reduceSub, Nat.reduceLeDiff, Nat.reduceBEq, Nat.reduceDiv, Nat.reduceMod, Int.reduceToNat, Int.reduceLT, Int.reduceLE, Int.reduceAdd, Int.reduceSub, Int.reduceMul, Int.reduceEq, Int.reduceNeg, reduceCtorEq, resV, resAll, ARes.ev, LV.flat, ite_true, ite_false, exists_eq_left', exists_eq_left, keyOf, implies_true, fillC, capOf]
  refine callK_of hv ?_
  simp (disch := omega) only [↓SXd, SXu, slBounds, ↓sop, ↓aop, ↓reduceIte, LV.cells, AOp.dst, LV.I, LV.B, LV.U, LV.S, LV.nil, Nat.reduceEqDiff, Nat.reduceAdd, Nat.reduceMul, Nat.reduceSub, Nat.reduceLeDiff, Nat.reduceBEq, Nat.reduceDiv, Nat.reduceMod, Int.reduceToNat, Int.reduceLT, Int.reduceLE, Int.reduceAdd, Int.reduceSub, Int.reduceMul, Int.reduceEq, Int.reduceNeg, reduceCtorEq, resV, resAll, ARes.ev, LV.flat, ite_true, ite_false, exists_eq_left', exists_eq_left, keyOf, implies_true, fillC, capOf]
  exact cmp_keepL (Pre.app _ _) (t := M.length + 1) (by omega) (Live.newj rfl) (intL_lo _) (by simp [rn, rn0, rn1])
/-- A heap that was drawn. -/
def HeapN (M : Mem) (x y z : Int) (v : LV) (N : Mem) : Prop := ∃ (cs : List Cell) (u : Nat), v = .agg [.I x, .I y, .I z, .ref u 0 cs.length] ∧ Live N u (.row (triL cs) true 3) ∧ M.length ≤ u ∧ cs.length ≤ 64
theorem d_someHeap {x y z : Int} (h : CurAt M p t o bs a) (ha : a ≤ 999000) : CallsR PG F.spec_l1Cur_someHeap [.ptr p 0, .I x, .I y, .I z] M fun v N => HeapN M x y z v N ∧ DrawN M p t o bs (a + 140) N := by
  obtain ⟨⟨_, _, _, hpl'⟩, hB, _⟩ := id h
  have hpl := hpl'.lt
  refine callsR_run K.spec_l1Cur_someHeap rfl ?_
  simp (disch := omega) only [C.spec_l1Cur_someHeap, ↓SXd, SXu, slBounds, ↓sop, ↓aop, ↓reduceIte, LV.cells, AOp.dst, LV.I, LV.B, LV.U, LV.S, LV.nil, Nat.reduceEqDiff, Nat.reduceAdd, Nat.reduceMul, Nat.reduceSub, Nat.reduceLeDiff, Nat.reduceBEq, Nat.reduceDiv, Nat.reduceMod, Int.reduceToNat, Int.reduceLT, Int.reduceLE, Int.reduceAdd, Int.reduceSub, Int.reduceMul, Int.reduceEq, Int.reduceNeg, reduceCtorEq, resV, resAll, ARes.ev, LV.flat, ite_true, ite_false, exists_eq_left', exists_eq_left, keyOf, implies_true, fillC, capOf]
  refine callK_of (h_l2Empty) ?_
  simp (disch := omega) only [↓SXd, SXu, slBounds, ↓sop, ↓aop, ↓reduceIte, LV.cells, AOp.dst, LV.I, LV.B, LV.U, LV.S, LV.nil, Nat.reduceEqDiff, Nat.reduceAdd, Nat.reduceMul, Nat.reduceSub, Nat.reduceLeDiff, Nat.reduceBEq, Nat.reduceDiv, Nat.reduceMod, Int.reduceToNat, Int.reduceLT, Int.reduceLE, Int.reduceAdd, Int.reduceSub, Int.reduceMul, Int.reduceEq, Int.reduceNeg, reduceCtorEq, resV, resAll, ARes.ev, LV.flat, ite_true, ite_false, exists_eq_left', exists_eq_left, keyOf, implies_true, fillC, capOf]
  have h1 : CurAt (M ++ [some (.row [.I 0, .I 0, .I 0, .nil] true 0), some (.row [] true 3)]) p t o bs a := h.pre (Pre.app _ _)
  have hL1 : Live (M ++ [some (.row [.I 0, .I 0, .I 0, .nil] true 0), some (.row [] true 3)]) (M.length + 1) (.row (triL []) true 3) := Live.newj rfl
  have hL0 : Live (M ++ [some (.row [.I 0, .I 0, .I 0, .nil] true 0), some (.row [] true 3)]) M.length (.row [.I 0, .I 0, .I 0, .nil] true 0) := Live.new
  have hpM : Pre M (M ++ [some (.row [.I 0, .I 0, .I 0, .nil] true 0), some (.row [] true 3)]) := Pre.app _ _
  have ham := d_amongNew (xs := [2, 3, 2, 4]) h1 (by omega) (by simp) (by simp)
  rw [List.append_assoc, List.length_append] at ham
  refine callR_of ham ?_
  rintro _ N1 ⟨⟨odds, rfl, _⟩, hd1⟩
  have htM := hB.lt
  have hN1 := hd1.2.1
  simp only [List.length_append, List.length_cons, List.length_nil] at hN1
  have b8 : Live N1 M.length (.row [.I 0, .I 0, .I 0, .nil] true 0) := Live.at hL0 (hd1.2.2 _ (by simp) (by omega))
  have bc : Live N1 (M.length + 1) (.row (triL []) true 3) := Live.at hL1 (hd1.2.2 _ (by simp) (by omega))
  have hD1 : DrawN M p t o bs (a + 2) N1 := DrawN.of_pre hpM hd1
  simp (disch := omega) only [splice, ↓SXd, SXu, slBounds, ↓sop, ↓aop, ↓reduceIte, LV.cells, AOp.dst, LV.I, LV.B, LV.U, LV.S, LV.nil, Nat.reduceEqDiff, Nat.reduceAdd, Nat.reduceMul, Nat.reduceSub, Nat.reduceLeDiff, Nat.reduceBEq, Nat.reduceDiv, Nat.reduceMod, Int.reduceToNat, Int.reduceLT, Int.reduceLE, Int.reduceAdd, Int.reduceSub, Int.reduceMul, Int.reduceEq, Int.reduceNeg, reduceCtorEq, resV, resAll, ARes.ev, LV.flat, ite_true, ite_false, exists_eq_left', exists_eq_left, keyOf, implies_true, fillC, capOf]
  refine callK_of (h_l2Sides) ?_
  simp (disch := omega) only [↓SXd, SXu, slBounds, ↓sop, ↓aop, ↓reduceIte, LV.cells, AOp.dst, LV.I, LV.B, LV.U, LV.S, LV.nil, Nat.reduceEqDiff, Nat.reduceAdd, Nat.reduceMul, Nat.reduceSub, Nat.reduceLeDiff, Nat.reduceBEq, Nat.reduceDiv, Nat.reduceMod, Int.reduceToNat, Int.reduceLT, Int.reduceLE, Int.reduceAdd, Int.reduceSub, Int.reduceMul, Int.reduceEq, Int.reduceNeg, reduceCtorEq, resV, resAll, ARes.ev, LV.flat, ite_true, ite_false, exists_eq_left', exists_eq_left, keyOf, implies_true, fillC, capOf]
  by_cases hS : Sides x y z
  · rw [decide_eq_true hS]
    have hcl : (cellsOf x y z).length = vol x y z := by simp [cellsOf]
    have hv := vol_cast hS
    simp (disch := omega) only [splice, ↓SXd, SXu, slBounds, ↓sop, ↓aop, ↓reduceIte, LV.cells, AOp.dst, LV.I, LV.B, LV.U, LV.S, LV.nil, Nat.reduceEqDiff, Nat.reduceAdd, Nat.reduceMul, Nat.reduceSub, Nat.reduceLeDiff, Nat.reduceBEq, Nat.reduceDiv, Nat.reduceMod, Int.reduceToNat, Int.reduceLT, Int.reduceLE, Int.reduceAdd, Int.reduceSub, Int.reduceMul, Int.reduceEq, Int.reduceNeg, reduceCtorEq, resV, resAll, ARes.ev, LV.flat, ite_true, ite_false, exists_eq_left', exists_eq_left, keyOf, implies_true, fillC, capOf]
    refine callK_of (h_l2All hS) ?_
    simp (disch := omega) only [↓SXd, SXu, slBounds, ↓sop, ↓aop, ↓reduceIte, LV.cells, AOp.dst, LV.I, LV.B, LV.U, LV.S, LV.nil, Nat.reduceEqDiff, Nat.reduceAdd, Nat.reduceMul, Nat.reduceSub, Nat.reduceLeDiff, Nat.reduceBEq, Nat.reduceDiv, Nat.reduceMod, Int.reduceToNat, Int.reduceLT, Int.reduceLE, Int.reduceAdd, Int.reduceSub, Int.reduceMul, Int.reduceEq, Int.reduceNeg, reduceCtorEq, resV, resAll, ARes.ev, LV.flat, ite_true, ite_false, exists_eq_left', exists_eq_left, keyOf, implies_true, fillC, capOf]
    refine ev_loop (fun m fr M' => ∃ (i u : Nat) (cs : List Cell), i + m = (cellsOf x y z).length ∧ DrawN M p t o bs (a + 2 + 2 * i) M' ∧ N1.length + 2 ≤ M'.length ∧ Live M' M.length (.row [.I 0, .I 0, .I 0, .nil] true 0) ∧ Live M' N1.length (.row [.I x, .I y, .I z, .ref u 0 cs.length] true 0) ∧ Live M' (N1.length + 1) (.row (triL (cellsOf x y z)) true 3) ∧ Live M' u (.row (triL cs) true 3) ∧
      (u = M.length + 1 ∨ N1.length + 2 ≤ u) ∧ cs.Sublist ((cellsOf x y z).take i) ∧
      fr 0 = .ptr p 0 ∧ fr 1 = .I x ∧ fr 2 = .I y ∧ fr 3 = .I z ∧ fr 8 = .ptr M.length 0 ∧ fr 9 = .ptr N1.length 0 ∧ fr 10 = .I odds ∧ fr 11 = .ref (N1.length + 1) 0 (cellsOf x y z).length ∧ fr 12 = .I i) (cellsOf x y z).length
      ⟨0, M.length + 1, [], by omega, hD1.keep hpl htM (by omega) (by simp) fun q q1 => List.getElem?_append_left (by omega), by simp, b8.app, Live.new, Live.newj rfl, bc.app, .inl rfl, by simp, rfl, rfl, rfl, rfl, rfl, rfl, rfl, rfl, rfl⟩ ?_
    rintro m fr M' ⟨i, u, cs, hi, hd, hMl, c8, c9, ca, cu, hu, hsub, f0, f1, f2, f3, f8, f9, f10, f11, f12⟩
    have hsl := hsub.length_le
    have htl := List.length_take_le i (cellsOf x y z)
    simp (disch := omega) only [f0, f1, f2, f3, f8, f9, f10, f11, f12, ↓SXd, SXu, slBounds, ↓sop, ↓aop, ↓reduceIte, LV.cells, AOp.dst, LV.I, LV.B, LV.U, LV.S, LV.nil, Nat.reduceEqDiff, Nat.reduceAdd, Nat.reduceMul, Nat.reduceSub, Nat.reduceLeDiff, Nat.reduceBEq, Nat.reduceDiv, Nat.reduceMod, Int.reduceToNat, Int.reduceLT, Int.reduceLE, Int.reduceAdd, Int.reduceSub, Int.reduceMul, Int.reduceEq, Int.reduceNeg, reduceCtorEq, resV, resAll, ARes.ev, LV.flat, ite_true, ite_false, exists_eq_left', exists_eq_left, keyOf, implies_true, fillC, capOf]
    refine condC_dec (fun hlt => ?_) (fun hlt => ?_)
    · have hil : i < (cellsOf x y z).length := by omega
      have hts := take_snoc' (d := default) hil
      simp (disch := omega) only [f0, f1, f2, f3, f8, f9, f10, f11, f12, ↓SXd, SXu, slBounds, ↓sop, ↓aop, ↓reduceIte, LV.cells, AOp.dst, LV.I, LV.B, LV.U, LV.S, LV.nil, Nat.reduceEqDiff, Nat.reduceAdd, Nat.reduceMul, Nat.reduceSub, Nat.reduceLeDiff, Nat.reduceBEq, Nat.reduceDiv, Nat.reduceMod, Int.reduceToNat, Int.reduceLT, Int.reduceLE, Int.reduceAdd, Int.reduceSub, Int.reduceMul, Int.reduceEq, Int.reduceNeg, reduceCtorEq, resV, resAll, ARes.ev, LV.flat, ite_true, ite_false, exists_eq_left', exists_eq_left, keyOf, implies_true, fillC, capOf]
      refine callR_of (d_one hd.1 (by omega)) ?_
      rintro _ N2 ⟨⟨b, rfl⟩, hd2⟩
      have k2 : ∀ q, M.length ≤ q → q < M'.length → N2[q]? = M'[q]? := fun q q1 q2 => hd2.2.2 q q2 (by omega)
      have hN2 := hd2.2.1
      have e8 := Live.at c8 (k2 _ (by omega) c8.lt)
      have e9 := Live.at c9 (k2 _ (by omega) c9.lt)
      have ea := Live.at ca (k2 _ (by omega) ca.lt)
      have eu := Live.at cu (k2 _ (by omega) cu.lt)
      have hDD := hd.trans hd2
      have hg2 := ea.tri0 hil
      generalize (cellsOf x y z).getD i default = c at hts hg2
      have e8l := e8.lt
      have e9l := e9.lt
      have eal := ea.lt
      cases b with
      | true =>
        simp (disch := omega) only [f0, f1, f2, f3, f8, f9, f10, f11, f12, e9.cell, hg2, Cell.row, Nat.zero_add, ↓SXd, SXu, slBounds, ↓sop, ↓aop, ↓reduceIte, LV.cells, AOp.dst, LV.I, LV.B, LV.U, LV.S, LV.nil, Nat.reduceEqDiff, Nat.reduceAdd, Nat.reduceMul, Nat.reduceSub, Nat.reduceLeDiff, Nat.reduceBEq, Nat.reduceDiv, Nat.reduceMod, Int.reduceToNat, Int.reduceLT, Int.reduceLE, Int.reduceAdd, Int.reduceSub, Int.reduceMul, Int.reduceEq, Int.reduceNeg, reduceCtorEq, resV, resAll, ARes.ev, LV.flat, ite_true, ite_false, exists_eq_left', exists_eq_left, keyOf, implies_true, fillC, capOf]
        refine appendK_cell eu (by omega) fun N' l1 l2 l3 => ?_
        have d9 := live_step e9 (by omega) l3
        simp (disch := omega) only [f0, f1, f2, f3, f8, f9, f10, f11, f12, ↓SXd, SXu, slBounds, ↓sop, ↓aop, ↓reduceIte, LV.cells, AOp.dst, LV.I, LV.B, LV.U, LV.S, LV.nil, Nat.reduceEqDiff, Nat.reduceAdd, Nat.reduceMul, Nat.reduceSub, Nat.reduceLeDiff, Nat.reduceBEq, Nat.reduceDiv, Nat.reduceMod, Int.reduceToNat, Int.reduceLT, Int.reduceLE, Int.reduceAdd, Int.reduceSub, Int.reduceMul, Int.reduceEq, Int.reduceNeg, reduceCtorEq, resV, resAll, ARes.ev, LV.flat, ite_true, ite_false, exists_eq_left', exists_eq_left, keyOf, implies_true, fillC, capOf]
        refine memK_one d9 (by simp) fun N3 j1 j2 j3 => ?_
        simp (disch := omega) only [f0, f1, f2, f3, f8, f9, f10, f11, f12, ↓SXd, SXu, slBounds, ↓sop, ↓aop, ↓reduceIte, LV.cells, AOp.dst, LV.I, LV.B, LV.U, LV.S, LV.nil, Nat.reduceEqDiff, Nat.reduceAdd, Nat.reduceMul, Nat.reduceSub, Nat.reduceLeDiff, Nat.reduceBEq, Nat.reduceDiv, Nat.reduceMod, Int.reduceToNat, Int.reduceLT, Int.reduceLE, Int.reduceAdd, Int.reduceSub, Int.reduceMul, Int.reduceEq, Int.reduceNeg, reduceCtorEq, resV, resAll, ARes.ev, LV.flat, ite_true, ite_false, exists_eq_left', exists_eq_left, keyOf, implies_true, fillC, capOf]
        rw [cell_eta] at l2 j2
        exact ⟨m - 1, by omega, i + 1, N2.length + 1, cs ++ [c], by omega, hDD.keep hpl htM (by omega) (by omega) fun q q1 => by rw [j3 q (by omega) (by omega), l3 q (by omega) (by omega)], by omega, live_step (live_step e8 (by omega) l3) (by omega) j3, j2, live_step (live_step ea (by omega) l3) (by omega) j3, live_step l2 (by omega) j3, by omega, by rw [hts]; exact hsub.append (List.Sublist.refl _), f0, f1, f2, f3, f8, f9, f10, f11, eqI (natI _)⟩
      | false =>
        simp (disch := omega) only [f0, f1, f2, f3, f8, f9, f10, f11, f12, ↓SXd, SXu, slBounds, ↓sop, ↓aop, ↓reduceIte, LV.cells, AOp.dst, LV.I, LV.B, LV.U, LV.S, LV.nil, Nat.reduceEqDiff, Nat.reduceAdd, Nat.reduceMul, Nat.reduceSub, Nat.reduceLeDiff, Nat.reduceBEq, Nat.reduceDiv, Nat.reduceMod, Int.reduceToNat, Int.reduceLT, Int.reduceLE, Int.reduceAdd, Int.reduceSub, Int.reduceMul, Int.reduceEq, Int.reduceNeg, reduceCtorEq, resV, resAll, ARes.ev, LV.flat, ite_true, ite_false, exists_eq_left', exists_eq_left, keyOf, implies_true, fillC, capOf]
        exact ⟨m - 1, by omega, i + 1, u, cs, by omega, hDD.up (by omega), by omega, e8, e9, ea, eu, hu, by rw [hts]; exact hsub.trans (List.sublist_append_left _ _), f0, f1, f2, f3, f8, f9, f10, f11, eqI (natI _)⟩
    · have hil : i = (cellsOf x y z).length := by omega
      subst hil
      rw [List.take_length] at hsub
      have hH := sub_heap hS hsub
      simp (disch := omega) only [f0, f1, f2, f3, f8, f9, f10, f11, f12, ↓SXd, SXu, slBounds, ↓sop, ↓aop, ↓reduceIte, LV.cells, AOp.dst, LV.I, LV.B, LV.U, LV.S, LV.nil, Nat.reduceEqDiff, Nat.reduceAdd, Nat.reduceMul, Nat.reduceSub, Nat.reduceLeDiff, Nat.reduceBEq, Nat.reduceDiv, Nat.reduceMod, Int.reduceToNat, Int.reduceLT, Int.reduceLE, Int.reduceAdd, Int.reduceSub, Int.reduceMul, Int.reduceEq, Int.reduceNeg, reduceCtorEq, resV, resAll, ARes.ev, LV.flat, ite_true, ite_false, exists_eq_left', exists_eq_left, keyOf, implies_true, fillC, capOf]
      refine callR_of (d_pick hd.1 (by omega)) ?_
      rintro _ N2 ⟨⟨b, rfl, _⟩, hd2⟩
      have k2 : ∀ q, M.length ≤ q → q < M'.length → N2[q]? = M'[q]? := fun q q1 q2 => hd2.2.2 q q2 (by omega)
      have hN2 := hd2.2.1
      have e8 := Live.at c8 (k2 _ (by omega) c8.lt)
      have e9 := Live.at c9 (k2 _ (by omega) c9.lt)
      have eu := Live.at cu (k2 _ (by omega) cu.lt)
      have hDD := hd.trans hd2
      have hfin : ∀ {N3 : Mem} {u3 : Nat} {cs3 : List Cell}, Pre N2 N3 → Live N3 u3 (.row (triL cs3) true 3) → cs3.length ≤ 64 → M.length ≤ u3 → u3 ≠ M.length → u3 ≠ N1.length → ∀ {N4 N5 : Mem}, N4.length = N3.length → (∀ q, q ≠ N1.length → q < N3.length → N4[q]? = N3[q]?) → N5.length = N4.length → (∀ q, q ≠ M.length → q < N4.length → N5[q]? = N4[q]?) → HeapN M x y z (.agg [.I x, .I y, .I z, .ref u3 0 cs3.length]) N5 ∧ DrawN M p t o bs (a + 140) N5 := fun {N3 u3 cs3} hp3 hl3 hc3 h1 h2 h3 {N4 N5} a1 a2 a3 a4 => by
        have hl := hp3.1
        have hul := hl3.lt
        exact ⟨⟨cs3, u3, rfl, live_step (live_step hl3 h3 a2) h2 a4, h1, hc3⟩, hDD.keep hpl htM (by omega) (by omega) fun q q1 => by rw [a4 q (by omega) (by omega), a2 q (by omega) (by omega)]; exact hp3.2 q (by omega)⟩
      by_cases b0 : (b : Int) = 0
      · simp (disch := omega) only [b0, f0, f1, f2, f3, f8, f9, f10, f11, f12, e9.cells, ↓SXd, SXu, slBounds, ↓sop, ↓aop, ↓reduceIte, LV.cells, AOp.dst, LV.I, LV.B, LV.U, LV.S, LV.nil, Nat.reduceEqDiff, Nat.reduceAdd, Nat.reduceMul, Nat.reduceSub, Nat.reduceLeDiff, Nat.reduceBEq, Nat.reduceDiv, Nat.reduceMod, Int.reduceToNat, Int.reduceLT, Int.reduceLE, Int.reduceAdd, Int.reduceSub, Int.reduceMul, Int.reduceEq, Int.reduceNeg, reduceCtorEq, resV, resAll, ARes.ev, LV.flat, ite_true, ite_false, exists_eq_left', exists_eq_left, keyOf, implies_true, fillC, capOf]
        refine callR_of (h_OtherCells eu.has (by omega)) ?_
        rintro _ N3 ⟨h1, _, hp3⟩
        obtain ⟨u3, rfl, hl3, hu3⟩ := h1 hH
        have hl := hp3.1
        simp (disch := omega) only [f0, f1, f2, f3, f8, f9, f10, f11, f12, ↓SXd, SXu, slBounds, ↓sop, ↓aop, ↓reduceIte, LV.cells, AOp.dst, LV.I, LV.B, LV.U, LV.S, LV.nil, Nat.reduceEqDiff, Nat.reduceAdd, Nat.reduceMul, Nat.reduceSub, Nat.reduceLeDiff, Nat.reduceBEq, Nat.reduceDiv, Nat.reduceMod, Int.reduceToNat, Int.reduceLT, Int.reduceLE, Int.reduceAdd, Int.reduceSub, Int.reduceMul, Int.reduceEq, Int.reduceNeg, reduceCtorEq, resV, resAll, ARes.ev, LV.flat, ite_true, ite_false, exists_eq_left', exists_eq_left, keyOf, implies_true, fillC, capOf]
        refine memK_box (e9.pre hp3) (by simp) fun N4 j1 j2 j3 => ?_
        simp (disch := omega) only [f0, f1, f2, f3, f8, f9, f10, f11, f12, j2.cells, ↓SXd, SXu, slBounds, ↓sop, ↓aop, ↓reduceIte, LV.cells, AOp.dst, LV.I, LV.B, LV.U, LV.S, LV.nil, Nat.reduceEqDiff, Nat.reduceAdd, Nat.reduceMul, Nat.reduceSub, Nat.reduceLeDiff, Nat.reduceBEq, Nat.reduceDiv, Nat.reduceMod, Int.reduceToNat, Int.reduceLT, Int.reduceLE, Int.reduceAdd, Int.reduceSub, Int.reduceMul, Int.reduceEq, Int.reduceNeg, reduceCtorEq, resV, resAll, ARes.ev, LV.flat, ite_true, ite_false, exists_eq_left', exists_eq_left, keyOf, implies_true, fillC, capOf]
        refine memK_box (live_step (e8.pre hp3) (by omega) j3) (by simp) fun N5 i1 i2 i3 => ?_
        simp (disch := omega) only [f0, f1, f2, f3, f8, f9, f10, f11, f12, i2.cells, ↓SXd, SXu, slBounds, ↓sop, ↓aop, ↓reduceIte, LV.cells, AOp.dst, LV.I, LV.B, LV.U, LV.S, LV.nil, Nat.reduceEqDiff, Nat.reduceAdd, Nat.reduceMul, Nat.reduceSub, Nat.reduceLeDiff, Nat.reduceBEq, Nat.reduceDiv, Nat.reduceMod, Int.reduceToNat, Int.reduceLT, Int.reduceLE, Int.reduceAdd, Int.reduceSub, Int.reduceMul, Int.reduceEq, Int.reduceNeg, reduceCtorEq, resV, resAll, ARes.ev, LV.flat, ite_true, ite_false, exists_eq_left', exists_eq_left, keyOf, implies_true, fillC, capOf]
        exact hfin hp3 hl3 (pick_len hS _) (by omega) (by omega) (by omega) j1 j3 i1 i3
      by_cases b1 : (b : Int) = 1
      · simp (disch := omega) only [b1, f0, f1, f2, f3, f8, f9, f10, f11, f12, e9.cells, ↓SXd, SXu, slBounds, ↓sop, ↓aop, ↓reduceIte, LV.cells, AOp.dst, LV.I, LV.B, LV.U, LV.S, LV.nil, Nat.reduceEqDiff, Nat.reduceAdd, Nat.reduceMul, Nat.reduceSub, Nat.reduceLeDiff, Nat.reduceBEq, Nat.reduceDiv, Nat.reduceMod, Int.reduceToNat, Int.reduceLT, Int.reduceLE, Int.reduceAdd, Int.reduceSub, Int.reduceMul, Int.reduceEq, Int.reduceNeg, reduceCtorEq, resV, resAll, ARes.ev, LV.flat, ite_true, ite_false, exists_eq_left', exists_eq_left, keyOf, implies_true, fillC, capOf]
        refine callN_of (h_l2Heights eu.has hH) ?_
        intro w N3 hw hp3 hl3
        have hl := hp3.1
        simp (disch := omega) only [f0, f1, f2, f3, f8, f9, f10, f11, f12, ↓SXd, SXu, slBounds, ↓sop, ↓aop, ↓reduceIte, LV.cells, AOp.dst, LV.I, LV.B, LV.U, LV.S, LV.nil, Nat.reduceEqDiff, Nat.reduceAdd, Nat.reduceMul, Nat.reduceSub, Nat.reduceLeDiff, Nat.reduceBEq, Nat.reduceDiv, Nat.reduceMod, Int.reduceToNat, Int.reduceLT, Int.reduceLE, Int.reduceAdd, Int.reduceSub, Int.reduceMul, Int.reduceEq, Int.reduceNeg, reduceCtorEq, resV, resAll, ARes.ev, LV.flat, ite_true, ite_false, exists_eq_left', exists_eq_left, keyOf, implies_true, fillC, capOf]
        refine callR_of (h_l2Stack hS hl3.has (by
          rw [viewL_len]
          have := prod_le hS
          have e : linesOf x y z 2 = x * y := rfl
          omega)) ?_
        rintro _ N4 ⟨u4, rfl, hl4, hu4, hp4⟩
        have hp34 := hp3.trans hp4
        have hll := hp4.1
        simp (disch := omega) only [f0, f1, f2, f3, f8, f9, f10, f11, f12, ↓SXd, SXu, slBounds, ↓sop, ↓aop, ↓reduceIte, LV.cells, AOp.dst, LV.I, LV.B, LV.U, LV.S, LV.nil, Nat.reduceEqDiff, Nat.reduceAdd, Nat.reduceMul, Nat.reduceSub, Nat.reduceLeDiff, Nat.reduceBEq, Nat.reduceDiv, Nat.reduceMod, Int.reduceToNat, Int.reduceLT, Int.reduceLE, Int.reduceAdd, Int.reduceSub, Int.reduceMul, Int.reduceEq, Int.reduceNeg, reduceCtorEq, resV, resAll, ARes.ev, LV.flat, ite_true, ite_false, exists_eq_left', exists_eq_left, keyOf, implies_true, fillC, capOf]
        refine memK_box (e9.pre hp34) (by simp) fun N5 j1 j2 j3 => ?_
        simp (disch := omega) only [f0, f1, f2, f3, f8, f9, f10, f11, f12, j2.cells, ↓SXd, SXu, slBounds, ↓sop, ↓aop, ↓reduceIte, LV.cells, AOp.dst, LV.I, LV.B, LV.U, LV.S, LV.nil, Nat.reduceEqDiff, Nat.reduceAdd, Nat.reduceMul, Nat.reduceSub, Nat.reduceLeDiff, Nat.reduceBEq, Nat.reduceDiv, Nat.reduceMod, Int.reduceToNat, Int.reduceLT, Int.reduceLE, Int.reduceAdd, Int.reduceSub, Int.reduceMul, Int.reduceEq, Int.reduceNeg, reduceCtorEq, resV, resAll, ARes.ev, LV.flat, ite_true, ite_false, exists_eq_left', exists_eq_left, keyOf, implies_true, fillC, capOf]
        refine memK_box (live_step (e8.pre hp34) (by omega) j3) (by simp) fun N6 i1 i2 i3 => ?_
        simp (disch := omega) only [f0, f1, f2, f3, f8, f9, f10, f11, f12, i2.cells, ↓SXd, SXu, slBounds, ↓sop, ↓aop, ↓reduceIte, LV.cells, AOp.dst, LV.I, LV.B, LV.U, LV.S, LV.nil, Nat.reduceEqDiff, Nat.reduceAdd, Nat.reduceMul, Nat.reduceSub, Nat.reduceLeDiff, Nat.reduceBEq, Nat.reduceDiv, Nat.reduceMod, Int.reduceToNat, Int.reduceLT, Int.reduceLE, Int.reduceAdd, Int.reduceSub, Int.reduceMul, Int.reduceEq, Int.reduceNeg, reduceCtorEq, resV, resAll, ARes.ev, LV.flat, ite_true, ite_false, exists_eq_left', exists_eq_left, keyOf, implies_true, fillC, capOf]
        exact hfin hp34 hl4 (pick_len hS _) (by omega) (by omega) (by omega) j1 j3 i1 i3
      · simp (disch := omega) only [b0, b1, f0, f1, f2, f3, f8, f9, f10, f11, f12, e9.cells, ↓SXd, SXu, slBounds, ↓sop, ↓aop, ↓reduceIte, LV.cells, AOp.dst, LV.I, LV.B, LV.U, LV.S, LV.nil, Nat.reduceEqDiff, Nat.reduceAdd, Nat.reduceMul, Nat.reduceSub, Nat.reduceLeDiff, Nat.reduceBEq, Nat.reduceDiv, Nat.reduceMod, Int.reduceToNat, Int.reduceLT, Int.reduceLE, Int.reduceAdd, Int.reduceSub, Int.reduceMul, Int.reduceEq, Int.reduceNeg, reduceCtorEq, resV, resAll, ARes.ev, LV.flat, ite_true, ite_false, exists_eq_left', exists_eq_left, keyOf, implies_true, fillC, capOf]
        refine memK_box e8 (by simp) fun N5 i1 i2 i3 => ?_
        simp (disch := omega) only [f0, f1, f2, f3, f8, f9, f10, f11, f12, i2.cells, ↓SXd, SXu, slBounds, ↓sop, ↓aop, ↓reduceIte, LV.cells, AOp.dst, LV.I, LV.B, LV.U, LV.S, LV.nil, Nat.reduceEqDiff, Nat.reduceAdd, Nat.reduceMul, Nat.reduceSub, Nat.reduceLeDiff, Nat.reduceBEq, Nat.reduceDiv, Nat.reduceMod, Int.reduceToNat, Int.reduceLT, Int.reduceLE, Int.reduceAdd, Int.reduceSub, Int.reduceMul, Int.reduceEq, Int.reduceNeg, reduceCtorEq, resV, resAll, ARes.ev, LV.flat, ite_true, ite_false, exists_eq_left', exists_eq_left, keyOf, implies_true, fillC, capOf]
        exact hfin (Pre.refl _) eu (by omega) (by omega) (by omega) (by omega) rfl (fun _ _ _ => rfl) i1 i3
  · rw [decide_eq_false hS]
    simp (disch := omega) only [splice, ↓SXd, SXu, slBounds, ↓sop, ↓aop, ↓reduceIte, LV.cells, AOp.dst, LV.I, LV.B, LV.U, LV.S, LV.nil, Nat.reduceEqDiff, Nat.reduceAdd, Nat.reduceMul, Nat.reduceSub, Nat.reduceLeDiff, Nat.reduceBEq, Nat.reduceDiv, Nat.reduceMod, Int.reduceToNat, Int.reduceLT, Int.reduceLE, Int.reduceAdd, Int.reduceSub, Int.reduceMul, Int.reduceEq, Int.reduceNeg, reduceCtorEq, resV, resAll, ARes.ev, LV.flat, ite_true, ite_false, exists_eq_left', exists_eq_left, keyOf, implies_true, fillC, capOf]
    refine memK_box b8.app (by simp) fun N3 j1 j2 j3 => ?_
    simp (disch := omega) only [j2.cells, ↓SXd, SXu, slBounds, ↓sop, ↓aop, ↓reduceIte, LV.cells, AOp.dst, LV.I, LV.B, LV.U, LV.S, LV.nil, Nat.reduceEqDiff, Nat.reduceAdd, Nat.reduceMul, Nat.reduceSub, Nat.reduceLeDiff, Nat.reduceBEq, Nat.reduceDiv, Nat.reduceMod, Int.reduceToNat, Int.reduceLT, Int.reduceLE, Int.reduceAdd, Int.reduceSub, Int.reduceMul, Int.reduceEq, Int.reduceNeg, reduceCtorEq, resV, resAll, ARes.ev, LV.flat, ite_true, ite_false, exists_eq_left', exists_eq_left, keyOf, implies_true, fillC, capOf]
    refine ⟨⟨[], M.length + 1, rfl, live_step bc.app (by omega) j3, by omega, by simp⟩, hD1.keep hpl htM (by omega) (by rw [j1]; simp) fun q q1 => by rw [j3 q (by omega) (by simp; omega), List.getElem?_append_left (by omega)]⟩
end
end Go.Ab

/- Contracts: the heap that a law draws from its bytes. -/
namespace Go.Ab
open Go
set_option linter.unusedSimpArgs false
set_option linter.unusedVariables false
set_option maxRecDepth 20000

/-- A new reader. -/
theorem CurAt.new {t o : Nat} {bs : List Nat} {M : Mem} (hB : Bytes M t o bs) (h255 : ∀ b ∈ bs, b ≤ 255) (hl : bs.length ≤ 1000000000) : CurAt (M ++ [some (.row [.ref t o bs.length, .I 0, .val (.int .u64 0)] true 0)]) M.length t o bs 0 := by
  have ht := hB.lt
  exact ⟨⟨0, 0, Nat.le_refl _, Live.new⟩, Has.app hB, by omega, h255, hl⟩
/-- A heap, valid or not, all of whose cells are new. -/
def HeapD (M : Mem) (v : LV) (N : Mem) : Prop := ∃ (x y z : Int) (w : LV) (cs : List Cell), v = .agg [.I x, .I y, .I z, w] ∧ ((w = .nil ∧ cs = []) ∨ ∃ u, w = .ref u 0 cs.length ∧ Live N u (.row (triL cs) true 3)) ∧ Newer M w ∧ cs.length ≤ 65
theorem d_heap {p t o a : Nat} {bs : List Nat} {M : Mem} (h : CurAt M p t o bs a) (ha : a ≤ 990000) : CallsR PG F.spec_l1Cur_heap [.ptr p 0] M fun v N => HeapD M v N ∧ DrawN M p t o bs (a + 160) N := by
  obtain ⟨⟨_, _, _, hpl'⟩, hB, _⟩ := id h
  have hpl := hpl'.lt
  have htM := hB.lt
  refine callsR_run K.spec_l1Cur_heap rfl ?_
  simp (disch := omega) only [C.spec_l1Cur_heap, ↓SXd, SXu, slBounds, ↓sop, ↓aop, ↓reduceIte, LV.cells, AOp.dst, LV.I, LV.B, LV.U, LV.S, LV.nil, Nat.reduceEqDiff, Nat.reduceAdd, Nat.reduceMul, Nat.reduceSub, Nat.reduceLeDiff, Nat.reduceBEq, Nat.reduceDiv, Nat.reduceMod, Int.reduceToNat, Int.reduceLT, Int.reduceLE, Int.reduceAdd, Int.reduceSub, Int.reduceMul, Int.reduceEq, Int.reduceNeg, reduceCtorEq, resV, resAll, ARes.ev, LV.flat, ite_true, ite_false, exists_eq_left', exists_eq_left, keyOf, implies_true, fillC, capOf]
  have h0 : CurAt (M ++ [some (.row [.I 0, .I 0, .I 0, .val (.slice none 0 0)] true 0)]) p t o bs a := h.pre (Pre.app _ _)
  refine callR_of (d_sides h0 (by omega)) ?_
  rintro _ N1 ⟨⟨x, y, z, rfl⟩, hd1⟩
  have hN1 := hd1.2.1
  rw [List.length_append, List.length_singleton] at hN1
  have b2 : Live N1 M.length (.row [.I 0, .I 0, .I 0, .val (.slice none 0 0)] true 0) := Live.at Live.new (hd1.2.2 _ (by simp) (by omega))
  have hD1 := DrawN.of_pre (Pre.app _ _) hd1
  simp (disch := omega) only [↓SXd, SXu, slBounds, ↓sop, ↓aop, ↓reduceIte, LV.cells, AOp.dst, LV.I, LV.B, LV.U, LV.S, LV.nil, Nat.reduceEqDiff, Nat.reduceAdd, Nat.reduceMul, Nat.reduceSub, Nat.reduceLeDiff, Nat.reduceBEq, Nat.reduceDiv, Nat.reduceMod, Int.reduceToNat, Int.reduceLT, Int.reduceLE, Int.reduceAdd, Int.reduceSub, Int.reduceMul, Int.reduceEq, Int.reduceNeg, reduceCtorEq, resV, resAll, ARes.ev, LV.flat, ite_true, ite_false, exists_eq_left', exists_eq_left, keyOf, implies_true, fillC, capOf]
  refine callR_of (d_someHeap hd1.1 (by omega)) ?_
  rintro _ N2 ⟨⟨cs, u, rfl, hu, hul, hcl⟩, hd2⟩
  have hN2 := hd2.2.1
  have c2 := Live.at b2 (hd2.2.2 _ b2.lt (by omega))
  have hD2 := hD1.trans hd2
  have hull := hu.lt
  simp (disch := omega) only [splice, ↓SXd, SXu, slBounds, ↓sop, ↓aop, ↓reduceIte, LV.cells, AOp.dst, LV.I, LV.B, LV.U, LV.S, LV.nil, Nat.reduceEqDiff, Nat.reduceAdd, Nat.reduceMul, Nat.reduceSub, Nat.reduceLeDiff, Nat.reduceBEq, Nat.reduceDiv, Nat.reduceMod, Int.reduceToNat, Int.reduceLT, Int.reduceLE, Int.reduceAdd, Int.reduceSub, Int.reduceMul, Int.reduceEq, Int.reduceNeg, reduceCtorEq, resV, resAll, ARes.ev, LV.flat, ite_true, ite_false, exists_eq_left', exists_eq_left, keyOf, implies_true, fillC, capOf]
  have hu3 : Live (N2 ++ [some (.row [.I x, .I y, .I z, .ref u 0 cs.length] true 0)]) u (.row (triL cs) true 3) := hu.app
  have c3 : Live (N2 ++ [some (.row [.I x, .I y, .I z, .ref u 0 cs.length] true 0)]) M.length (.row [.I 0, .I 0, .I 0, .val (.slice none 0 0)] true 0) := c2.app
  have c6 : Live (N2 ++ [some (.row [.I x, .I y, .I z, .ref u 0 cs.length] true 0)]) N2.length (.row [.I x, .I y, .I z, .ref u 0 cs.length] true 0) := Live.new
  have hD3 : DrawN M p t o bs (a + 150) (N2 ++ [some (.row [.I x, .I y, .I z, .ref u 0 cs.length] true 0)]) := hD2.keep hpl htM (by omega) (by simp) fun q q1 => List.getElem?_append_left (by omega)
  have hl3 : (N2 ++ [some (Blk.row [.I x, .I y, .I z, .ref u 0 cs.length] true 0)]).length = N2.length + 1 := by simp
  generalize N2 ++ [some (Blk.row [.I x, .I y, .I z, .ref u 0 cs.length] true 0)] = N3 at hu3 c3 c6 hD3 hl3 ⊢
  refine callR_of (d_pick hD3.1 (by omega)) ?_
  rintro _ N4 ⟨⟨b, rfl, _⟩, hd4⟩
  have hN4 := hd4.2.1
  have k4 : ∀ q, M.length ≤ q → q < N3.length → N4[q]? = N3[q]? := fun q q1 q2 => hd4.2.2 q q2 (by omega)
  have u4 := Live.at hu3 (k4 _ (by omega) hu3.lt)
  have e2 := Live.at c3 (k4 _ (by omega) c3.lt)
  have e6 := Live.at c6 (k4 _ (by omega) c6.lt)
  have e2l := e2.lt
  have e6l := e6.lt
  have u4l := u4.lt
  have hD4 := hD3.trans hd4
  have hfin : ∀ {cs5 : List Cell} {u5 : Nat} {N5 N6 : Mem}, Live N5 u5 (.row (triL cs5) true 3) → cs5.length ≤ 65 → N1.length ≤ u5 → DrawN M p t o bs (a + 160) N5 → N6.length = N5.length → (∀ q, q ≠ M.length → q < N5.length → N6[q]? = N5[q]?) → HeapD M (.agg [.I x, .I y, .I z, .ref u5 0 cs5.length]) N6 ∧ DrawN M p t o bs (a + 160) N6 := fun {cs5 u5 N5 N6} h1 h2 h3 h4 a1 a2 =>
    ⟨⟨x, y, z, _, cs5, rfl, .inr ⟨u5, rfl, live_step h1 (by omega) a2⟩, Newer.of (by omega), h2⟩, h4.keep hpl htM (Nat.le_refl _) (by omega) fun q q1 => a2 q (by omega) (by have := h4.2.1; omega)⟩
  have happ : ∀ {c : Cell} {N5 N6 : Mem}, N5.length = N4.length + 2 → Live N5 (N4.length + 1) (.row (triL (cs ++ [c])) true 3) → (∀ q, q ≠ u → q < N4.length → N5[q]? = N4[q]?) → N6.length = N5.length → (∀ q, q ≠ N2.length → q < N5.length → N6[q]? = N5[q]?) → Live N6 (N4.length + 1) (.row (triL (cs ++ [c])) true 3) ∧ Live N6 M.length (.row [.I 0, .I 0, .I 0, .val (.slice none 0 0)] true 0) ∧ DrawN M p t o bs (a + 160) N6 := fun {c N5 N6} a1 a2 a3 a4 a5 =>
    ⟨live_step a2 (by omega) a5, live_step (live_step e2 (by omega) a3) (by omega) a5, hD4.keep hpl htM (by omega) (by omega) fun q q1 => by rw [a5 q (by omega) (by omega), a3 q (by omega) (by omega)]⟩
  by_cases b0 : (b : Int) = 0
  · simp (disch := omega) only [b0, e6.cell, splice, ↓SXd, SXu, slBounds, ↓sop, ↓aop, ↓reduceIte, LV.cells, AOp.dst, LV.I, LV.B, LV.U, LV.S, LV.nil, Nat.reduceEqDiff, Nat.reduceAdd, Nat.reduceMul, Nat.reduceSub, Nat.reduceLeDiff, Nat.reduceBEq, Nat.reduceDiv, Nat.reduceMod, Int.reduceToNat, Int.reduceLT, Int.reduceLE, Int.reduceAdd, Int.reduceSub, Int.reduceMul, Int.reduceEq, Int.reduceNeg, reduceCtorEq, resV, resAll, ARes.ev, LV.flat, ite_true, ite_false, exists_eq_left', exists_eq_left, keyOf, implies_true, fillC, capOf]
    refine appendK_cell u4 (by omega) fun N5 l1 l2 l3 => ?_
    simp (disch := omega) only [↓SXd, SXu, slBounds, ↓sop, ↓aop, ↓reduceIte, LV.cells, AOp.dst, LV.I, LV.B, LV.U, LV.S, LV.nil, Nat.reduceEqDiff, Nat.reduceAdd, Nat.reduceMul, Nat.reduceSub, Nat.reduceLeDiff, Nat.reduceBEq, Nat.reduceDiv, Nat.reduceMod, Int.reduceToNat, Int.reduceLT, Int.reduceLE, Int.reduceAdd, Int.reduceSub, Int.reduceMul, Int.reduceEq, Int.reduceNeg, reduceCtorEq, resV, resAll, ARes.ev, LV.flat, ite_true, ite_false, exists_eq_left', exists_eq_left, keyOf, implies_true, fillC, capOf]
    refine memK_one (live_step e6 (by omega) l3) (by simp) fun N6 j1 j2 j3 => ?_
    obtain ⟨g1, g2, g3⟩ := happ l1 l2 l3 j1 j3
    simp (disch := omega) only [j2.cells, ↓SXd, SXu, slBounds, ↓sop, ↓aop, ↓reduceIte, LV.cells, AOp.dst, LV.I, LV.B, LV.U, LV.S, LV.nil, Nat.reduceEqDiff, Nat.reduceAdd, Nat.reduceMul, Nat.reduceSub, Nat.reduceLeDiff, Nat.reduceBEq, Nat.reduceDiv, Nat.reduceMod, Int.reduceToNat, Int.reduceLT, Int.reduceLE, Int.reduceAdd, Int.reduceSub, Int.reduceMul, Int.reduceEq, Int.reduceNeg, reduceCtorEq, resV, resAll, ARes.ev, LV.flat, ite_true, ite_false, exists_eq_left', exists_eq_left, keyOf, implies_true, fillC, capOf]
    refine memK_box g2 (by simp) fun N7 i1 i2 i3 => ?_
    simp (disch := omega) only [i2.cells, ↓SXd, SXu, slBounds, ↓sop, ↓aop, ↓reduceIte, LV.cells, AOp.dst, LV.I, LV.B, LV.U, LV.S, LV.nil, Nat.reduceEqDiff, Nat.reduceAdd, Nat.reduceMul, Nat.reduceSub, Nat.reduceLeDiff, Nat.reduceBEq, Nat.reduceDiv, Nat.reduceMod, Int.reduceToNat, Int.reduceLT, Int.reduceLE, Int.reduceAdd, Int.reduceSub, Int.reduceMul, Int.reduceEq, Int.reduceNeg, reduceCtorEq, resV, resAll, ARes.ev, LV.flat, ite_true, ite_false, exists_eq_left', exists_eq_left, keyOf, implies_true, fillC, capOf]
    exact hfin g1 (by simp; omega) (by omega) g3 i1 i3
  by_cases b1 : (b : Int) = 1
  · simp (disch := omega) only [b1, e6.cell, splice, ↓SXd, SXu, slBounds, ↓sop, ↓aop, ↓reduceIte, LV.cells, AOp.dst, LV.I, LV.B, LV.U, LV.S, LV.nil, Nat.reduceEqDiff, Nat.reduceAdd, Nat.reduceMul, Nat.reduceSub, Nat.reduceLeDiff, Nat.reduceBEq, Nat.reduceDiv, Nat.reduceMod, Int.reduceToNat, Int.reduceLT, Int.reduceLE, Int.reduceAdd, Int.reduceSub, Int.reduceMul, Int.reduceEq, Int.reduceNeg, reduceCtorEq, resV, resAll, ARes.ev, LV.flat, ite_true, ite_false, exists_eq_left', exists_eq_left, keyOf, implies_true, fillC, capOf]
    refine appendK_cell u4 (by omega) fun N5 l1 l2 l3 => ?_
    simp (disch := omega) only [↓SXd, SXu, slBounds, ↓sop, ↓aop, ↓reduceIte, LV.cells, AOp.dst, LV.I, LV.B, LV.U, LV.S, LV.nil, Nat.reduceEqDiff, Nat.reduceAdd, Nat.reduceMul, Nat.reduceSub, Nat.reduceLeDiff, Nat.reduceBEq, Nat.reduceDiv, Nat.reduceMod, Int.reduceToNat, Int.reduceLT, Int.reduceLE, Int.reduceAdd, Int.reduceSub, Int.reduceMul, Int.reduceEq, Int.reduceNeg, reduceCtorEq, resV, resAll, ARes.ev, LV.flat, ite_true, ite_false, exists_eq_left', exists_eq_left, keyOf, implies_true, fillC, capOf]
    refine memK_one (live_step e6 (by omega) l3) (by simp) fun N6 j1 j2 j3 => ?_
    obtain ⟨g1, g2, g3⟩ := happ l1 l2 l3 j1 j3
    simp (disch := omega) only [j2.cells, ↓SXd, SXu, slBounds, ↓sop, ↓aop, ↓reduceIte, LV.cells, AOp.dst, LV.I, LV.B, LV.U, LV.S, LV.nil, Nat.reduceEqDiff, Nat.reduceAdd, Nat.reduceMul, Nat.reduceSub, Nat.reduceLeDiff, Nat.reduceBEq, Nat.reduceDiv, Nat.reduceMod, Int.reduceToNat, Int.reduceLT, Int.reduceLE, Int.reduceAdd, Int.reduceSub, Int.reduceMul, Int.reduceEq, Int.reduceNeg, reduceCtorEq, resV, resAll, ARes.ev, LV.flat, ite_true, ite_false, exists_eq_left', exists_eq_left, keyOf, implies_true, fillC, capOf]
    refine memK_box g2 (by simp) fun N7 i1 i2 i3 => ?_
    simp (disch := omega) only [i2.cells, ↓SXd, SXu, slBounds, ↓sop, ↓aop, ↓reduceIte, LV.cells, AOp.dst, LV.I, LV.B, LV.U, LV.S, LV.nil, Nat.reduceEqDiff, Nat.reduceAdd, Nat.reduceMul, Nat.reduceSub, Nat.reduceLeDiff, Nat.reduceBEq, Nat.reduceDiv, Nat.reduceMod, Int.reduceToNat, Int.reduceLT, Int.reduceLE, Int.reduceAdd, Int.reduceSub, Int.reduceMul, Int.reduceEq, Int.reduceNeg, reduceCtorEq, resV, resAll, ARes.ev, LV.flat, ite_true, ite_false, exists_eq_left', exists_eq_left, keyOf, implies_true, fillC, capOf]
    exact hfin g1 (by simp; omega) (by omega) g3 i1 i3
  by_cases b2 : (b : Int) = 2
  · by_cases hc0 : (cs.length : Int) > 0
    · have hg := u4.tri0 (k := 0) (by omega)
      rw [Nat.zero_mul] at hg
      simp (disch := omega) only [b2, e6.cell, hc0, hg, Cell.row, splice, ↓SXd, SXu, slBounds, ↓sop, ↓aop, ↓reduceIte, LV.cells, AOp.dst, LV.I, LV.B, LV.U, LV.S, LV.nil, Nat.reduceEqDiff, Nat.reduceAdd, Nat.reduceMul, Nat.reduceSub, Nat.reduceLeDiff, Nat.reduceBEq, Nat.reduceDiv, Nat.reduceMod, Int.reduceToNat, Int.reduceLT, Int.reduceLE, Int.reduceAdd, Int.reduceSub, Int.reduceMul, Int.reduceEq, Int.reduceNeg, reduceCtorEq, resV, resAll, ARes.ev, LV.flat, ite_true, ite_false, exists_eq_left', exists_eq_left, keyOf, implies_true, fillC, capOf]
      refine appendK_cell u4 (by omega) fun N5 l1 l2 l3 => ?_
      simp (disch := omega) only [↓SXd, SXu, slBounds, ↓sop, ↓aop, ↓reduceIte, LV.cells, AOp.dst, LV.I, LV.B, LV.U, LV.S, LV.nil, Nat.reduceEqDiff, Nat.reduceAdd, Nat.reduceMul, Nat.reduceSub, Nat.reduceLeDiff, Nat.reduceBEq, Nat.reduceDiv, Nat.reduceMod, Int.reduceToNat, Int.reduceLT, Int.reduceLE, Int.reduceAdd, Int.reduceSub, Int.reduceMul, Int.reduceEq, Int.reduceNeg, reduceCtorEq, resV, resAll, ARes.ev, LV.flat, ite_true, ite_false, exists_eq_left', exists_eq_left, keyOf, implies_true, fillC, capOf]
      refine memK_one (live_step e6 (by omega) l3) (by simp) fun N6 j1 j2 j3 => ?_
      obtain ⟨g1, g2, g3⟩ := happ l1 l2 l3 j1 j3
      simp (disch := omega) only [j2.cells, ↓SXd, SXu, slBounds, ↓sop, ↓aop, ↓reduceIte, LV.cells, AOp.dst, LV.I, LV.B, LV.U, LV.S, LV.nil, Nat.reduceEqDiff, Nat.reduceAdd, Nat.reduceMul, Nat.reduceSub, Nat.reduceLeDiff, Nat.reduceBEq, Nat.reduceDiv, Nat.reduceMod, Int.reduceToNat, Int.reduceLT, Int.reduceLE, Int.reduceAdd, Int.reduceSub, Int.reduceMul, Int.reduceEq, Int.reduceNeg, reduceCtorEq, resV, resAll, ARes.ev, LV.flat, ite_true, ite_false, exists_eq_left', exists_eq_left, keyOf, implies_true, fillC, capOf]
      refine memK_box g2 (by simp) fun N7 i1 i2 i3 => ?_
      simp (disch := omega) only [i2.cells, ↓SXd, SXu, slBounds, ↓sop, ↓aop, ↓reduceIte, LV.cells, AOp.dst, LV.I, LV.B, LV.U, LV.S, LV.nil, Nat.reduceEqDiff, Nat.reduceAdd, Nat.reduceMul, Nat.reduceSub, Nat.reduceLeDiff, Nat.reduceBEq, Nat.reduceDiv, Nat.reduceMod, Int.reduceToNat, Int.reduceLT, Int.reduceLE, Int.reduceAdd, Int.reduceSub, Int.reduceMul, Int.reduceEq, Int.reduceNeg, reduceCtorEq, resV, resAll, ARes.ev, LV.flat, ite_true, ite_false, exists_eq_left', exists_eq_left, keyOf, implies_true, fillC, capOf]
      exact hfin g1 (by simp; omega) (by omega) g3 i1 i3
    · simp (disch := omega) only [b2, e6.cell, hc0, e6.cells, ↓SXd, SXu, slBounds, ↓sop, ↓aop, ↓reduceIte, LV.cells, AOp.dst, LV.I, LV.B, LV.U, LV.S, LV.nil, Nat.reduceEqDiff, Nat.reduceAdd, Nat.reduceMul, Nat.reduceSub, Nat.reduceLeDiff, Nat.reduceBEq, Nat.reduceDiv, Nat.reduceMod, Int.reduceToNat, Int.reduceLT, Int.reduceLE, Int.reduceAdd, Int.reduceSub, Int.reduceMul, Int.reduceEq, Int.reduceNeg, reduceCtorEq, resV, resAll, ARes.ev, LV.flat, ite_true, ite_false, exists_eq_left', exists_eq_left, keyOf, implies_true, fillC, capOf]
      refine memK_box e2 (by simp) fun N7 i1 i2 i3 => ?_
      simp (disch := omega) only [i2.cells, ↓SXd, SXu, slBounds, ↓sop, ↓aop, ↓reduceIte, LV.cells, AOp.dst, LV.I, LV.B, LV.U, LV.S, LV.nil, Nat.reduceEqDiff, Nat.reduceAdd, Nat.reduceMul, Nat.reduceSub, Nat.reduceLeDiff, Nat.reduceBEq, Nat.reduceDiv, Nat.reduceMod, Int.reduceToNat, Int.reduceLT, Int.reduceLE, Int.reduceAdd, Int.reduceSub, Int.reduceMul, Int.reduceEq, Int.reduceNeg, reduceCtorEq, resV, resAll, ARes.ev, LV.flat, ite_true, ite_false, exists_eq_left', exists_eq_left, keyOf, implies_true, fillC, capOf]
      exact hfin u4 (by omega) (by omega) (hD4.up (by omega)) i1 i3
  by_cases b3 : (b : Int) = 3
  · simp (disch := omega) only [b3, ↓SXd, SXu, slBounds, ↓sop, ↓aop, ↓reduceIte, LV.cells, AOp.dst, LV.I, LV.B, LV.U, LV.S, LV.nil, Nat.reduceEqDiff, Nat.reduceAdd, Nat.reduceMul, Nat.reduceSub, Nat.reduceLeDiff, Nat.reduceBEq, Nat.reduceDiv, Nat.reduceMod, Int.reduceToNat, Int.reduceLT, Int.reduceLE, Int.reduceAdd, Int.reduceSub, Int.reduceMul, Int.reduceEq, Int.reduceNeg, reduceCtorEq, resV, resAll, ARes.ev, LV.flat, ite_true, ite_false, exists_eq_left', exists_eq_left, keyOf, implies_true, fillC, capOf]
    refine memK_box e2 (by simp) fun N7 i1 i2 i3 => ?_
    simp (disch := omega) only [i2.cells, ↓SXd, SXu, slBounds, ↓sop, ↓aop, ↓reduceIte, LV.cells, AOp.dst, LV.I, LV.B, LV.U, LV.S, LV.nil, Nat.reduceEqDiff, Nat.reduceAdd, Nat.reduceMul, Nat.reduceSub, Nat.reduceLeDiff, Nat.reduceBEq, Nat.reduceDiv, Nat.reduceMod, Int.reduceToNat, Int.reduceLT, Int.reduceLE, Int.reduceAdd, Int.reduceSub, Int.reduceMul, Int.reduceEq, Int.reduceNeg, reduceCtorEq, resV, resAll, ARes.ev, LV.flat, ite_true, ite_false, exists_eq_left', exists_eq_left, keyOf, implies_true, fillC, capOf]
    exact ⟨⟨0, 0, 0, .nil, [], rfl, .inl ⟨rfl, rfl⟩, Newer.nil, by simp⟩, (hD4.up (by omega)).keep hpl htM (Nat.le_refl _) (by omega) fun q q1 => i3 q (by omega) (by omega)⟩
  · simp (disch := omega) only [b0, b1, b2, b3, e6.cells, ↓SXd, SXu, slBounds, ↓sop, ↓aop, ↓reduceIte, LV.cells, AOp.dst, LV.I, LV.B, LV.U, LV.S, LV.nil, Nat.reduceEqDiff, Nat.reduceAdd, Nat.reduceMul, Nat.reduceSub, Nat.reduceLeDiff, Nat.reduceBEq, Nat.reduceDiv, Nat.reduceMod, Int.reduceToNat, Int.reduceLT, Int.reduceLE, Int.reduceAdd, Int.reduceSub, Int.reduceMul, Int.reduceEq, Int.reduceNeg, reduceCtorEq, resV, resAll, ARes.ev, LV.flat, ite_true, ite_false, exists_eq_left', exists_eq_left, keyOf, implies_true, fillC, capOf]
    refine memK_box e2 (by simp) fun N7 i1 i2 i3 => ?_
    simp (disch := omega) only [i2.cells, ↓SXd, SXu, slBounds, ↓sop, ↓aop, ↓reduceIte, LV.cells, AOp.dst, LV.I, LV.B, LV.U, LV.S, LV.nil, Nat.reduceEqDiff, Nat.reduceAdd, Nat.reduceMul, Nat.reduceSub, Nat.reduceLeDiff, Nat.reduceBEq, Nat.reduceDiv, Nat.reduceMod, Int.reduceToNat, Int.reduceLT, Int.reduceLE, Int.reduceAdd, Int.reduceSub, Int.reduceMul, Int.reduceEq, Int.reduceNeg, reduceCtorEq, resV, resAll, ARes.ev, LV.flat, ite_true, ite_false, exists_eq_left', exists_eq_left, keyOf, implies_true, fillC, capOf]
    exact hfin u4 (by omega) (by omega) (hD4.up (by omega)) i1 i3
end Go.Ab

/- The abstract code of some functions (written by a program of mine from the translation, by way of prepF). -/
namespace Go.Ab.C
open Go.Ab
end Go.Ab.C

/- That the program has this code. -/
namespace Go.Ab.K
open Go Go.Ab
end Go.Ab.K

/- Contracts: h_l10Column. -/
namespace Go.Ab
open Go
set_option linter.unusedSimpArgs false
set_option linter.unusedVariables false
set_option maxRecDepth 20000

end Go.Ab

/- The abstract code of some functions (written by a program of mine from the translation, by way of prepF). -/
namespace Go.Ab.C
open Go.Ab
end Go.Ab.C

/- That the program has this code. -/
namespace Go.Ab.K
open Go Go.Ab
end Go.Ab.K

/- The abstract code of some functions (written by a program of mine from the translation, by way of prepF). -/
namespace Go.Ab.C
open Go.Ab
end Go.Ab.C

/- That the program has this code. -/
namespace Go.Ab.K
open Go Go.Ab
end Go.Ab.K

/- Contracts: the reference's heights and neighbours. -/
namespace Go.Ab
open Go
set_option linter.unusedSimpArgs false
set_option linter.unusedVariables false

theorem HeapOK.cell {x y z : Int} {cs : List Cell} (h : HeapOK x y z cs) {k : Nat} (hk : k < cs.length) : (cs.getD k default).inBox x y z := (h.2 k hk).1

end Go.Ab

/- The abstract code of some functions (written by a program of mine from the translation, by way of prepF). -/
namespace Go.Ab.C
open Go.Ab
end Go.Ab.C

/- That the program has this code. -/
namespace Go.Ab.K
open Go Go.Ab
end Go.Ab.K

/- Contracts: h_l10Up. -/
namespace Go.Ab
open Go
set_option linter.unusedSimpArgs false
set_option linter.unusedVariables false
set_option maxRecDepth 20000

end Go.Ab

/- Contracts: h_l10Next. -/
namespace Go.Ab
open Go
set_option linter.unusedSimpArgs false
set_option linter.unusedVariables false
set_option maxRecDepth 20000

end Go.Ab

/- Contracts: what the laws of the walks draw. -/
namespace Go.Ab
open Go
set_option linter.unusedSimpArgs false
set_option linter.unusedVariables false
set_option maxRecDepth 20000

/-- A heap, valid or not, all of whose cells are new. -/
def HeapR (M : Mem) (v : LV) (N : Mem) : Prop := ∃ (x y z : Int) (cs : List Cell) (u : Nat) (ex : List Cell), v = .agg [.I x, .I y, .I z, .ref u 0 cs.length] ∧ Live N u (.row (triL (cs ++ ex)) true 3) ∧ M.length ≤ u ∧ cs.length ≤ 65
/-- The same, with nothing behind its cells. -/
def HeapE (M : Mem) (v : LV) (N : Mem) : Prop := ∃ (x y z : Int) (cs : List Cell) (u : Nat), v = .agg [.I x, .I y, .I z, .ref u 0 cs.length] ∧ Live N u (.row (triL cs) true 3) ∧ M.length ≤ u ∧ cs.length ≤ 65
theorem d_heapE {p t o a : Nat} {bs : List Nat} {M : Mem} (h : CurAt M p t o bs a) (ha : a ≤ 990000) : CallsR PG F.spec_l1Cur_heap [.ptr p 0] M fun v N => HeapE M v N ∧ DrawN M p t o bs (a + 160) N := by
  obtain ⟨⟨_, _, _, hpl'⟩, hB, _⟩ := id h
  have hpl := hpl'.lt
  have htM := hB.lt
  refine (d_heap h ha).den (e := 3) ?_
  rintro v N ⟨⟨x, y, z, w, cs, rfl, hs, hnw, hl⟩, hd⟩
  rcases hs with ⟨rfl, rfl⟩ | ⟨u, rfl, hu⟩
  · exact .inr ⟨.agg [.I x, .I y, .I z, .ref N.length 0 0], .inl (.inr ⟨_, _, rfl, rfl, .rfl, .rfl, .rfl, .nil, trivial⟩), ⟨x, y, z, [], N.length, rfl, Live.new, hd.2.1, by simp⟩, hd.keep hpl htM (Nat.le_refl _) (by simp) fun q q1 => List.getElem?_append_left (by have := hd.2.1; omega)⟩
  · refine .inl ⟨⟨x, y, z, cs, u, rfl, hu, ?_, hl⟩, hd⟩
    rcases Nat.lt_or_ge u M.length with h1 | h1
    · exact absurd rfl (hnw u h1)
    · exact h1
theorem DrawN.live {M N : Mem} {p t o a u : Nat} {bs : List Nat} {b : Blk} (hd : DrawN M p t o bs a N) (h : Live M u b) (hne : u ≠ p) : Live N u b := Live.at h (hd.2.2 u h.lt hne)
theorem DrawN.stay {M N : Mem} {p t o a q : Nat} {bs : List Nat} (hd : DrawN M p t o bs a N) (h : q < M.length) (hne : q ≠ p) : ∀ b : Blk, M[q]? = some (some b) → N[q]? = some (some b) := fun b hb => by rw [hd.2.2 q h hne]; exact hb
theorem CurAt.stepped {M N : Mem} {p t o a u : Nat} {bs : List Nat} (h : CurAt M p t o bs a) (hp : p ≠ u) (ht : t ≠ u) (l3 : ∀ q, q ≠ u → q < M.length → N[q]? = M[q]?) : CurAt N p t o bs a := by
  obtain ⟨⟨i, s, h1, h2⟩, h3, h4⟩ := h
  exact ⟨⟨i, s, h1, Live.at h2 (l3 _ hp h2.lt)⟩, Has.at' h3 (l3 _ ht h3.lt), h4⟩
/-- Behind a draw of a reader that is new. -/
theorem DrawN.pre {M M0 N : Mem} {p t o a : Nat} {bs : List Nat} (hd : DrawN M p t o bs a N) (h : Pre M0 M) (hp : M0.length ≤ p) : Pre M0 N :=
  ⟨Nat.le_trans h.1 hd.2.1, fun q hq => by rw [hd.2.2 q (Nat.lt_of_lt_of_le hq h.1) (by omega)]; exact h.2 q hq⟩
theorem CurAt.new2 {t o : Nat} {bs : List Nat} {M : Mem} {b : Option Blk} (hB : Bytes M t o bs) (h255 : ∀ b ∈ bs, b ≤ 255) (hl : bs.length ≤ 1000000000) : CurAt (M ++ [b, some (.row [.ref t o bs.length, .I 0, .val (.int .u64 0)] true 0)]) (M.length + 1) t o bs 0 := by
  have := CurAt.new (M := M ++ [b]) (t := t) (o := o) (bs := bs) (Has.app hB) h255 hl
  rw [List.append_assoc, List.length_append] at this
  exact this
section
variable {p t o a : Nat} {bs : List Nat} {M : Mem}
end
section
variable {t o : Nat} {bs : List Nat} {M : Mem} (hB : Bytes M t o bs) (h255 : ∀ b ∈ bs, b ≤ 255) (hl : bs.length ≤ 1000000000)
include hB h255 hl
end
end Go.Ab

/- Contracts: what the law of pieces draws. -/
namespace Go.Ab
open Go
set_option linter.unusedSimpArgs false
set_option linter.unusedVariables false
set_option maxRecDepth 20000

theorem dirN' {d : Nat} (hd : d < 3) : Dir (d : Int) := by unfold Dir; omega
theorem byL_append (l m : List Nat) : byL (l ++ m) = byL l ++ byL m := by simp [byL]
theorem Bytes.drop {M : Mem} {t o n : Nat} {bs : List Nat} (h : Bytes M t o bs) (hn : n ≤ bs.length) : Bytes M t (o + n) (bs.drop n) := by
  obtain ⟨row, h1, h2, h3⟩ := h
  refine ⟨row, h1, ?_, ?_⟩
  · rw [byL_len] at h2 ⊢
    rw [List.length_drop]; omega
  · rw [byL_len] at h3 ⊢
    rw [List.length_drop]
    have e : byL (bs.drop n) = (byL bs).drop n := by simp [byL, List.map_drop]
    rw [e, ← h3, List.drop_take, List.drop_drop]
/-- Other bytes, that are new. -/
def NewBytes (M : Mem) (n : Nat) (v : LV) (N : Mem) : Prop := ∃ (u : Nat) (cs : List Nat), v = .ref u 0 cs.length ∧ Bytes N u 0 cs ∧ (∀ b ∈ cs, b ≤ 255) ∧ cs.length ≤ n + 1 ∧ Pre M N
theorem u8_small {n : Nat} (h : n ≤ 255) : IntKind.u8.wrap (n : Int) = (n : Int) := by
  unfold IntKind.wrap
  simp only [IntKind.bits, IntKind.signed, Bool.false_and, Bool.false_eq_true, if_false]
  omega
theorem k_vCut {t : Nat} {bs : List Nat} {n : Nat} {M : Mem} (h : Bytes M t 0 bs) (he : getEsz M t = some 1) (h255 : ∀ b ∈ bs, b ≤ 255) (hl : bs.length ≤ 1000000) (hn : n ≤ 100) : CallsR PG F.laws_vCut [.ref t 0 bs.length, .I n] M (NewBytes M bs.length) := by
  have ht := h.lt
  refine callsR_run K.laws_vCut rfl ?_
  obtain ⟨m, hm1, hm2, hm3⟩ : ∃ m : Nat, m ≤ bs.length ∧ m ≤ 100 ∧ ((n : Int) > (bs.length : Nat) → m = bs.length) ∧ (¬ (n : Int) > (bs.length : Nat) → m = n) := by
    by_cases hgt : (n : Int) > (bs.length : Nat)
    · exact ⟨bs.length, by omega, by omega, fun _ => rfl, fun h => absurd hgt h⟩
    · exact ⟨n, by omega, by omega, fun h => absurd h hgt, fun _ => rfl⟩
  have hd := h.drop hm1
  rw [Nat.zero_add] at hd
  have hdl : (bs.drop m).length = bs.length - m := List.length_drop
  have hd255 : ∀ b ∈ bs.drop m, b ≤ 255 := fun b hb => h255 b (List.mem_of_mem_drop hb)
  generalize hds : bs.drop m = ds at hd hdl hd255
  have fin : ∀ {fr : Fr} {P : LV → Mem → Prop}, True := trivial
  have rest : ∀ {A : LV → Mem → Prop}, (∀ (u : Nat) (M' : Mem), M.length + 1 ≤ M'.length → Live M' u (.row (byL ds) true 1) → M.length ≤ u → Pre M M' → A (.ref u 0 ds.length) M') → appendK 1 1 (.ref M.length 0 0) (.ref t m (bs.length - m)) (M ++ [some (.row [] true 1)]) A := fun {A} hA => by
    refine appendK_list (acc := []) (new := byL ds) (n := 0) (n2 := bs.length - m) Live.new rfl (Has.app hd) (by rw [byL_len]; omega) (by omega) (by omega) fun u M' h1 h2 h3 h4 => ?_
    rw [List.length_append, List.length_singleton] at h1 h3 h4
    have e : 0 + (bs.length - m) = ds.length := by omega
    rw [e]
    exact hA u M' h1 h2 (by omega) ⟨by omega, fun q hq => by rw [h4 q (by omega) (by omega)]; exact List.getElem?_append_left hq⟩
  have hmu := u8_small (n := m) (by omega)
  have last : ∀ {u : Nat} {M' : Mem} {A : LV → Mem → Prop}, Live M' u (.row (byL ds) true 1) → M.length ≤ u → Pre M M' → (∀ v N, NewBytes M bs.length v N → A v N) → appendK 1 1 (.ref u 0 ds.length) (.ref M'.length 0 1) (M' ++ [some (.row [.val (.int .u8 (m : Int))] true 1)]) A := fun {u M' A} a1 a2 a3 hA => by
    have hul := a1.lt
    refine appendK_list (acc := byL ds) (new := [.val (.int .u8 (m : Int))]) (n := ds.length) (n2 := 1) a1.app (by rw [byL_len]; omega) (Live.new (b := .row [.val (.int .u8 (m : Int))] true 1)).has rfl (by omega) (by omega) fun u2 N h1 h2 h3 h4 => ?_
    rw [List.length_append, List.length_singleton] at h1 h3 h4
    have e : byL ds ++ [LV.val (.int .u8 (m : Int))] = byL (ds ++ [m]) := by rw [byL_append]; rfl
    rw [e] at h2
    have hlen : ds.length + 1 = (ds ++ [m]).length := by simp
    rw [hlen]
    refine hA _ _ ⟨u2, ds ++ [m], rfl, h2.has, fun b hb => ?_, by simp; omega, ?_⟩
    · rcases List.mem_append.1 hb with hb | hb
      · exact hd255 b hb
      · simp at hb; omega
    · have := a3.1
      exact ⟨by omega, fun q hq => by rw [h4 q (by omega) (by omega), List.getElem?_append_left (by omega)]; exact a3.2 q hq⟩
  by_cases hgt : (n : Int) > (bs.length : Nat)
  · have hmn := hm3.1 hgt
    rw [← hmn] at hgt ⊢
    rw [← hmn] at rest
    simp (disch := omega) only [C.laws_vCut, hgt, (getEsz_app ht), he, if_true, ite_true, ↓SXd, SXu, slBounds, ↓sop, ↓aop, ↓reduceIte, LV.cells, AOp.dst, LV.I, LV.B, LV.U, LV.S, LV.nil, Nat.reduceEqDiff, Nat.reduceAdd, Nat.reduceMul, Nat.reduceSub, Nat.reduceLeDiff, Nat.reduceBEq, Nat.reduceDiv, Nat.reduceMod, Int.reduceToNat, Int.reduceLT, Int.reduceLE, Int.reduceAdd, Int.reduceSub, Int.reduceMul, Int.reduceEq, Int.reduceNeg, reduceCtorEq, resV, resAll, ARes.ev, LV.flat, ite_true, ite_false, exists_eq_left', exists_eq_left, keyOf, implies_true, fillC, capOf]
    refine rest fun u M' a0 a1 a2 a3 => ?_
    simp (disch := omega) only [hmu, ↓SXd, SXu, slBounds, ↓sop, ↓aop, ↓reduceIte, LV.cells, AOp.dst, LV.I, LV.B, LV.U, LV.S, LV.nil, Nat.reduceEqDiff, Nat.reduceAdd, Nat.reduceMul, Nat.reduceSub, Nat.reduceLeDiff, Nat.reduceBEq, Nat.reduceDiv, Nat.reduceMod, Int.reduceToNat, Int.reduceLT, Int.reduceLE, Int.reduceAdd, Int.reduceSub, Int.reduceMul, Int.reduceEq, Int.reduceNeg, reduceCtorEq, resV, resAll, ARes.ev, LV.flat, ite_true, ite_false, exists_eq_left', exists_eq_left, keyOf, implies_true, fillC, capOf]
    refine last a1 a2 a3 ?_
    rintro _ N ⟨u2, es, rfl, k1, k2, k3, k4⟩
    simp (disch := omega) only [↓SXd, SXu, slBounds, ↓sop, ↓aop, ↓reduceIte, LV.cells, AOp.dst, LV.I, LV.B, LV.U, LV.S, LV.nil, Nat.reduceEqDiff, Nat.reduceAdd, Nat.reduceMul, Nat.reduceSub, Nat.reduceLeDiff, Nat.reduceBEq, Nat.reduceDiv, Nat.reduceMod, Int.reduceToNat, Int.reduceLT, Int.reduceLE, Int.reduceAdd, Int.reduceSub, Int.reduceMul, Int.reduceEq, Int.reduceNeg, reduceCtorEq, resV, resAll, ARes.ev, LV.flat, ite_true, ite_false, exists_eq_left', exists_eq_left, keyOf, implies_true, fillC, capOf]
    exact ⟨u2, es, rfl, k1, k2, by omega, k4⟩
  · have hmn := hm3.2 hgt
    rw [← hmn] at hgt ⊢
    simp (disch := omega) only [C.laws_vCut, hgt, (getEsz_app ht), he, if_true, ite_true, ↓SXd, SXu, slBounds, ↓sop, ↓aop, ↓reduceIte, LV.cells, AOp.dst, LV.I, LV.B, LV.U, LV.S, LV.nil, Nat.reduceEqDiff, Nat.reduceAdd, Nat.reduceMul, Nat.reduceSub, Nat.reduceLeDiff, Nat.reduceBEq, Nat.reduceDiv, Nat.reduceMod, Int.reduceToNat, Int.reduceLT, Int.reduceLE, Int.reduceAdd, Int.reduceSub, Int.reduceMul, Int.reduceEq, Int.reduceNeg, reduceCtorEq, resV, resAll, ARes.ev, LV.flat, ite_true, ite_false, exists_eq_left', exists_eq_left, keyOf, implies_true, fillC, capOf]
    refine rest fun u M' a0 a1 a2 a3 => ?_
    simp (disch := omega) only [hmu, ↓SXd, SXu, slBounds, ↓sop, ↓aop, ↓reduceIte, LV.cells, AOp.dst, LV.I, LV.B, LV.U, LV.S, LV.nil, Nat.reduceEqDiff, Nat.reduceAdd, Nat.reduceMul, Nat.reduceSub, Nat.reduceLeDiff, Nat.reduceBEq, Nat.reduceDiv, Nat.reduceMod, Int.reduceToNat, Int.reduceLT, Int.reduceLE, Int.reduceAdd, Int.reduceSub, Int.reduceMul, Int.reduceEq, Int.reduceNeg, reduceCtorEq, resV, resAll, ARes.ev, LV.flat, ite_true, ite_false, exists_eq_left', exists_eq_left, keyOf, implies_true, fillC, capOf]
    refine last a1 a2 a3 ?_
    rintro _ N ⟨u2, es, rfl, k1, k2, k3, k4⟩
    simp (disch := omega) only [↓SXd, SXu, slBounds, ↓sop, ↓aop, ↓reduceIte, LV.cells, AOp.dst, LV.I, LV.B, LV.U, LV.S, LV.nil, Nat.reduceEqDiff, Nat.reduceAdd, Nat.reduceMul, Nat.reduceSub, Nat.reduceLeDiff, Nat.reduceBEq, Nat.reduceDiv, Nat.reduceMod, Int.reduceToNat, Int.reduceLT, Int.reduceLE, Int.reduceAdd, Int.reduceSub, Int.reduceMul, Int.reduceEq, Int.reduceNeg, reduceCtorEq, resV, resAll, ARes.ev, LV.flat, ite_true, ite_false, exists_eq_left', exists_eq_left, keyOf, implies_true, fillC, capOf]
    exact ⟨u2, es, rfl, k1, k2, by omega, k4⟩
theorem d_cell {p t o a : Nat} {bs : List Nat} {M : Mem} {x y z : Int} {w : LV} (h : CurAt M p t o bs a) (ha : a ≤ 999900) : CallsR PG F.spec_l1Cur_cell [.ptr p 0, .agg [.I x, .I y, .I z, w]] M fun v N => (∃ c : Cell, v = .agg [.I c.a, .I c.b, .I c.c]) ∧ DrawN M p t o bs (a + 20) N := by
  obtain ⟨⟨_, _, _, hpl'⟩, hB, _⟩ := id h
  have hpl := hpl'.lt
  have htM := hB.lt
  refine callsR_run K.spec_l1Cur_cell rfl ?_
  simp (disch := omega) only [C.spec_l1Cur_cell, splice, ↓SXd, SXu, slBounds, ↓sop, ↓aop, ↓reduceIte, LV.cells, AOp.dst, LV.I, LV.B, LV.U, LV.S, LV.nil, Nat.reduceEqDiff, Nat.reduceAdd, Nat.reduceMul, Nat.reduceSub, Nat.reduceLeDiff, Nat.reduceBEq, Nat.reduceDiv, Nat.reduceMod, Int.reduceToNat, Int.reduceLT, Int.reduceLE, Int.reduceAdd, Int.reduceSub, Int.reduceMul, Int.reduceEq, Int.reduceNeg, reduceCtorEq, resV, resAll, ARes.ev, LV.flat, ite_true, ite_false, exists_eq_left', exists_eq_left, keyOf, implies_true, fillC, capOf]
  have h0 : DrawN M p t o bs a (M ++ [some (.row [.I x, .I y, .I z, w] true 0), some (.row [.I 0, .I 0, .I 0] true 0), some (.row [.I 0, .I 0, .I 0] true 0)]) := ⟨h.pre (Pre.app _ _), by simp, fun q q1 _ => List.getElem?_append_left q1⟩
  refine ev_loop (fun m fr M' => ∃ (d : Nat) (c : Cell), d + m = 3 ∧ DrawN M p t o bs (a + 2 * d) M' ∧ Live M' M.length (.row [.I x, .I y, .I z, w] true 0) ∧ Live M' (M.length + 1) (.row [.I 0, .I 0, .I 0] true 0) ∧ Live M' (M.length + 2) (.row c.row true 0) ∧
    fr 0 = .ptr p 0 ∧ fr 3 = .ptr M.length 0 ∧ fr 4 = .ptr (M.length + 1) 0 ∧ fr 5 = .ptr (M.length + 2) 0 ∧ fr 6 = .I d) 3
    ⟨0, ⟨0, 0, 0⟩, rfl, h0, Live.new, Live.newj rfl, Live.newj rfl, rfl, rfl, rfl, rfl, rfl⟩ ?_
  rintro m fr M' ⟨d, c, hd, hD, b3, b4, b5, f0, f3, f4, f5, f6⟩
  simp (disch := omega) only [f0, f3, f4, f5, f6, ↓SXd, SXu, slBounds, ↓sop, ↓aop, ↓reduceIte, LV.cells, AOp.dst, LV.I, LV.B, LV.U, LV.S, LV.nil, Nat.reduceEqDiff, Nat.reduceAdd, Nat.reduceMul, Nat.reduceSub, Nat.reduceLeDiff, Nat.reduceBEq, Nat.reduceDiv, Nat.reduceMod, Int.reduceToNat, Int.reduceLT, Int.reduceLE, Int.reduceAdd, Int.reduceSub, Int.reduceMul, Int.reduceEq, Int.reduceNeg, reduceCtorEq, resV, resAll, ARes.ev, LV.flat, ite_true, ite_false, exists_eq_left', exists_eq_left, keyOf, implies_true, fillC, capOf]
  have hb5l := b5.lt
  refine condC_dec (fun hlt => ?_) (fun hlt => ?_)
  · have hd3 : d < 3 := by omega
    simp (disch := omega) only [f0, f3, f4, f5, f6, b3.cells, ↓SXd, SXu, slBounds, ↓sop, ↓aop, ↓reduceIte, LV.cells, AOp.dst, LV.I, LV.B, LV.U, LV.S, LV.nil, Nat.reduceEqDiff, Nat.reduceAdd, Nat.reduceMul, Nat.reduceSub, Nat.reduceLeDiff, Nat.reduceBEq, Nat.reduceDiv, Nat.reduceMod, Int.reduceToNat, Int.reduceLT, Int.reduceLE, Int.reduceAdd, Int.reduceSub, Int.reduceMul, Int.reduceEq, Int.reduceNeg, reduceCtorEq, resV, resAll, ARes.ev, LV.flat, ite_true, ite_false, exists_eq_left', exists_eq_left, keyOf, implies_true, fillC, capOf]
    refine callK_of (h_l2Long (dirN' hd3)) ?_
    simp (disch := omega) only [f0, f3, f4, f5, f6, ↓SXd, SXu, slBounds, ↓sop, ↓aop, ↓reduceIte, LV.cells, AOp.dst, LV.I, LV.B, LV.U, LV.S, LV.nil, Nat.reduceEqDiff, Nat.reduceAdd, Nat.reduceMul, Nat.reduceSub, Nat.reduceLeDiff, Nat.reduceBEq, Nat.reduceDiv, Nat.reduceMod, Int.reduceToNat, Int.reduceLT, Int.reduceLE, Int.reduceAdd, Int.reduceSub, Int.reduceMul, Int.reduceEq, Int.reduceNeg, reduceCtorEq, resV, resAll, ARes.ev, LV.flat, ite_true, ite_false, exists_eq_left', exists_eq_left, keyOf, implies_true, fillC, capOf]
    refine callK_of (h_l1Least) ?_
    simp (disch := omega) only [f0, f3, f4, f5, f6, ↓SXd, SXu, slBounds, ↓sop, ↓aop, ↓reduceIte, LV.cells, AOp.dst, LV.I, LV.B, LV.U, LV.S, LV.nil, Nat.reduceEqDiff, Nat.reduceAdd, Nat.reduceMul, Nat.reduceSub, Nat.reduceLeDiff, Nat.reduceBEq, Nat.reduceDiv, Nat.reduceMod, Int.reduceToNat, Int.reduceLT, Int.reduceLE, Int.reduceAdd, Int.reduceSub, Int.reduceMul, Int.reduceEq, Int.reduceNeg, reduceCtorEq, resV, resAll, ARes.ev, LV.flat, ite_true, ite_false, exists_eq_left', exists_eq_left, keyOf, implies_true, fillC, capOf]
    refine callK_of (h_l1Most) ?_
    simp (disch := omega) only [f0, f3, f4, f5, f6, ↓SXd, SXu, slBounds, ↓sop, ↓aop, ↓reduceIte, LV.cells, AOp.dst, LV.I, LV.B, LV.U, LV.S, LV.nil, Nat.reduceEqDiff, Nat.reduceAdd, Nat.reduceMul, Nat.reduceSub, Nat.reduceLeDiff, Nat.reduceBEq, Nat.reduceDiv, Nat.reduceMod, Int.reduceToNat, Int.reduceLT, Int.reduceLE, Int.reduceAdd, Int.reduceSub, Int.reduceMul, Int.reduceEq, Int.reduceNeg, reduceCtorEq, resV, resAll, ARes.ev, LV.flat, ite_true, ite_false, exists_eq_left', exists_eq_left, keyOf, implies_true, fillC, capOf]
    refine callR_of (d_pick hD.1 (by omega)) ?_
    rintro _ N ⟨⟨b, rfl, _⟩, hd2⟩
    have c3 := hd2.live b3 (by omega)
    have c4 := hd2.live b4 (by omega)
    have c5 := hd2.live b5 (by omega)
    have c5l := c5.lt
    simp (disch := omega) only [f0, f3, f4, f5, f6, Nat.mul_one, Nat.zero_add, ↓SXd, SXu, slBounds, ↓sop, ↓aop, ↓reduceIte, LV.cells, AOp.dst, LV.I, LV.B, LV.U, LV.S, LV.nil, Nat.reduceEqDiff, Nat.reduceAdd, Nat.reduceMul, Nat.reduceSub, Nat.reduceLeDiff, Nat.reduceBEq, Nat.reduceDiv, Nat.reduceMod, Int.reduceToNat, Int.reduceLT, Int.reduceLE, Int.reduceAdd, Int.reduceSub, Int.reduceMul, Int.reduceEq, Int.reduceNeg, reduceCtorEq, resV, resAll, ARes.ev, LV.flat, ite_true, ite_false, exists_eq_left', exists_eq_left, keyOf, implies_true, fillC, capOf]
    refine memK_at c5 (show d < 3 from hd3) fun N1 k1 k2 k3 => ?_
    obtain ⟨c', hc'⟩ : ∃ c' : Cell, c.row.set d (LV.I (b : Int)) = c'.row := by
      rcases (show d = 0 ∨ d = 1 ∨ d = 2 by omega) with rfl | rfl | rfl
      · exact ⟨⟨b, c.b, c.c⟩, rfl⟩
      · exact ⟨⟨c.a, b, c.c⟩, rfl⟩
      · exact ⟨⟨c.a, c.b, b⟩, rfl⟩
    rw [hc'] at k2
    simp (disch := omega) only [f0, f3, f4, f5, f6, ↓SXd, SXu, slBounds, ↓sop, ↓aop, ↓reduceIte, LV.cells, AOp.dst, LV.I, LV.B, LV.U, LV.S, LV.nil, Nat.reduceEqDiff, Nat.reduceAdd, Nat.reduceMul, Nat.reduceSub, Nat.reduceLeDiff, Nat.reduceBEq, Nat.reduceDiv, Nat.reduceMod, Int.reduceToNat, Int.reduceLT, Int.reduceLE, Int.reduceAdd, Int.reduceSub, Int.reduceMul, Int.reduceEq, Int.reduceNeg, reduceCtorEq, resV, resAll, ARes.ev, LV.flat, ite_true, ite_false, exists_eq_left', exists_eq_left, keyOf, implies_true, fillC, capOf]
    exact ⟨m - 1, by omega, d + 1, c', by omega, (hD.trans hd2).keep hpl htM (by omega) (by omega) fun q q1 => k3 q (by omega) (by omega), live_step c3 (by omega) k3, live_step c4 (by omega) k3, k2, f0, f3, f4, f5, eqI (natI _)⟩
  · have hd3 : d = 3 := by omega
    subst hd3
    have fin : ∀ {N : Mem} {e : Cell} {a' : Nat}, a' ≤ a + 20 → DrawN M p t o bs a' N → Live N (M.length + 1) (.row [.I 0, .I 0, .I 0] true 0) → ∀ N2 : Mem, N2.length = N.length → (∀ q, q ≠ M.length + 1 → q < N.length → N2[q]? = N[q]?) → (∃ c : Cell, LV.agg [.I e.a, .I e.b, .I e.c] = .agg [.I c.a, .I c.b, .I c.c]) ∧ DrawN M p t o bs (a + 20) N2 := fun {N e a'} a1 a2 a3 N2 a4 a5 =>
      ⟨⟨e, rfl⟩, a2.keep hpl htM a1 (by omega) fun q q1 => a5 q (by omega) (by have := a2.2.1; omega)⟩
    simp (disch := omega) only [f0, f3, f4, f5, f6, ↓SXd, SXu, slBounds, ↓sop, ↓aop, ↓reduceIte, LV.cells, AOp.dst, LV.I, LV.B, LV.U, LV.S, LV.nil, Nat.reduceEqDiff, Nat.reduceAdd, Nat.reduceMul, Nat.reduceSub, Nat.reduceLeDiff, Nat.reduceBEq, Nat.reduceDiv, Nat.reduceMod, Int.reduceToNat, Int.reduceLT, Int.reduceLE, Int.reduceAdd, Int.reduceSub, Int.reduceMul, Int.reduceEq, Int.reduceNeg, reduceCtorEq, resV, resAll, ARes.ev, LV.flat, ite_true, ite_false, exists_eq_left', exists_eq_left, keyOf, implies_true, fillC, capOf]
    refine callR_of (d_one hD.1 (by omega)) ?_
    rintro _ N ⟨⟨b, rfl⟩, hd2⟩
    have c4 := hd2.live b4 (by omega)
    have c5 := hd2.live b5 (by omega)
    cases b
    · simp (disch := omega) only [f0, f3, f4, f5, f6, c5.cells, Cell.row, ↓SXd, SXu, slBounds, ↓sop, ↓aop, ↓reduceIte, LV.cells, AOp.dst, LV.I, LV.B, LV.U, LV.S, LV.nil, Nat.reduceEqDiff, Nat.reduceAdd, Nat.reduceMul, Nat.reduceSub, Nat.reduceLeDiff, Nat.reduceBEq, Nat.reduceDiv, Nat.reduceMod, Int.reduceToNat, Int.reduceLT, Int.reduceLE, Int.reduceAdd, Int.reduceSub, Int.reduceMul, Int.reduceEq, Int.reduceNeg, reduceCtorEq, resV, resAll, ARes.ev, LV.flat, ite_true, ite_false, exists_eq_left', exists_eq_left, keyOf, implies_true, fillC, capOf]
      refine memK_box c4 (by simp) fun N2 k1 k2 k3 => ?_
      simp (disch := omega) only [f0, f3, f4, f5, f6, k2.cells, ↓SXd, SXu, slBounds, ↓sop, ↓aop, ↓reduceIte, LV.cells, AOp.dst, LV.I, LV.B, LV.U, LV.S, LV.nil, Nat.reduceEqDiff, Nat.reduceAdd, Nat.reduceMul, Nat.reduceSub, Nat.reduceLeDiff, Nat.reduceBEq, Nat.reduceDiv, Nat.reduceMod, Int.reduceToNat, Int.reduceLT, Int.reduceLE, Int.reduceAdd, Int.reduceSub, Int.reduceMul, Int.reduceEq, Int.reduceNeg, reduceCtorEq, resV, resAll, ARes.ev, LV.flat, ite_true, ite_false, exists_eq_left', exists_eq_left, keyOf, implies_true, fillC, capOf]
      exact fin (by omega) (hD.trans hd2) c4 N2 k1 k3
    · simp (disch := omega) only [f0, f3, f4, f5, f6, ↓SXd, SXu, slBounds, ↓sop, ↓aop, ↓reduceIte, LV.cells, AOp.dst, LV.I, LV.B, LV.U, LV.S, LV.nil, Nat.reduceEqDiff, Nat.reduceAdd, Nat.reduceMul, Nat.reduceSub, Nat.reduceLeDiff, Nat.reduceBEq, Nat.reduceDiv, Nat.reduceMod, Int.reduceToNat, Int.reduceLT, Int.reduceLE, Int.reduceAdd, Int.reduceSub, Int.reduceMul, Int.reduceEq, Int.reduceNeg, reduceCtorEq, resV, resAll, ARes.ev, LV.flat, ite_true, ite_false, exists_eq_left', exists_eq_left, keyOf, implies_true, fillC, capOf]
      refine callR_of (d_pick hd2.1 (by omega)) ?_
      rintro _ N3 ⟨⟨j, rfl, hj⟩, hd3⟩
      have e4 := hd3.live c4 (by omega)
      have e5 := hd3.live c5 (by omega)
      have hj3 : j < 3 := by omega
      simp (disch := omega) only [f0, f3, f4, f5, f6, splice, ↓SXd, SXu, slBounds, ↓sop, ↓aop, ↓reduceIte, LV.cells, AOp.dst, LV.I, LV.B, LV.U, LV.S, LV.nil, Nat.reduceEqDiff, Nat.reduceAdd, Nat.reduceMul, Nat.reduceSub, Nat.reduceLeDiff, Nat.reduceBEq, Nat.reduceDiv, Nat.reduceMod, Int.reduceToNat, Int.reduceLT, Int.reduceLE, Int.reduceAdd, Int.reduceSub, Int.reduceMul, Int.reduceEq, Int.reduceNeg, reduceCtorEq, resV, resAll, ARes.ev, LV.flat, ite_true, ite_false, exists_eq_left', exists_eq_left, keyOf, implies_true, fillC, capOf]
      refine callR_of (d_amongNew (xs := [-1, 4, 4611686018427387904]) hd3.1 (by omega) (by simp) (by simp)) ?_
      rintro _ N4 ⟨⟨v, rfl, _⟩, hd4⟩
      have g4 := hd4.live e4 (by omega)
      have g5 := hd4.live e5 (by omega)
      have g5l := g5.lt
      simp (disch := omega) only [f0, f3, f4, f5, f6, Nat.mul_one, Nat.zero_add, ↓SXd, SXu, slBounds, ↓sop, ↓aop, ↓reduceIte, LV.cells, AOp.dst, LV.I, LV.B, LV.U, LV.S, LV.nil, Nat.reduceEqDiff, Nat.reduceAdd, Nat.reduceMul, Nat.reduceSub, Nat.reduceLeDiff, Nat.reduceBEq, Nat.reduceDiv, Nat.reduceMod, Int.reduceToNat, Int.reduceLT, Int.reduceLE, Int.reduceAdd, Int.reduceSub, Int.reduceMul, Int.reduceEq, Int.reduceNeg, reduceCtorEq, resV, resAll, ARes.ev, LV.flat, ite_true, ite_false, exists_eq_left', exists_eq_left, keyOf, implies_true, fillC, capOf]
      refine memK_at g5 (show j < 3 from hj3) fun N5 k1 k2 k3 => ?_
      obtain ⟨c', hc'⟩ : ∃ c' : Cell, c.row.set j (LV.I v) = c'.row := by
        rcases (show j = 0 ∨ j = 1 ∨ j = 2 by omega) with rfl | rfl | rfl
        · exact ⟨⟨v, c.b, c.c⟩, rfl⟩
        · exact ⟨⟨c.a, v, c.c⟩, rfl⟩
        · exact ⟨⟨c.a, c.b, v⟩, rfl⟩
      rw [hc'] at k2
      have hD5 : DrawN M p t o bs (a + 2 * 3 + 2 + 2 + 2) N5 := (((hD.trans hd2).trans hd3).trans hd4).keep hpl htM (Nat.le_refl _) (by omega) fun q q1 => k3 q (by omega) (by have := hD.2.1; have := hd2.2.1; have := hd3.2.1; have := hd4.2.1; omega)
      have m4 := live_step g4 (by omega) k3
      simp (disch := omega) only [f0, f3, f4, f5, f6, k2.cells, Cell.row, ↓SXd, SXu, slBounds, ↓sop, ↓aop, ↓reduceIte, LV.cells, AOp.dst, LV.I, LV.B, LV.U, LV.S, LV.nil, Nat.reduceEqDiff, Nat.reduceAdd, Nat.reduceMul, Nat.reduceSub, Nat.reduceLeDiff, Nat.reduceBEq, Nat.reduceDiv, Nat.reduceMod, Int.reduceToNat, Int.reduceLT, Int.reduceLE, Int.reduceAdd, Int.reduceSub, Int.reduceMul, Int.reduceEq, Int.reduceNeg, reduceCtorEq, resV, resAll, ARes.ev, LV.flat, ite_true, ite_false, exists_eq_left', exists_eq_left, keyOf, implies_true, fillC, capOf]
      refine memK_box m4 (by simp) fun N6 r1 r2 r3 => ?_
      simp (disch := omega) only [f0, f3, f4, f5, f6, r2.cells, ↓SXd, SXu, slBounds, ↓sop, ↓aop, ↓reduceIte, LV.cells, AOp.dst, LV.I, LV.B, LV.U, LV.S, LV.nil, Nat.reduceEqDiff, Nat.reduceAdd, Nat.reduceMul, Nat.reduceSub, Nat.reduceLeDiff, Nat.reduceBEq, Nat.reduceDiv, Nat.reduceMod, Int.reduceToNat, Int.reduceLT, Int.reduceLE, Int.reduceAdd, Int.reduceSub, Int.reduceMul, Int.reduceEq, Int.reduceNeg, reduceCtorEq, resV, resAll, ARes.ev, LV.flat, ite_true, ite_false, exists_eq_left', exists_eq_left, keyOf, implies_true, fillC, capOf]
      exact fin (by omega) hD5 m4 N6 r1 r3
def sidesL : List Cell := [⟨1, 1, 2⟩, ⟨2, 1, 1⟩, ⟨1, 2, 1⟩, ⟨1, 1, 1⟩, ⟨1, 1, 3⟩, ⟨2, 2, 1⟩, ⟨3, 1, 1⟩]
/-- A list of cells, all new. -/
def CellsN (M : Mem) (v : LV) (N : Mem) : Prop := ∃ (l : List Cell) (u : Nat), v = .ref u 0 l.length ∧ Live N u (.row (triL l) true 3) ∧ M.length ≤ u ∧ l.length ≤ 70
section
variable {t o : Nat} {bs : List Nat} {M : Mem} (hB : Bytes M t o bs) (h255 : ∀ b ∈ bs, b ≤ 255) (hl : bs.length ≤ 1000000000)
include hB h255 hl
end
end Go.Ab

/- The abstract code of some functions (written by a program of mine from the translation, by way of prepF). -/
namespace Go.Ab.C
open Go.Ab
end Go.Ab.C

/- That the program has this code. -/
namespace Go.Ab.K
open Go Go.Ab
end Go.Ab.K

/- Contracts: what the law of heaps' forms draws. -/
namespace Go.Ab
open Go
set_option linter.unusedSimpArgs false
set_option linter.unusedVariables false
set_option maxRecDepth 20000

/-- A guarded step, an if, and then the rest: the rest is shown once. -/
theorem guard_cut {P : Program} {o : AOp} {w : Bool} {r : List GOp} {b c : ACode} {fr : Fr} {v : LV} {M : Mem} {Q : AExit → Fr → Mem → Prop} (I : Fr → Mem → Prop) (h : guardO v w P o fr M (opsK P r (seqK P b (thenK I Q) .normal))) (hb : ∀ fr M, I fr M → EvC P c fr M Q) : guardO v w P o fr M (opsK P r (seqK P b (seqK P c Q) .normal)) := by
  have hm : ∀ e fr M, thenK I Q e fr M → seqK P c Q e fr M := fun e fr M hh => by
    cases e with
    | normal => exact hb _ _ hh
    | exit i => exact hh
    | ret => exact hh
  have hK : ∀ fr M, opsK P r (seqK P b (thenK I Q) .normal) fr M → opsK P r (seqK P b (seqK P c Q) .normal) fr M := fun fr M h => evops_mono (fun fr M hh => evc_mono hm hh) h
  have hA : EvOp P o fr M (opsK P r (seqK P b (thenK I Q) .normal)) → EvOp P o fr M (opsK P r (seqK P b (seqK P c Q) .normal)) := fun h => evg_mono (g := (none, o)) hK h
  revert h
  unfold guardO guardV
  split
  · intro h
    unfold condB at *
    exact ⟨fun e => hA (h.1 e), fun e => hK _ _ (h.2 e)⟩
  · exact fun h => hK _ _ h
  · exact id
theorem CurAt.new3 {t o : Nat} {bs : List Nat} {M : Mem} {b c : Option Blk} (hB : Bytes M t o bs) (h255 : ∀ b ∈ bs, b ≤ 255) (hl : bs.length ≤ 1000000000) : CurAt (M ++ [b, c, some (.row [.ref t o bs.length, .I 0, .val (.int .u64 0)] true 0)]) (M.length + 2) t o bs 0 := by
  have := CurAt.new (M := M ++ [b, c]) (t := t) (o := o) (bs := bs) (Has.app hB) h255 hl
  rw [List.append_assoc, List.length_append] at this
  exact this
section
variable {t o : Nat} {bs : List Nat} {M : Mem} (hB : Bytes M t o bs) (h255 : ∀ b ∈ bs, b ≤ 255) (hl : bs.length ≤ 1000000000)
include hB h255 hl
end
end Go.Ab

/- Contracts: what the law of taking draws. -/
namespace Go.Ab
open Go
set_option linter.unusedSimpArgs false
set_option linter.unusedVariables false
set_option maxRecDepth 20000

theorem h_sSinkHeapE {x y z : Int} {t : Nat} {w : Bool} {cs : List Cell} {M : Mem} (h : Live M t (.row (triL cs) w 3)) (hn : cs.length ≤ 1000000000) (hH : HeapOK x y z cs) :
    CallsR PG F.spec_SinkHeap [.agg [.I x, .I y, .I z, .ref t 0 cs.length]] M fun v N => (∃ (l : List Cell) (u : Nat) (k : Int), v = .tup [.agg [.I x, .I y, .I z, .ref u 0 l.length], .I k, .B true] ∧ Live N u (.row (triL l) true 3) ∧ M.length ≤ u ∧ l.length ≤ 64) ∧ Pre M N := by
  refine callsR_run K.spec_SinkHeap rfl ?_
  simp (disch := omega) only [C.spec_SinkHeap, ↓SXd, SXu, slBounds, ↓sop, ↓aop, ↓reduceIte, LV.cells, AOp.dst, LV.I, LV.B, LV.U, LV.S, LV.nil, Nat.reduceEqDiff, Nat.reduceAdd, Nat.reduceMul, Nat.reduceSub, Nat.reduceLeDiff, Nat.reduceBEq, Nat.reduceDiv, Nat.reduceMod, Int.reduceToNat, Int.reduceLT, Int.reduceLE, Int.reduceAdd, Int.reduceSub, Int.reduceMul, Int.reduceEq, Int.reduceNeg, reduceCtorEq, resV, resAll, ARes.ev, LV.flat, ite_true, ite_false, exists_eq_left', exists_eq_left, keyOf, implies_true, fillC, capOf]
  refine callK_of (h_l2Heap (Has.app h.has) hn) ?_
  simp (disch := omega) only [↓SXd, SXu, slBounds, ↓sop, ↓aop, ↓reduceIte, LV.cells, AOp.dst, LV.I, LV.B, LV.U, LV.S, LV.nil, Nat.reduceEqDiff, Nat.reduceAdd, Nat.reduceMul, Nat.reduceSub, Nat.reduceLeDiff, Nat.reduceBEq, Nat.reduceDiv, Nat.reduceMod, Int.reduceToNat, Int.reduceLT, Int.reduceLE, Int.reduceAdd, Int.reduceSub, Int.reduceMul, Int.reduceEq, Int.reduceNeg, reduceCtorEq, resV, resAll, ARes.ev, LV.flat, ite_true, ite_false, exists_eq_left', exists_eq_left, keyOf, implies_true, fillC, capOf]
  by_cases hH : HeapOK x y z cs
  · have hS := hH.1
    have hlen := hH.len
    simp (disch := omega) only [hH, ↓SXd, SXu, slBounds, ↓sop, ↓aop, ↓reduceIte, LV.cells, AOp.dst, LV.I, LV.B, LV.U, LV.S, LV.nil, Nat.reduceEqDiff, Nat.reduceAdd, Nat.reduceMul, Nat.reduceSub, Nat.reduceLeDiff, Nat.reduceBEq, Nat.reduceDiv, Nat.reduceMod, Int.reduceToNat, Int.reduceLT, Int.reduceLE, Int.reduceAdd, Int.reduceSub, Int.reduceMul, Int.reduceEq, Int.reduceNeg, reduceCtorEq, resV, resAll, ARes.ev, LV.flat, ite_true, ite_false, exists_eq_left', exists_eq_left, keyOf, implies_true, fillC, capOf]
    refine callK_of (h_l2Own (Has.app h.has) hn) ?_
    simp (disch := omega) only [splice, ↓SXd, SXu, slBounds, ↓sop, ↓aop, ↓reduceIte, LV.cells, AOp.dst, LV.I, LV.B, LV.U, LV.S, LV.nil, Nat.reduceEqDiff, Nat.reduceAdd, Nat.reduceMul, Nat.reduceSub, Nat.reduceLeDiff, Nat.reduceBEq, Nat.reduceDiv, Nat.reduceMod, Int.reduceToNat, Int.reduceLT, Int.reduceLE, Int.reduceAdd, Int.reduceSub, Int.reduceMul, Int.reduceEq, Int.reduceNeg, reduceCtorEq, resV, resAll, ARes.ev, LV.flat, ite_true, ite_false, exists_eq_left', exists_eq_left, keyOf, implies_true, fillC, capOf]
    refine ev_loop (fun m fr M' => ∃ (p : Cell → Bool) (k v : Nat), k + m = 1000 ∧ sumC (pick x y z p) < m ∧ (sink x y z 1000 fun c => decide (c ∈ cs)) = ((sink x y z m p).1, k + (sink x y z m p).2) ∧ Pre M M' ∧ Live M' (M.length + 1) (.row [.I 0, .I 0, .I 0, .nil] true 0) ∧
      Live M' (M.length + 3) (.row [.I x, .I y, .I z, .ref v 0 (pick x y z p).length] true 0) ∧ Live M' v (.row (triL (pick x y z p)) true 3) ∧ M.length ≤ v ∧
      fr 2 = .ptr (M.length + 1) 0 ∧ fr 5 = .ptr (M.length + 3) 0 ∧ fr 6 = .I k) 1000
      ⟨fun c => decide (c ∈ cs), 0, M.length + 2, rfl, sumC_le hS _, by simp, Pre.app _ _, Live.newj rfl, by rw [← hH.pick]; exact Live.newj rfl, by rw [← hH.pick]; exact Live.newj rfl, by omega, rfl, rfl, rfl⟩ ?_
    rintro m fr M' ⟨p, k, v, hk, hm, hsk, hpre, b2, b5, bv, hv, f2, f5, f6⟩
    have hlM := b5.lt
    have hHp := pick_ok hS p
    simp (disch := omega) only [f2, f5, f6, b5.cells, ↓SXd, SXu, slBounds, ↓sop, ↓aop, ↓reduceIte, LV.cells, AOp.dst, LV.I, LV.B, LV.U, LV.S, LV.nil, Nat.reduceEqDiff, Nat.reduceAdd, Nat.reduceMul, Nat.reduceSub, Nat.reduceLeDiff, Nat.reduceBEq, Nat.reduceDiv, Nat.reduceMod, Int.reduceToNat, Int.reduceLT, Int.reduceLE, Int.reduceAdd, Int.reduceSub, Int.reduceMul, Int.reduceEq, Int.reduceNeg, reduceCtorEq, resV, resAll, ARes.ev, LV.flat, ite_true, ite_false, exists_eq_left', exists_eq_left, keyOf, implies_true, fillC, capOf]
    have hc1 := h_l7Parted (hang := true) bv hHp
    rw [parted_mem hS, parted_t hS] at hc1
    refine callN_of hc1 ?_
    intro tn N2 htn hp2 hnr
    have hpl := pick_len hS (hang x y z p)
    have hfh := firm_hang hS (p := p)
    rw [parted_t hS] at hfh
    obtain ⟨m', rfl⟩ : ∃ m', m = m' + 1 := ⟨m - 1, by omega⟩
    have hlN2 := hp2.1
    simp (disch := omega) only [f2, f5, f6, ↓SXd, SXu, slBounds, ↓sop, ↓aop, ↓reduceIte, LV.cells, AOp.dst, LV.I, LV.B, LV.U, LV.S, LV.nil, Nat.reduceEqDiff, Nat.reduceAdd, Nat.reduceMul, Nat.reduceSub, Nat.reduceLeDiff, Nat.reduceBEq, Nat.reduceDiv, Nat.reduceMod, Int.reduceToNat, Int.reduceLT, Int.reduceLE, Int.reduceAdd, Int.reduceSub, Int.reduceMul, Int.reduceEq, Int.reduceNeg, reduceCtorEq, resV, resAll, ARes.ev, LV.flat, ite_true, ite_false, exists_eq_left', exists_eq_left, keyOf, implies_true, fillC, capOf]
    refine condC_dec (fun hz => ?_) (fun hz => ?_)
    · have hF := hfh.1 (by omega)
      have hs0 : sink x y z (m' + 1) p = (p, 0) := by simp only [sink, if_pos hF]
      rw [hs0] at hsk
      simp only [Nat.add_zero] at hsk
      simp (disch := omega) only [f2, f5, f6, (b5.pre hp2).cells, ↓SXd, SXu, slBounds, ↓sop, ↓aop, ↓reduceIte, LV.cells, AOp.dst, LV.I, LV.B, LV.U, LV.S, LV.nil, Nat.reduceEqDiff, Nat.reduceAdd, Nat.reduceMul, Nat.reduceSub, Nat.reduceLeDiff, Nat.reduceBEq, Nat.reduceDiv, Nat.reduceMod, Int.reduceToNat, Int.reduceLT, Int.reduceLE, Int.reduceAdd, Int.reduceSub, Int.reduceMul, Int.reduceEq, Int.reduceNeg, reduceCtorEq, resV, resAll, ARes.ev, LV.flat, ite_true, ite_false, exists_eq_left', exists_eq_left, keyOf, implies_true, fillC, capOf]
      refine memK_box (b2.pre hp2) (by simp) fun N3 k1 k2 k3 => ?_
      simp (disch := omega) only [f2, f5, f6, k2.cells, ↓SXd, SXu, slBounds, ↓sop, ↓aop, ↓reduceIte, LV.cells, AOp.dst, LV.I, LV.B, LV.U, LV.S, LV.nil, Nat.reduceEqDiff, Nat.reduceAdd, Nat.reduceMul, Nat.reduceSub, Nat.reduceLeDiff, Nat.reduceBEq, Nat.reduceDiv, Nat.reduceMod, Int.reduceToNat, Int.reduceLT, Int.reduceLE, Int.reduceAdd, Int.reduceSub, Int.reduceMul, Int.reduceEq, Int.reduceNeg, reduceCtorEq, resV, resAll, ARes.ev, LV.flat, ite_true, ite_false, exists_eq_left', exists_eq_left, keyOf, implies_true, fillC, capOf]
      exact ⟨⟨_, v, _, rfl, live_step (bv.pre hp2) (bv.ne_esz b2 (by decide)) k3, hv, pick_len hS p⟩, pre_step (hpre.trans hp2) (by omega) (j := 0) k1 k3⟩
    · have hF : ¬ Firm x y z p := fun e => hz (by have := hfh.2 e; omega)
      have hs1 : sink x y z (m' + 1) p = ((sink x y z m' (sinkNext x y z p)).1, (sink x y z m' (sinkNext x y z p)).2 + 1) := by simp only [sink, if_neg hF]
      rw [hs1] at hsk
      have hlt := sink_less hS hF
      have c2 := b2.pre hp2
      have c5 := b5.pre hp2
      have cv := bv.pre hp2
      simp (disch := omega) only [f2, f5, f6, c5.cells, ↓SXd, SXu, slBounds, ↓sop, ↓aop, ↓reduceIte, LV.cells, AOp.dst, LV.I, LV.B, LV.U, LV.S, LV.nil, Nat.reduceEqDiff, Nat.reduceAdd, Nat.reduceMul, Nat.reduceSub, Nat.reduceLeDiff, Nat.reduceBEq, Nat.reduceDiv, Nat.reduceMod, Int.reduceToNat, Int.reduceLT, Int.reduceLE, Int.reduceAdd, Int.reduceSub, Int.reduceMul, Int.reduceEq, Int.reduceNeg, reduceCtorEq, resV, resAll, ARes.ev, LV.flat, ite_true, ite_false, exists_eq_left', exists_eq_left, keyOf, implies_true, fillC, capOf]
      have hc2 := h_l7Parted (hang := false) cv hHp
      rw [parted_mem hS, parted_f hS] at hc2
      refine callN_of hc2 ?_
      intro ts N3 hts hp3 hsr
      have hlN3 := hp3.1
      have e0 : N2[M.length + 3]? = _ := c5
      have e1 : N3[M.length + 3]? = _ := c5.pre hp3
      simp (disch := omega) only [f2, f5, f6, e0, e1, ↓SXd, SXu, slBounds, ↓sop, ↓aop, ↓reduceIte, LV.cells, AOp.dst, LV.I, LV.B, LV.U, LV.S, LV.nil, Nat.reduceEqDiff, Nat.reduceAdd, Nat.reduceMul, Nat.reduceSub, Nat.reduceLeDiff, Nat.reduceBEq, Nat.reduceDiv, Nat.reduceMod, Int.reduceToNat, Int.reduceLT, Int.reduceLE, Int.reduceAdd, Int.reduceSub, Int.reduceMul, Int.reduceEq, Int.reduceNeg, reduceCtorEq, resV, resAll, ARes.ev, LV.flat, ite_true, ite_false, exists_eq_left', exists_eq_left, keyOf, implies_true, fillC, capOf]
      refine callK_of (h_l2Made hsr.lt) ?_
      simp (disch := omega) only [f2, f5, f6, ↓SXd, SXu, slBounds, ↓sop, ↓aop, ↓reduceIte, LV.cells, AOp.dst, LV.I, LV.B, LV.U, LV.S, LV.nil, Nat.reduceEqDiff, Nat.reduceAdd, Nat.reduceMul, Nat.reduceSub, Nat.reduceLeDiff, Nat.reduceBEq, Nat.reduceDiv, Nat.reduceMod, Int.reduceToNat, Int.reduceLT, Int.reduceLE, Int.reduceAdd, Int.reduceSub, Int.reduceMul, Int.reduceEq, Int.reduceNeg, reduceCtorEq, resV, resAll, ARes.ev, LV.flat, ite_true, ite_false, exists_eq_left', exists_eq_left, keyOf, implies_true, fillC, capOf]
      refine memK_box (c5.pre hp3) (by simp) fun N4 k1 k2 k3 => ?_
      simp (disch := omega) only [f2, f5, f6, ↓SXd, SXu, slBounds, ↓sop, ↓aop, ↓reduceIte, LV.cells, AOp.dst, LV.I, LV.B, LV.U, LV.S, LV.nil, Nat.reduceEqDiff, Nat.reduceAdd, Nat.reduceMul, Nat.reduceSub, Nat.reduceLeDiff, Nat.reduceBEq, Nat.reduceDiv, Nat.reduceMod, Int.reduceToNat, Int.reduceLT, Int.reduceLE, Int.reduceAdd, Int.reduceSub, Int.reduceMul, Int.reduceEq, Int.reduceNeg, reduceCtorEq, resV, resAll, ARes.ev, LV.flat, ite_true, ite_false, exists_eq_left', exists_eq_left, keyOf, implies_true, fillC, capOf]
      refine ev_loop (fun m2 fr N => ∃ (i v : Nat), i + m2 = (pick x y z (hang x y z p)).length ∧ Pre M N ∧ Live N (M.length + 1) (.row [.I 0, .I 0, .I 0, .nil] true 0) ∧ Live N tn (.row (triL (pick x y z (hang x y z p))) true 3) ∧
        Live N (M.length + 3) (.row [.I x, .I y, .I z, .ref v 0 (pick x y z (sinkK x y z p i)).length] true 0) ∧ Live N v (.row (triL (pick x y z (sinkK x y z p i))) true 3) ∧ M.length ≤ v ∧
        fr 2 = .ptr (M.length + 1) 0 ∧ fr 5 = .ptr (M.length + 3) 0 ∧ fr 6 = .I k ∧ fr 7 = .ref tn 0 (pick x y z (hang x y z p)).length ∧ fr 8 = .I i) (pick x y z (hang x y z p)).length
        ⟨0, ts, by omega, pre_step ((hpre.trans hp2).trans hp3) (by omega) (j := 0) k1 k3, live_step (c2.pre hp3) (by omega) k3, live_step (hnr.pre hp3) (hnr.ne_esz c5 (by decide)) k3, ?_, ?_, by have := hpre.1; omega, f2, f5, f6, rfl, rfl⟩ ?_
      · rw [show pick x y z (sinkK x y z p 0) = pick x y z (stand x y z p) from pick_congr hS fun d _ => by simp [sinkK]]; exact k2
      · rw [show pick x y z (sinkK x y z p 0) = pick x y z (stand x y z p) from pick_congr hS fun d _ => by simp [sinkK]]; exact live_step hsr (by omega) k3
      clear f2 f5 f6 k2 b2 b5 bv c2 c5 cv hnr hsr e0 e1
      rintro m2 fr N ⟨i, v, hi, hpre, b2, hnr, b5, bv, hv, f2, f5, f6, f7, f8⟩
      simp (disch := omega) only [f2, f5, f6, f7, f8, ↓SXd, SXu, slBounds, ↓sop, ↓aop, ↓reduceIte, LV.cells, AOp.dst, LV.I, LV.B, LV.U, LV.S, LV.nil, Nat.reduceEqDiff, Nat.reduceAdd, Nat.reduceMul, Nat.reduceSub, Nat.reduceLeDiff, Nat.reduceBEq, Nat.reduceDiv, Nat.reduceMod, Int.reduceToNat, Int.reduceLT, Int.reduceLE, Int.reduceAdd, Int.reduceSub, Int.reduceMul, Int.reduceEq, Int.reduceNeg, reduceCtorEq, resV, resAll, ARes.ev, LV.flat, ite_true, ite_false, exists_eq_left', exists_eq_left, keyOf, implies_true, fillC, capOf]
      refine condC_dec (fun hlt2 => ?_) (fun hlt2 => ?_)
      · have hil : i < (pick x y z (hang x y z p)).length := by omega
        obtain ⟨q1, q2⟩ := (mem_pick hS).1 (getD_mem' (d := default) hil)
        obtain ⟨u1, u2⟩ := hang_up hS q1 q2
        have hz := q1.2.2
        have hz4 := hS.2.2
        have hst := sinkK_step hS hil
        have hga := Tri.get_a (cs := pick x y z (hang x y z p)) hnr.has hil
        have hgb := Tri.get_b (cs := pick x y z (hang x y z p)) hnr.has hil
        have hgc := Tri.get_c (cs := pick x y z (hang x y z p)) hnr.has hil
        rw [Nat.zero_add] at hga hgb hgc
        generalize (pick x y z (hang x y z p)).getD i default = c at hga hgb hgc q1 q2 u1 u2 hz hst
        simp (disch := omega) only [f2, f5, f6, f7, f8, b5.cells, hga, hgb, hgc, splice, ↓SXd, SXu, slBounds, ↓sop, ↓aop, ↓reduceIte, LV.cells, AOp.dst, LV.I, LV.B, LV.U, LV.S, LV.nil, Nat.reduceEqDiff, Nat.reduceAdd, Nat.reduceMul, Nat.reduceSub, Nat.reduceLeDiff, Nat.reduceBEq, Nat.reduceDiv, Nat.reduceMod, Int.reduceToNat, Int.reduceLT, Int.reduceLE, Int.reduceAdd, Int.reduceSub, Int.reduceMul, Int.reduceEq, Int.reduceNeg, reduceCtorEq, resV, resAll, ARes.ev, LV.flat, ite_true, ite_false, exists_eq_left', exists_eq_left, keyOf, implies_true, fillC, capOf]
        refine callH_of (h_l2With bv (pick_ok hS _) (c := down c) u2) ?_
        intro v2 N5 hv2 hp5 hvr
        have hpe : pick x y z (fun d => decide (d ∈ pick x y z (sinkK x y z p i)) || decide (d = down c)) = pick x y z (sinkK x y z p (i + 1)) := pick_congr hS fun d hd => by
          rw [hst]
          congr 1
          rw [Bool.eq_iff_iff, decide_eq_true_iff, mem_pick hS]; exact ⟨fun h => h.2, fun h => ⟨hd, h⟩⟩
        rw [hpe] at hvr ⊢
        have hl5 := hp5.1
        have hlb := b5.lt
        have hlp := hpre.1
        simp (disch := omega) only [f2, f5, f6, f7, f8, ↓SXd, SXu, slBounds, ↓sop, ↓aop, ↓reduceIte, LV.cells, AOp.dst, LV.I, LV.B, LV.U, LV.S, LV.nil, Nat.reduceEqDiff, Nat.reduceAdd, Nat.reduceMul, Nat.reduceSub, Nat.reduceLeDiff, Nat.reduceBEq, Nat.reduceDiv, Nat.reduceMod, Int.reduceToNat, Int.reduceLT, Int.reduceLE, Int.reduceAdd, Int.reduceSub, Int.reduceMul, Int.reduceEq, Int.reduceNeg, reduceCtorEq, resV, resAll, ARes.ev, LV.flat, ite_true, ite_false, exists_eq_left', exists_eq_left, keyOf, implies_true, fillC, capOf]
        refine memK_box (b5.pre hp5) (by simp) fun N6 j1 j2 j3 => ?_
        simp (disch := omega) only [f2, f5, f6, f7, f8, ↓SXd, SXu, slBounds, ↓sop, ↓aop, ↓reduceIte, LV.cells, AOp.dst, LV.I, LV.B, LV.U, LV.S, LV.nil, Nat.reduceEqDiff, Nat.reduceAdd, Nat.reduceMul, Nat.reduceSub, Nat.reduceLeDiff, Nat.reduceBEq, Nat.reduceDiv, Nat.reduceMod, Int.reduceToNat, Int.reduceLT, Int.reduceLE, Int.reduceAdd, Int.reduceSub, Int.reduceMul, Int.reduceEq, Int.reduceNeg, reduceCtorEq, resV, resAll, ARes.ev, LV.flat, ite_true, ite_false, exists_eq_left', exists_eq_left, keyOf, implies_true, fillC, capOf]
        exact ⟨m2 - 1, by omega, i + 1, v2, by omega, pre_step (hpre.trans hp5) (by omega) (j := 0) j1 j3, live_step (b2.pre hp5) (by omega) j3, live_step (hnr.pre hp5) (hnr.ne_esz b5 (by decide)) j3, j2, live_step hvr (by omega) j3, by omega, f2, f5, f6, f7, eqI (natI _)⟩
      · simp (disch := omega) only [f2, f5, f6, f7, f8, ↓SXd, SXu, slBounds, ↓sop, ↓aop, ↓reduceIte, LV.cells, AOp.dst, LV.I, LV.B, LV.U, LV.S, LV.nil, Nat.reduceEqDiff, Nat.reduceAdd, Nat.reduceMul, Nat.reduceSub, Nat.reduceLeDiff, Nat.reduceBEq, Nat.reduceDiv, Nat.reduceMod, Int.reduceToNat, Int.reduceLT, Int.reduceLE, Int.reduceAdd, Int.reduceSub, Int.reduceMul, Int.reduceEq, Int.reduceNeg, reduceCtorEq, resV, resAll, ARes.ev, LV.flat, ite_true, ite_false, exists_eq_left', exists_eq_left, keyOf, implies_true, fillC, capOf]
        have : i = (pick x y z (hang x y z p)).length := by omega
        subst this
        rw [pick_congr hS fun d hd => sinkK_all hS hd] at b5 bv
        exact ⟨m', by omega, sinkNext x y z p, k + 1, v, by omega, by omega, by rw [hsk]; simp only [Prod.mk.injEq, true_and]; omega, hpre, b2, b5, bv, hv, f2, f5, eqI (natI _)⟩
  · exact absurd ‹HeapOK x y z cs› hH

theorem d_standing7 {p t o a : Nat} {bs : List Nat} {M : Mem} (h : CurAt M p t o bs a) (ha : a ≤ 900000) : CallsR PG F.spec_l1Cur_standing7 [.ptr p 0] M fun v N => HeapE M v N ∧ DrawN M p t o bs (a + 170) N := by
  obtain ⟨⟨_, _, _, hpl'⟩, hB, _⟩ := id h
  have hpl := hpl'.lt
  have htM := hB.lt
  refine callsR_run K.spec_l1Cur_standing7 rfl ?_
  simp (disch := omega) only [C.spec_l1Cur_standing7, ↓SXd, SXu, slBounds, ↓sop, ↓aop, ↓reduceIte, LV.cells, AOp.dst, LV.I, LV.B, LV.U, LV.S, LV.nil, Nat.reduceEqDiff, Nat.reduceAdd, Nat.reduceMul, Nat.reduceSub, Nat.reduceLeDiff, Nat.reduceBEq, Nat.reduceDiv, Nat.reduceMod, Int.reduceToNat, Int.reduceLT, Int.reduceLE, Int.reduceAdd, Int.reduceSub, Int.reduceMul, Int.reduceEq, Int.reduceNeg, reduceCtorEq, resV, resAll, ARes.ev, LV.flat, ite_true, ite_false, exists_eq_left', exists_eq_left, keyOf, implies_true, fillC, capOf]
  have h0 : CurAt (M ++ [some (.row [.I 0, .I 0, .I 0, .nil] true 0)]) p t o bs a := h.pre (Pre.app _ _)
  refine callR_of (d_heapE h0 (by omega)) ?_
  rintro _ N1 ⟨⟨x, y, z, cs, u, rfl, hu, hul, hcl⟩, hd1⟩
  rw [List.length_append] at hul
  simp only [List.length_cons, List.length_nil] at hul
  have hd1' : DrawN M p t o bs (a + 160) N1 := DrawN.of_pre (Pre.app _ _) hd1
  have b2 : Live N1 M.length (.row [.I 0, .I 0, .I 0, .nil] true 0) := hd1.live Live.new (by omega)
  have hN1 := hd1.2.1
  rw [List.length_append] at hN1
  simp only [List.length_cons, List.length_nil] at hN1
  have hul2 := hu.lt
  simp (disch := omega) only [splice, ↓SXd, SXu, slBounds, ↓sop, ↓aop, ↓reduceIte, LV.cells, AOp.dst, LV.I, LV.B, LV.U, LV.S, LV.nil, Nat.reduceEqDiff, Nat.reduceAdd, Nat.reduceMul, Nat.reduceSub, Nat.reduceLeDiff, Nat.reduceBEq, Nat.reduceDiv, Nat.reduceMod, Int.reduceToNat, Int.reduceLT, Int.reduceLE, Int.reduceAdd, Int.reduceSub, Int.reduceMul, Int.reduceEq, Int.reduceNeg, reduceCtorEq, resV, resAll, ARes.ev, LV.flat, ite_true, ite_false, exists_eq_left', exists_eq_left, keyOf, implies_true, fillC, capOf]
  have b4 : Live (N1 ++ [some (.row [.I x, .I y, .I z, .ref u 0 cs.length] true 0)]) N1.length (.row [.I x, .I y, .I z, .ref u 0 cs.length] true 0) := Live.new
  have c2 := b2.app (L := [some (.row [.I x, .I y, .I z, .ref u 0 cs.length] true 0)])
  have cu := hu.app (L := [some (.row [.I x, .I y, .I z, .ref u 0 cs.length] true 0)])
  have hD : DrawN M p t o bs (a + 160) (N1 ++ [some (.row [.I x, .I y, .I z, .ref u 0 cs.length] true 0)]) := hd1'.trans ⟨hd1.1.pre (Pre.app _ _), by simp, fun q h1 _ => List.getElem?_append_left h1⟩
  generalize hm4 : N1.length = m4 at b4 ⊢
  have h4M : M.length < m4 := by omega
  have hu4 : u ≠ m4 := by omega
  have hp4 : m4 ≠ p := by omega
  generalize N1 ++ [some (Blk.row [.I x, .I y, .I z, .ref u 0 cs.length] true 0)] = N2 at b4 c2 cu hD ⊢
  have hup : u ≠ p := by omega
  refine callK_of (h_l2Heap cu.has (by omega)) ?_
  simp (disch := omega) only [↓SXd, SXu, slBounds, ↓sop, ↓aop, ↓reduceIte, LV.cells, AOp.dst, LV.I, LV.B, LV.U, LV.S, LV.nil, Nat.reduceEqDiff, Nat.reduceAdd, Nat.reduceMul, Nat.reduceSub, Nat.reduceLeDiff, Nat.reduceBEq, Nat.reduceDiv, Nat.reduceMod, Int.reduceToNat, Int.reduceLT, Int.reduceLE, Int.reduceAdd, Int.reduceSub, Int.reduceMul, Int.reduceEq, Int.reduceNeg, reduceCtorEq, resV, resAll, ARes.ev, LV.flat, ite_true, ite_false, exists_eq_left', exists_eq_left, keyOf, implies_true, fillC, capOf]
  by_cases hH : HeapOK x y z cs
  rotate_left
  · simp (disch := omega) only [hH, b4.cells, ↓SXd, SXu, slBounds, ↓sop, ↓aop, ↓reduceIte, LV.cells, AOp.dst, LV.I, LV.B, LV.U, LV.S, LV.nil, Nat.reduceEqDiff, Nat.reduceAdd, Nat.reduceMul, Nat.reduceSub, Nat.reduceLeDiff, Nat.reduceBEq, Nat.reduceDiv, Nat.reduceMod, Int.reduceToNat, Int.reduceLT, Int.reduceLE, Int.reduceAdd, Int.reduceSub, Int.reduceMul, Int.reduceEq, Int.reduceNeg, reduceCtorEq, resV, resAll, ARes.ev, LV.flat, ite_true, ite_false, exists_eq_left', exists_eq_left, keyOf, implies_true, fillC, capOf]
    refine memK_box c2 (by simp) fun N5 i1 i2 i3 => ?_
    simp (disch := omega) only [i2.cells, ↓SXd, SXu, slBounds, ↓sop, ↓aop, ↓reduceIte, LV.cells, AOp.dst, LV.I, LV.B, LV.U, LV.S, LV.nil, Nat.reduceEqDiff, Nat.reduceAdd, Nat.reduceMul, Nat.reduceSub, Nat.reduceLeDiff, Nat.reduceBEq, Nat.reduceDiv, Nat.reduceMod, Int.reduceToNat, Int.reduceLT, Int.reduceLE, Int.reduceAdd, Int.reduceSub, Int.reduceMul, Int.reduceEq, Int.reduceNeg, reduceCtorEq, resV, resAll, ARes.ev, LV.flat, ite_true, ite_false, exists_eq_left', exists_eq_left, keyOf, implies_true, fillC, capOf]
    exact ⟨⟨x, y, z, cs, u, rfl, live_step cu (by omega) i3, by omega, hcl⟩, hD.keep hpl htM (by omega) (by omega) fun q h1 => i3 q (by omega) (by have := hD.2.1; omega)⟩
  simp (disch := omega) only [hH, ↓SXd, SXu, slBounds, ↓sop, ↓aop, ↓reduceIte, LV.cells, AOp.dst, LV.I, LV.B, LV.U, LV.S, LV.nil, Nat.reduceEqDiff, Nat.reduceAdd, Nat.reduceMul, Nat.reduceSub, Nat.reduceLeDiff, Nat.reduceBEq, Nat.reduceDiv, Nat.reduceMod, Int.reduceToNat, Int.reduceLT, Int.reduceLE, Int.reduceAdd, Int.reduceSub, Int.reduceMul, Int.reduceEq, Int.reduceNeg, reduceCtorEq, resV, resAll, ARes.ev, LV.flat, ite_true, ite_false, exists_eq_left', exists_eq_left, keyOf, implies_true, fillC, capOf]
  refine callR_of (d_one hD.1 (by omega)) ?_
  rintro _ N3 ⟨⟨b, rfl⟩, hd2⟩
  have e2 := hd2.live c2 (by omega)
  have e4 := hd2.live b4 (by omega)
  have eu := hd2.live cu (by omega)
  have hD3 := hD.trans hd2
  have hl2 := hD3.2.1
  have he4 := e4.lt
  cases b
  rotate_left
  · simp (disch := omega) only [e4.cells, ↓SXd, SXu, slBounds, ↓sop, ↓aop, ↓reduceIte, LV.cells, AOp.dst, LV.I, LV.B, LV.U, LV.S, LV.nil, Nat.reduceEqDiff, Nat.reduceAdd, Nat.reduceMul, Nat.reduceSub, Nat.reduceLeDiff, Nat.reduceBEq, Nat.reduceDiv, Nat.reduceMod, Int.reduceToNat, Int.reduceLT, Int.reduceLE, Int.reduceAdd, Int.reduceSub, Int.reduceMul, Int.reduceEq, Int.reduceNeg, reduceCtorEq, resV, resAll, ARes.ev, LV.flat, ite_true, ite_false, exists_eq_left', exists_eq_left, keyOf, implies_true, fillC, capOf]
    refine memK_box e2 (by simp) fun N5 i1 i2 i3 => ?_
    simp (disch := omega) only [i2.cells, ↓SXd, SXu, slBounds, ↓sop, ↓aop, ↓reduceIte, LV.cells, AOp.dst, LV.I, LV.B, LV.U, LV.S, LV.nil, Nat.reduceEqDiff, Nat.reduceAdd, Nat.reduceMul, Nat.reduceSub, Nat.reduceLeDiff, Nat.reduceBEq, Nat.reduceDiv, Nat.reduceMod, Int.reduceToNat, Int.reduceLT, Int.reduceLE, Int.reduceAdd, Int.reduceSub, Int.reduceMul, Int.reduceEq, Int.reduceNeg, reduceCtorEq, resV, resAll, ARes.ev, LV.flat, ite_true, ite_false, exists_eq_left', exists_eq_left, keyOf, implies_true, fillC, capOf]
    exact ⟨⟨x, y, z, cs, u, rfl, live_step eu (by omega) i3, by omega, hcl⟩, hD3.keep hpl htM (by omega) (by omega) fun q h1 => i3 q (by omega) (by omega)⟩
  · simp (disch := omega) only [e4.cells, ↓SXd, SXu, slBounds, ↓sop, ↓aop, ↓reduceIte, LV.cells, AOp.dst, LV.I, LV.B, LV.U, LV.S, LV.nil, Nat.reduceEqDiff, Nat.reduceAdd, Nat.reduceMul, Nat.reduceSub, Nat.reduceLeDiff, Nat.reduceBEq, Nat.reduceDiv, Nat.reduceMod, Int.reduceToNat, Int.reduceLT, Int.reduceLE, Int.reduceAdd, Int.reduceSub, Int.reduceMul, Int.reduceEq, Int.reduceNeg, reduceCtorEq, resV, resAll, ARes.ev, LV.flat, ite_true, ite_false, exists_eq_left', exists_eq_left, keyOf, implies_true, fillC, capOf]
    refine callR_of (h_sSinkHeapE eu (by omega) hH) ?_
    rintro _ N4 ⟨⟨l, v, k, rfl, hv, hvl, hll⟩, hp5⟩
    simp (disch := omega) only [↓SXd, SXu, slBounds, ↓sop, ↓aop, ↓reduceIte, LV.cells, AOp.dst, LV.I, LV.B, LV.U, LV.S, LV.nil, Nat.reduceEqDiff, Nat.reduceAdd, Nat.reduceMul, Nat.reduceSub, Nat.reduceLeDiff, Nat.reduceBEq, Nat.reduceDiv, Nat.reduceMod, Int.reduceToNat, Int.reduceLT, Int.reduceLE, Int.reduceAdd, Int.reduceSub, Int.reduceMul, Int.reduceEq, Int.reduceNeg, reduceCtorEq, resV, resAll, ARes.ev, LV.flat, ite_true, ite_false, exists_eq_left', exists_eq_left, keyOf, implies_true, fillC, capOf]
    refine memK_box (e4.pre hp5) (by simp) fun N5 i1 i2 i3 => ?_
    have hl5 := hp5.1
    have f2 := live_step (e2.pre hp5) (by omega) i3
    have fv := live_step hv (by omega) i3
    simp (disch := omega) only [i2.cells, ↓SXd, SXu, slBounds, ↓sop, ↓aop, ↓reduceIte, LV.cells, AOp.dst, LV.I, LV.B, LV.U, LV.S, LV.nil, Nat.reduceEqDiff, Nat.reduceAdd, Nat.reduceMul, Nat.reduceSub, Nat.reduceLeDiff, Nat.reduceBEq, Nat.reduceDiv, Nat.reduceMod, Int.reduceToNat, Int.reduceLT, Int.reduceLE, Int.reduceAdd, Int.reduceSub, Int.reduceMul, Int.reduceEq, Int.reduceNeg, reduceCtorEq, resV, resAll, ARes.ev, LV.flat, ite_true, ite_false, exists_eq_left', exists_eq_left, keyOf, implies_true, fillC, capOf]
    refine memK_box f2 (by simp) fun N6 j1 j2 j3 => ?_
    simp (disch := omega) only [j2.cells, ↓SXd, SXu, slBounds, ↓sop, ↓aop, ↓reduceIte, LV.cells, AOp.dst, LV.I, LV.B, LV.U, LV.S, LV.nil, Nat.reduceEqDiff, Nat.reduceAdd, Nat.reduceMul, Nat.reduceSub, Nat.reduceLeDiff, Nat.reduceBEq, Nat.reduceDiv, Nat.reduceMod, Int.reduceToNat, Int.reduceLT, Int.reduceLE, Int.reduceAdd, Int.reduceSub, Int.reduceMul, Int.reduceEq, Int.reduceNeg, reduceCtorEq, resV, resAll, ARes.ev, LV.flat, ite_true, ite_false, exists_eq_left', exists_eq_left, keyOf, implies_true, fillC, capOf]
    refine ⟨⟨x, y, z, l, v, rfl, live_step fv (by omega) j3, by omega, by omega⟩, hD3.keep hpl htM (by omega) (by omega) fun q h1 => ?_⟩
    rw [j3 q (by omega) (by omega), i3 q (by omega) (by omega)]
    exact hp5.2 q (by omega)

theorem d_cube {p t o a : Nat} {bs : List Nat} {M : Mem} {x y z : Int} {u : Nat} {w : Bool} {cs : List Cell} (h : CurAt M p t o bs a) (ha : a ≤ 900000) (hu : Live M u (.row (triL cs) w 3)) (hup : u ≠ p) (hcl : cs.length ≤ 65) :
    CallsR PG F.spec_l1Cur_cube [.ptr p 0, .agg [.I x, .I y, .I z, .ref u 0 cs.length]] M fun v N => (∃ c : Cell, v = .agg [.I c.a, .I c.b, .I c.c]) ∧ DrawN M p t o bs (a + 30) N := by
  obtain ⟨⟨_, _, _, hpl'⟩, hB, _⟩ := id h
  have hpl := hpl'.lt
  have htM := hB.lt
  have hul := hu.lt
  refine callsR_run K.spec_l1Cur_cube rfl ?_
  simp (disch := omega) only [C.spec_l1Cur_cube, ↓SXd, SXu, slBounds, ↓sop, ↓aop, ↓reduceIte, LV.cells, AOp.dst, LV.I, LV.B, LV.U, LV.S, LV.nil, Nat.reduceEqDiff, Nat.reduceAdd, Nat.reduceMul, Nat.reduceSub, Nat.reduceLeDiff, Nat.reduceBEq, Nat.reduceDiv, Nat.reduceMod, Int.reduceToNat, Int.reduceLT, Int.reduceLE, Int.reduceAdd, Int.reduceSub, Int.reduceMul, Int.reduceEq, Int.reduceNeg, reduceCtorEq, resV, resAll, ARes.ev, LV.flat, ite_true, ite_false, exists_eq_left', exists_eq_left, keyOf, implies_true, fillC, capOf]
  have b3 : Live (M ++ [some (.row [.I x, .I y, .I z, .ref u 0 cs.length] true 0), some (.row [.I 0, .I 0, .I 0] true 0)]) M.length (.row [.I x, .I y, .I z, .ref u 0 cs.length] true 0) := Live.new
  have b4 : Live (M ++ [some (.row [.I x, .I y, .I z, .ref u 0 cs.length] true 0), some (.row [.I 0, .I 0, .I 0] true 0)]) (M.length + 1) (.row [.I 0, .I 0, .I 0] true 0) := Live.newj rfl
  have cu := hu.app (L := [some (.row [.I x, .I y, .I z, .ref u 0 cs.length] true 0), some (.row [.I 0, .I 0, .I 0] true 0)])
  have hD : DrawN M p t o bs a (M ++ [some (.row [.I x, .I y, .I z, .ref u 0 cs.length] true 0), some (.row [.I 0, .I 0, .I 0] true 0)]) := ⟨h.pre (Pre.app _ _), by simp, fun q h1 _ => List.getElem?_append_left h1⟩
  have hN2l : (M ++ [some (Blk.row [.I x, .I y, .I z, .ref u 0 cs.length] true 0), some (.row [.I 0, .I 0, .I 0] true 0)]).length = M.length + 2 := by simp
  generalize M ++ [some (Blk.row [.I x, .I y, .I z, .ref u 0 cs.length] true 0), some (.row [.I 0, .I 0, .I 0] true 0)] = N2 at b3 b4 cu hD hN2l ⊢
  have last : ∀ {N3 : Mem} {a' : Nat}, DrawN M p t o bs a' N3 → a' ≤ a + 2 → Live N3 M.length (.row [.I x, .I y, .I z, .ref u 0 cs.length] true 0) → Live N3 (M.length + 1) (.row [.I 0, .I 0, .I 0] true 0) → ∀ (c : Cell) {N4 : Mem}, DrawN N3 p t o bs (a' + 20) N4 → True := fun _ _ _ _ _ _ _ => trivial
  clear last
  by_cases h0 : (0 : Int) < (cs.length : Nat)
  rotate_left
  · simp (disch := omega) only [h0, b3.cells, ↓SXd, SXu, slBounds, ↓sop, ↓aop, ↓reduceIte, LV.cells, AOp.dst, LV.I, LV.B, LV.U, LV.S, LV.nil, Nat.reduceEqDiff, Nat.reduceAdd, Nat.reduceMul, Nat.reduceSub, Nat.reduceLeDiff, Nat.reduceBEq, Nat.reduceDiv, Nat.reduceMod, Int.reduceToNat, Int.reduceLT, Int.reduceLE, Int.reduceAdd, Int.reduceSub, Int.reduceMul, Int.reduceEq, Int.reduceNeg, reduceCtorEq, resV, resAll, ARes.ev, LV.flat, ite_true, ite_false, exists_eq_left', exists_eq_left, keyOf, implies_true, fillC, capOf]
    refine callR_of (d_cell hD.1 (by omega)) ?_
    rintro _ N3 ⟨⟨c, rfl⟩, hd⟩
    have e4 := hd.live b4 (by omega)
    simp (disch := omega) only [↓SXd, SXu, slBounds, ↓sop, ↓aop, ↓reduceIte, LV.cells, AOp.dst, LV.I, LV.B, LV.U, LV.S, LV.nil, Nat.reduceEqDiff, Nat.reduceAdd, Nat.reduceMul, Nat.reduceSub, Nat.reduceLeDiff, Nat.reduceBEq, Nat.reduceDiv, Nat.reduceMod, Int.reduceToNat, Int.reduceLT, Int.reduceLE, Int.reduceAdd, Int.reduceSub, Int.reduceMul, Int.reduceEq, Int.reduceNeg, reduceCtorEq, resV, resAll, ARes.ev, LV.flat, ite_true, ite_false, exists_eq_left', exists_eq_left, keyOf, implies_true, fillC, capOf]
    refine memK_box e4 (by simp) fun N5 i1 i2 i3 => ?_
    have hl3 := hd.2.1
    simp (disch := omega) only [i2.cells, ↓SXd, SXu, slBounds, ↓sop, ↓aop, ↓reduceIte, LV.cells, AOp.dst, LV.I, LV.B, LV.U, LV.S, LV.nil, Nat.reduceEqDiff, Nat.reduceAdd, Nat.reduceMul, Nat.reduceSub, Nat.reduceLeDiff, Nat.reduceBEq, Nat.reduceDiv, Nat.reduceMod, Int.reduceToNat, Int.reduceLT, Int.reduceLE, Int.reduceAdd, Int.reduceSub, Int.reduceMul, Int.reduceEq, Int.reduceNeg, reduceCtorEq, resV, resAll, ARes.ev, LV.flat, ite_true, ite_false, exists_eq_left', exists_eq_left, keyOf, implies_true, fillC, capOf]
    exact ⟨⟨c, rfl⟩, ((hD.trans hd).keep hpl htM (by omega) (by omega) fun q h1 => i3 q (by omega) (by omega))⟩
  simp (disch := omega) only [h0, ↓SXd, SXu, slBounds, ↓sop, ↓aop, ↓reduceIte, LV.cells, AOp.dst, LV.I, LV.B, LV.U, LV.S, LV.nil, Nat.reduceEqDiff, Nat.reduceAdd, Nat.reduceMul, Nat.reduceSub, Nat.reduceLeDiff, Nat.reduceBEq, Nat.reduceDiv, Nat.reduceMod, Int.reduceToNat, Int.reduceLT, Int.reduceLE, Int.reduceAdd, Int.reduceSub, Int.reduceMul, Int.reduceEq, Int.reduceNeg, reduceCtorEq, resV, resAll, ARes.ev, LV.flat, ite_true, ite_false, exists_eq_left', exists_eq_left, keyOf, implies_true, fillC, capOf]
  refine callR_of (d_one hD.1 (by omega)) ?_
  rintro _ N3 ⟨⟨b, rfl⟩, hd2⟩
  have e3 := hd2.live b3 (by omega)
  have e4 := hd2.live b4 (by omega)
  have eu := hd2.live cu (by omega)
  have hD3 := hD.trans hd2
  have hl3 := hd2.2.1
  cases b
  rotate_left
  · simp (disch := omega) only [e3.cells, ↓SXd, SXu, slBounds, ↓sop, ↓aop, ↓reduceIte, LV.cells, AOp.dst, LV.I, LV.B, LV.U, LV.S, LV.nil, Nat.reduceEqDiff, Nat.reduceAdd, Nat.reduceMul, Nat.reduceSub, Nat.reduceLeDiff, Nat.reduceBEq, Nat.reduceDiv, Nat.reduceMod, Int.reduceToNat, Int.reduceLT, Int.reduceLE, Int.reduceAdd, Int.reduceSub, Int.reduceMul, Int.reduceEq, Int.reduceNeg, reduceCtorEq, resV, resAll, ARes.ev, LV.flat, ite_true, ite_false, exists_eq_left', exists_eq_left, keyOf, implies_true, fillC, capOf]
    refine callR_of (d_cell hD3.1 (by omega)) ?_
    rintro _ N4 ⟨⟨c, rfl⟩, hd⟩
    have g4 := hd.live e4 (by omega)
    have hl4 := hd.2.1
    simp (disch := omega) only [↓SXd, SXu, slBounds, ↓sop, ↓aop, ↓reduceIte, LV.cells, AOp.dst, LV.I, LV.B, LV.U, LV.S, LV.nil, Nat.reduceEqDiff, Nat.reduceAdd, Nat.reduceMul, Nat.reduceSub, Nat.reduceLeDiff, Nat.reduceBEq, Nat.reduceDiv, Nat.reduceMod, Int.reduceToNat, Int.reduceLT, Int.reduceLE, Int.reduceAdd, Int.reduceSub, Int.reduceMul, Int.reduceEq, Int.reduceNeg, reduceCtorEq, resV, resAll, ARes.ev, LV.flat, ite_true, ite_false, exists_eq_left', exists_eq_left, keyOf, implies_true, fillC, capOf]
    refine memK_box g4 (by simp) fun N5 i1 i2 i3 => ?_
    simp (disch := omega) only [i2.cells, ↓SXd, SXu, slBounds, ↓sop, ↓aop, ↓reduceIte, LV.cells, AOp.dst, LV.I, LV.B, LV.U, LV.S, LV.nil, Nat.reduceEqDiff, Nat.reduceAdd, Nat.reduceMul, Nat.reduceSub, Nat.reduceLeDiff, Nat.reduceBEq, Nat.reduceDiv, Nat.reduceMod, Int.reduceToNat, Int.reduceLT, Int.reduceLE, Int.reduceAdd, Int.reduceSub, Int.reduceMul, Int.reduceEq, Int.reduceNeg, reduceCtorEq, resV, resAll, ARes.ev, LV.flat, ite_true, ite_false, exists_eq_left', exists_eq_left, keyOf, implies_true, fillC, capOf]
    exact ⟨⟨c, rfl⟩, ((hD3.trans hd).keep hpl htM (by omega) (by omega) fun q h1 => i3 q (by omega) (by omega))⟩
  · simp (disch := omega) only [e3.cell, ↓SXd, SXu, slBounds, ↓sop, ↓aop, ↓reduceIte, LV.cells, AOp.dst, LV.I, LV.B, LV.U, LV.S, LV.nil, Nat.reduceEqDiff, Nat.reduceAdd, Nat.reduceMul, Nat.reduceSub, Nat.reduceLeDiff, Nat.reduceBEq, Nat.reduceDiv, Nat.reduceMod, Int.reduceToNat, Int.reduceLT, Int.reduceLE, Int.reduceAdd, Int.reduceSub, Int.reduceMul, Int.reduceEq, Int.reduceNeg, reduceCtorEq, resV, resAll, ARes.ev, LV.flat, ite_true, ite_false, exists_eq_left', exists_eq_left, keyOf, implies_true, fillC, capOf]
    refine callR_of (d_pick hD3.1 (by omega)) ?_
    rintro _ N4 ⟨⟨k, rfl, hk⟩, hd⟩
    have g3 := hd.live e3 (by omega)
    have g4 := hd.live e4 (by omega)
    have gu := hd.live eu (by omega)
    have hl4 := hd.2.1
    have hkl : k < cs.length := by omega
    have hc := gu.tri0 hkl
    have hst := hd.stay (q := M.length) (by omega) (by omega)
    simp (disch := omega) only [hc, Cell.row, ↓SXd, SXu, slBounds, ↓sop, ↓aop, ↓reduceIte, LV.cells, AOp.dst, LV.I, LV.B, LV.U, LV.S, LV.nil, Nat.reduceEqDiff, Nat.reduceAdd, Nat.reduceMul, Nat.reduceSub, Nat.reduceLeDiff, Nat.reduceBEq, Nat.reduceDiv, Nat.reduceMod, Int.reduceToNat, Int.reduceLT, Int.reduceLE, Int.reduceAdd, Int.reduceSub, Int.reduceMul, Int.reduceEq, Int.reduceNeg, reduceCtorEq, resV, resAll, ARes.ev, LV.flat, ite_true, ite_false, exists_eq_left', exists_eq_left, keyOf, implies_true, fillC, capOf]
    refine memK_box g4 (by simp) fun N5 i1 i2 i3 => ?_
    simp (disch := omega) only [i2.cells, ↓SXd, SXu, slBounds, ↓sop, ↓aop, ↓reduceIte, LV.cells, AOp.dst, LV.I, LV.B, LV.U, LV.S, LV.nil, Nat.reduceEqDiff, Nat.reduceAdd, Nat.reduceMul, Nat.reduceSub, Nat.reduceLeDiff, Nat.reduceBEq, Nat.reduceDiv, Nat.reduceMod, Int.reduceToNat, Int.reduceLT, Int.reduceLE, Int.reduceAdd, Int.reduceSub, Int.reduceMul, Int.reduceEq, Int.reduceNeg, reduceCtorEq, resV, resAll, ARes.ev, LV.flat, ite_true, ite_false, exists_eq_left', exists_eq_left, keyOf, implies_true, fillC, capOf]
    exact ⟨⟨cs.getD k default, rfl⟩, ((hD3.trans hd).keep hpl htM (by omega) (by omega) fun q h1 => i3 q (by omega) (by omega))⟩

section
variable {t o : Nat} {bs : List Nat} {M : Mem} (hB : Bytes M t o bs) (h255 : ∀ b ∈ bs, b ≤ 255) (hl : bs.length ≤ 1000000000)
include hB h255 hl
theorem d_DrawKeyCubes : CallsR PG F.spec_DrawKeyCubes [.ref t o bs.length] M fun v N => HeapE M v N ∧ Pre M N := by
  have htM := hB.lt
  refine callsR_run K.spec_DrawKeyCubes rfl ?_
  simp (disch := omega) only [C.spec_DrawKeyCubes, splice, ↓SXd, SXu, slBounds, ↓sop, ↓aop, ↓reduceIte, LV.cells, AOp.dst, LV.I, LV.B, LV.U, LV.S, LV.nil, Nat.reduceEqDiff, Nat.reduceAdd, Nat.reduceMul, Nat.reduceSub, Nat.reduceLeDiff, Nat.reduceBEq, Nat.reduceDiv, Nat.reduceMod, Int.reduceToNat, Int.reduceLT, Int.reduceLE, Int.reduceAdd, Int.reduceSub, Int.reduceMul, Int.reduceEq, Int.reduceNeg, reduceCtorEq, resV, resAll, ARes.ev, LV.flat, ite_true, ite_false, exists_eq_left', exists_eq_left, keyOf, implies_true, fillC, capOf]
  have hc := CurAt.new2 (b := some (.row [.I 0, .I 0, .I 0, .nil] true 0)) hB h255 hl
  refine callR_of (d_standing7 hc (by omega)) ?_
  rintro _ N1 ⟨⟨x, y, z, cs, u, rfl, hu, hul, hcl⟩, hd1⟩
  rw [List.length_append] at hul
  simp only [List.length_cons, List.length_nil] at hul
  have b2 : Live N1 M.length (.row [.I 0, .I 0, .I 0, .nil] true 0) := hd1.live Live.new (by omega)
  have hP1 : Pre M N1 := hd1.pre (Pre.app _ _) (by omega)
  simp (disch := omega) only [↓SXd, SXu, slBounds, ↓sop, ↓aop, ↓reduceIte, LV.cells, AOp.dst, LV.I, LV.B, LV.U, LV.S, LV.nil, Nat.reduceEqDiff, Nat.reduceAdd, Nat.reduceMul, Nat.reduceSub, Nat.reduceLeDiff, Nat.reduceBEq, Nat.reduceDiv, Nat.reduceMod, Int.reduceToNat, Int.reduceLT, Int.reduceLE, Int.reduceAdd, Int.reduceSub, Int.reduceMul, Int.reduceEq, Int.reduceNeg, reduceCtorEq, resV, resAll, ARes.ev, LV.flat, ite_true, ite_false, exists_eq_left', exists_eq_left, keyOf, implies_true, fillC, capOf]
  refine memK_box b2 (by simp) fun N5 i1 i2 i3 => ?_
  simp (disch := omega) only [i2.cells, ↓SXd, SXu, slBounds, ↓sop, ↓aop, ↓reduceIte, LV.cells, AOp.dst, LV.I, LV.B, LV.U, LV.S, LV.nil, Nat.reduceEqDiff, Nat.reduceAdd, Nat.reduceMul, Nat.reduceSub, Nat.reduceLeDiff, Nat.reduceBEq, Nat.reduceDiv, Nat.reduceMod, Int.reduceToNat, Int.reduceLT, Int.reduceLE, Int.reduceAdd, Int.reduceSub, Int.reduceMul, Int.reduceEq, Int.reduceNeg, reduceCtorEq, resV, resAll, ARes.ev, LV.flat, ite_true, ite_false, exists_eq_left', exists_eq_left, keyOf, implies_true, fillC, capOf]
  exact ⟨⟨x, y, z, cs, u, rfl, live_step hu (by omega) i3, by omega, hcl⟩, pre_step hP1 (by omega) (j := 0) i1 i3⟩

theorem d_DrawCanTake : CallsR PG F.spec_DrawCanTake [.ref t o bs.length] M fun v N => (∃ hv, ∃ c : Cell, v = .tup [hv, .agg [.I c.a, .I c.b, .I c.c]] ∧ HeapE M hv N) ∧ Pre M N := by
  have htM := hB.lt
  refine callsR_run K.spec_DrawCanTake rfl ?_
  simp (disch := omega) only [C.spec_DrawCanTake, splice, ↓SXd, SXu, slBounds, ↓sop, ↓aop, ↓reduceIte, LV.cells, AOp.dst, LV.I, LV.B, LV.U, LV.S, LV.nil, Nat.reduceEqDiff, Nat.reduceAdd, Nat.reduceMul, Nat.reduceSub, Nat.reduceLeDiff, Nat.reduceBEq, Nat.reduceDiv, Nat.reduceMod, Int.reduceToNat, Int.reduceLT, Int.reduceLE, Int.reduceAdd, Int.reduceSub, Int.reduceMul, Int.reduceEq, Int.reduceNeg, reduceCtorEq, resV, resAll, ARes.ev, LV.flat, ite_true, ite_false, exists_eq_left', exists_eq_left, keyOf, implies_true, fillC, capOf]
  have hc := CurAt.new3 (b := some (.row [.I 0, .I 0, .I 0, .nil] true 0)) (c := some (.row [.I 0, .I 0, .I 0] true 0)) hB h255 hl
  refine callR_of (d_standing7 hc (by omega)) ?_
  rintro _ N1 ⟨⟨x, y, z, cs, u, rfl, hu, hul, hcl⟩, hd1⟩
  rw [List.length_append] at hul
  simp only [List.length_cons, List.length_nil] at hul
  have b2 : Live N1 M.length (.row [.I 0, .I 0, .I 0, .nil] true 0) := hd1.live Live.new (by omega)
  have b3 : Live N1 (M.length + 1) (.row [.I 0, .I 0, .I 0] true 0) := hd1.live (Live.newj (j := 1) rfl) (by omega)
  have hP1 : Pre M N1 := hd1.pre (Pre.app _ _) (by omega)
  have hN1 := hd1.2.1
  rw [List.length_append] at hN1
  simp only [List.length_cons, List.length_nil] at hN1
  have hul2 := hu.lt
  simp (disch := omega) only [splice, ↓SXd, SXu, slBounds, ↓sop, ↓aop, ↓reduceIte, LV.cells, AOp.dst, LV.I, LV.B, LV.U, LV.S, LV.nil, Nat.reduceEqDiff, Nat.reduceAdd, Nat.reduceMul, Nat.reduceSub, Nat.reduceLeDiff, Nat.reduceBEq, Nat.reduceDiv, Nat.reduceMod, Int.reduceToNat, Int.reduceLT, Int.reduceLE, Int.reduceAdd, Int.reduceSub, Int.reduceMul, Int.reduceEq, Int.reduceNeg, reduceCtorEq, resV, resAll, ARes.ev, LV.flat, ite_true, ite_false, exists_eq_left', exists_eq_left, keyOf, implies_true, fillC, capOf]
  have b5 : Live (N1 ++ [some (.row [.I x, .I y, .I z, .ref u 0 cs.length] true 0)]) N1.length (.row [.I x, .I y, .I z, .ref u 0 cs.length] true 0) := Live.new
  have c2 := b2.app (L := [some (.row [.I x, .I y, .I z, .ref u 0 cs.length] true 0)])
  have c3 := b3.app (L := [some (.row [.I x, .I y, .I z, .ref u 0 cs.length] true 0)])
  have cu := hu.app (L := [some (.row [.I x, .I y, .I z, .ref u 0 cs.length] true 0)])
  have hcur : CurAt (N1 ++ [some (.row [.I x, .I y, .I z, .ref u 0 cs.length] true 0)]) (M.length + 2) t o bs (0 + 170) := hd1.1.pre (Pre.app _ _)
  have hP : Pre M (N1 ++ [some (.row [.I x, .I y, .I z, .ref u 0 cs.length] true 0)]) := hP1.trans (Pre.app _ _)
  generalize hm5 : N1.length = m5 at b5 ⊢
  generalize N1 ++ [some (Blk.row [.I x, .I y, .I z, .ref u 0 cs.length] true 0)] = N2 at b5 c2 c3 cu hcur hP ⊢
  refine callR_of (d_cube hcur (by omega) cu (by omega) hcl) ?_
  rintro _ N3 ⟨⟨c, rfl⟩, hd2⟩
  have e2 := hd2.live c2 (by omega)
  have e3 := hd2.live c3 (by omega)
  have eu := hd2.live cu (by omega)
  have hP3 : Pre M N3 := hd2.pre hP (by omega)
  have hl3 := hP3.1
  have he3 := e3.lt
  have hst := hd2.stay (q := m5) b5.lt (by omega)
  have e5 := hd2.live b5 (by omega)
  simp (disch := omega) only [e5.cells, ↓SXd, SXu, slBounds, ↓sop, ↓aop, ↓reduceIte, LV.cells, AOp.dst, LV.I, LV.B, LV.U, LV.S, LV.nil, Nat.reduceEqDiff, Nat.reduceAdd, Nat.reduceMul, Nat.reduceSub, Nat.reduceLeDiff, Nat.reduceBEq, Nat.reduceDiv, Nat.reduceMod, Int.reduceToNat, Int.reduceLT, Int.reduceLE, Int.reduceAdd, Int.reduceSub, Int.reduceMul, Int.reduceEq, Int.reduceNeg, reduceCtorEq, resV, resAll, ARes.ev, LV.flat, ite_true, ite_false, exists_eq_left', exists_eq_left, keyOf, implies_true, fillC, capOf]
  refine memK_box e2 (by simp) fun N5 i1 i2 i3 => ?_
  have f3 := live_step e3 (by omega) i3
  have fu := live_step eu (by omega) i3
  have hP5 := pre_step hP3 (by omega) (j := 0) i1 i3
  simp (disch := omega) only [↓SXd, SXu, slBounds, ↓sop, ↓aop, ↓reduceIte, LV.cells, AOp.dst, LV.I, LV.B, LV.U, LV.S, LV.nil, Nat.reduceEqDiff, Nat.reduceAdd, Nat.reduceMul, Nat.reduceSub, Nat.reduceLeDiff, Nat.reduceBEq, Nat.reduceDiv, Nat.reduceMod, Int.reduceToNat, Int.reduceLT, Int.reduceLE, Int.reduceAdd, Int.reduceSub, Int.reduceMul, Int.reduceEq, Int.reduceNeg, reduceCtorEq, resV, resAll, ARes.ev, LV.flat, ite_true, ite_false, exists_eq_left', exists_eq_left, keyOf, implies_true, fillC, capOf]
  refine memK_box f3 (by simp) fun N6 j1 j2 j3 => ?_
  have g2 := live_step i2 (by omega) j3
  simp (disch := omega) only [g2.cells, j2.cells, ↓SXd, SXu, slBounds, ↓sop, ↓aop, ↓reduceIte, LV.cells, AOp.dst, LV.I, LV.B, LV.U, LV.S, LV.nil, Nat.reduceEqDiff, Nat.reduceAdd, Nat.reduceMul, Nat.reduceSub, Nat.reduceLeDiff, Nat.reduceBEq, Nat.reduceDiv, Nat.reduceMod, Int.reduceToNat, Int.reduceLT, Int.reduceLE, Int.reduceAdd, Int.reduceSub, Int.reduceMul, Int.reduceEq, Int.reduceNeg, reduceCtorEq, resV, resAll, ARes.ev, LV.flat, ite_true, ite_false, exists_eq_left', exists_eq_left, keyOf, implies_true, fillC, capOf]
  exact ⟨⟨_, c, rfl, x, y, z, cs, u, rfl, live_step fu (by omega) j3, by omega, hcl⟩, pre_step hP5 (by omega) (j := 0) j1 j3⟩

theorem d_DrawCountTakings : CallsR PG F.spec_DrawCountTakings [.ref t o bs.length] M fun v N => HeapE M v N ∧ Pre M N := by
  have htM := hB.lt
  refine callsR_run K.spec_DrawCountTakings rfl ?_
  simp (disch := omega) only [C.spec_DrawCountTakings, splice, ↓SXd, SXu, slBounds, ↓sop, ↓aop, ↓reduceIte, LV.cells, AOp.dst, LV.I, LV.B, LV.U, LV.S, LV.nil, Nat.reduceEqDiff, Nat.reduceAdd, Nat.reduceMul, Nat.reduceSub, Nat.reduceLeDiff, Nat.reduceBEq, Nat.reduceDiv, Nat.reduceMod, Int.reduceToNat, Int.reduceLT, Int.reduceLE, Int.reduceAdd, Int.reduceSub, Int.reduceMul, Int.reduceEq, Int.reduceNeg, reduceCtorEq, resV, resAll, ARes.ev, LV.flat, ite_true, ite_false, exists_eq_left', exists_eq_left, keyOf, implies_true, fillC, capOf]
  have hc := CurAt.new2 (b := some (.row [.I 0, .I 0, .I 0, .nil] true 0)) hB h255 hl
  refine callR_of (d_standing7 hc (by omega)) ?_
  rintro _ N1 ⟨⟨x, y, z, cs, u, rfl, hu, hul, hcl⟩, hd1⟩
  rw [List.length_append] at hul
  simp only [List.length_cons, List.length_nil] at hul
  have b2 : Live N1 M.length (.row [.I 0, .I 0, .I 0, .nil] true 0) := hd1.live Live.new (by omega)
  have hP1 : Pre M N1 := hd1.pre (Pre.app _ _) (by omega)
  have hN1 := hd1.2.1
  rw [List.length_append] at hN1
  simp only [List.length_cons, List.length_nil] at hN1
  have hul2 := hu.lt
  simp (disch := omega) only [splice, ↓SXd, SXu, slBounds, ↓sop, ↓aop, ↓reduceIte, LV.cells, AOp.dst, LV.I, LV.B, LV.U, LV.S, LV.nil, Nat.reduceEqDiff, Nat.reduceAdd, Nat.reduceMul, Nat.reduceSub, Nat.reduceLeDiff, Nat.reduceBEq, Nat.reduceDiv, Nat.reduceMod, Int.reduceToNat, Int.reduceLT, Int.reduceLE, Int.reduceAdd, Int.reduceSub, Int.reduceMul, Int.reduceEq, Int.reduceNeg, reduceCtorEq, resV, resAll, ARes.ev, LV.flat, ite_true, ite_false, exists_eq_left', exists_eq_left, keyOf, implies_true, fillC, capOf]
  have b4 : Live (N1 ++ [some (.row [.I x, .I y, .I z, .ref u 0 cs.length] true 0)]) N1.length (.row [.I x, .I y, .I z, .ref u 0 cs.length] true 0) := Live.new
  have c2 := b2.app (L := [some (.row [.I x, .I y, .I z, .ref u 0 cs.length] true 0)])
  have cu := hu.app (L := [some (.row [.I x, .I y, .I z, .ref u 0 cs.length] true 0)])
  have hcur : CurAt (N1 ++ [some (.row [.I x, .I y, .I z, .ref u 0 cs.length] true 0)]) (M.length + 1) t o bs 170 := hd1.1.pre (Pre.app _ _)
  have hP : Pre M (N1 ++ [some (.row [.I x, .I y, .I z, .ref u 0 cs.length] true 0)]) := hP1.trans (Pre.app _ _)
  have hm4g : M.length + 2 ≤ N1.length := by omega
  have hu4 : u ≠ N1.length := by omega
  generalize hm4 : N1.length = m4 at b4 hm4g hu4 ⊢
  generalize N1 ++ [some (Blk.row [.I x, .I y, .I z, .ref u 0 cs.length] true 0)] = N2 at b4 c2 cu hcur hP ⊢
  refine ev_loop (fun m fr N => ∃ (cs : List Cell) (u a : Nat), cs.length = m ∧ cs.length ≤ 65 ∧ a + 2 * m ≤ 1000 ∧ CurAt N (M.length + 1) t o bs a ∧ Pre M N ∧ Live N M.length (.row [.I 0, .I 0, .I 0, .nil] true 0) ∧ Live N m4 (.row [.I x, .I y, .I z, .ref u 0 cs.length] true 0) ∧ Live N u (.row (triL cs) true 3) ∧ M.length + 2 ≤ u ∧ u ≠ m4 ∧
    fr 2 = .ptr M.length 0 ∧ fr 3 = .ptr (M.length + 1) 0 ∧ fr 4 = .ptr m4 0) cs.length
    ⟨cs, u, 170, rfl, hcl, by omega, hcur, hP, c2, b4, cu, by omega, hu4, rfl, rfl, rfl⟩ ?_
  clear b4 c2 cu hcur hP hu hul hcl b2 hP1 hd1 hm4 hul2 hN1
  rintro m fr N ⟨cs, u, a, hm, hcl, ha, hcur, hP, c2, b4, cu, hul, hu4, f2, f3, f4⟩
  simp (disch := omega) only [f2, f3, f4, b4.cells, ↓SXd, SXu, slBounds, ↓sop, ↓aop, ↓reduceIte, LV.cells, AOp.dst, LV.I, LV.B, LV.U, LV.S, LV.nil, Nat.reduceEqDiff, Nat.reduceAdd, Nat.reduceMul, Nat.reduceSub, Nat.reduceLeDiff, Nat.reduceBEq, Nat.reduceDiv, Nat.reduceMod, Int.reduceToNat, Int.reduceLT, Int.reduceLE, Int.reduceAdd, Int.reduceSub, Int.reduceMul, Int.reduceEq, Int.reduceNeg, reduceCtorEq, resV, resAll, ARes.ev, LV.flat, ite_true, ite_false, exists_eq_left', exists_eq_left, keyOf, implies_true, fillC, capOf]
  refine callK_of (h_l7Stands cu (by omega)) ?_
  simp (disch := omega) only [f2, f3, f4, ↓SXd, SXu, slBounds, ↓sop, ↓aop, ↓reduceIte, LV.cells, AOp.dst, LV.I, LV.B, LV.U, LV.S, LV.nil, Nat.reduceEqDiff, Nat.reduceAdd, Nat.reduceMul, Nat.reduceSub, Nat.reduceLeDiff, Nat.reduceBEq, Nat.reduceDiv, Nat.reduceMod, Int.reduceToNat, Int.reduceLT, Int.reduceLE, Int.reduceAdd, Int.reduceSub, Int.reduceMul, Int.reduceEq, Int.reduceNeg, reduceCtorEq, resV, resAll, ARes.ev, LV.flat, ite_true, ite_false, exists_eq_left', exists_eq_left, keyOf, implies_true, fillC, capOf]
  have h4l := b4.lt
  have hul2 := cu.lt
  have fin : ∀ {N5 : Mem}, Pre M N5 → Live N5 M.length (.row [.I 0, .I 0, .I 0, .nil] true 0) → Live N5 m4 (.row [.I x, .I y, .I z, .ref u 0 cs.length] true 0) → Live N5 u (.row (triL cs) true 3) → ∀ N6, N6.length = N5.length → Live N6 M.length (.row [.I x, .I y, .I z, .ref u 0 cs.length] true 0) → (∀ q, q ≠ M.length → q < N5.length → N6[q]? = N5[q]?) → (∃ hv, hv = LV.agg [.I x, .I y, .I z, .ref u 0 cs.length] ∧ HeapE M hv N6) ∧ Pre M N6 := by
    intro N5 k1 k2 k3 k4 N6 i1 i2 i3
    exact ⟨⟨_, rfl, x, y, z, cs, u, rfl, live_step k4 (by omega) i3, by omega, hcl⟩, pre_step k1 (by omega) (j := 0) i1 i3⟩
  by_cases hV : HeapOK x y z cs ∧ Firm x y z (fun c => decide (c ∈ cs))
  rotate_left
  · simp (disch := omega) only [f2, f3, f4, hV, b4.cells, ↓SXd, SXu, slBounds, ↓sop, ↓aop, ↓reduceIte, LV.cells, AOp.dst, LV.I, LV.B, LV.U, LV.S, LV.nil, Nat.reduceEqDiff, Nat.reduceAdd, Nat.reduceMul, Nat.reduceSub, Nat.reduceLeDiff, Nat.reduceBEq, Nat.reduceDiv, Nat.reduceMod, Int.reduceToNat, Int.reduceLT, Int.reduceLE, Int.reduceAdd, Int.reduceSub, Int.reduceMul, Int.reduceEq, Int.reduceNeg, reduceCtorEq, resV, resAll, ARes.ev, LV.flat, ite_true, ite_false, exists_eq_left', exists_eq_left, keyOf, implies_true, fillC, capOf]
    refine memK_box c2 (by simp) fun N6 i1 i2 i3 => ?_
    simp (disch := omega) only [f2, f3, f4, i2.cells, ↓SXd, SXu, slBounds, ↓sop, ↓aop, ↓reduceIte, LV.cells, AOp.dst, LV.I, LV.B, LV.U, LV.S, LV.nil, Nat.reduceEqDiff, Nat.reduceAdd, Nat.reduceMul, Nat.reduceSub, Nat.reduceLeDiff, Nat.reduceBEq, Nat.reduceDiv, Nat.reduceMod, Int.reduceToNat, Int.reduceLT, Int.reduceLE, Int.reduceAdd, Int.reduceSub, Int.reduceMul, Int.reduceEq, Int.reduceNeg, reduceCtorEq, resV, resAll, ARes.ev, LV.flat, ite_true, ite_false, exists_eq_left', exists_eq_left, keyOf, implies_true, fillC, capOf]
    obtain ⟨⟨_, rfl, k1⟩, k2⟩ := fin hP c2 b4 cu N6 i1 i2 i3
    exact ⟨k1, k2⟩
  by_cases h6 : (6 : Int) < (cs.length : Nat)
  rotate_left
  · simp (disch := omega) only [f2, f3, f4, hV, h6, b4.cell, b4.cells, ↓SXd, SXu, slBounds, ↓sop, ↓aop, ↓reduceIte, LV.cells, AOp.dst, LV.I, LV.B, LV.U, LV.S, LV.nil, Nat.reduceEqDiff, Nat.reduceAdd, Nat.reduceMul, Nat.reduceSub, Nat.reduceLeDiff, Nat.reduceBEq, Nat.reduceDiv, Nat.reduceMod, Int.reduceToNat, Int.reduceLT, Int.reduceLE, Int.reduceAdd, Int.reduceSub, Int.reduceMul, Int.reduceEq, Int.reduceNeg, reduceCtorEq, resV, resAll, ARes.ev, LV.flat, ite_true, ite_false, exists_eq_left', exists_eq_left, keyOf, implies_true, fillC, capOf]
    refine memK_box c2 (by simp) fun N6 i1 i2 i3 => ?_
    simp (disch := omega) only [f2, f3, f4, i2.cells, ↓SXd, SXu, slBounds, ↓sop, ↓aop, ↓reduceIte, LV.cells, AOp.dst, LV.I, LV.B, LV.U, LV.S, LV.nil, Nat.reduceEqDiff, Nat.reduceAdd, Nat.reduceMul, Nat.reduceSub, Nat.reduceLeDiff, Nat.reduceBEq, Nat.reduceDiv, Nat.reduceMod, Int.reduceToNat, Int.reduceLT, Int.reduceLE, Int.reduceAdd, Int.reduceSub, Int.reduceMul, Int.reduceEq, Int.reduceNeg, reduceCtorEq, resV, resAll, ARes.ev, LV.flat, ite_true, ite_false, exists_eq_left', exists_eq_left, keyOf, implies_true, fillC, capOf]
    obtain ⟨⟨_, rfl, k1⟩, k2⟩ := fin hP c2 b4 cu N6 i1 i2 i3
    exact ⟨k1, k2⟩
  simp (disch := omega) only [f2, f3, f4, hV, h6, b4.cell, ↓SXd, SXu, slBounds, ↓sop, ↓aop, ↓reduceIte, LV.cells, AOp.dst, LV.I, LV.B, LV.U, LV.S, LV.nil, Nat.reduceEqDiff, Nat.reduceAdd, Nat.reduceMul, Nat.reduceSub, Nat.reduceLeDiff, Nat.reduceBEq, Nat.reduceDiv, Nat.reduceMod, Int.reduceToNat, Int.reduceLT, Int.reduceLE, Int.reduceAdd, Int.reduceSub, Int.reduceMul, Int.reduceEq, Int.reduceNeg, reduceCtorEq, resV, resAll, ARes.ev, LV.flat, ite_true, ite_false, exists_eq_left', exists_eq_left, keyOf, implies_true, fillC, capOf]
  refine callR_of (d_one hcur (by omega)) ?_
  rintro _ N3 ⟨⟨b, rfl⟩, hd2⟩
  have e2 := hd2.live c2 (by omega)
  have e4 := hd2.live b4 (by omega)
  have eu := hd2.live cu (by omega)
  have hP3 : Pre M N3 := hd2.pre hP (by omega)
  cases b
  rotate_left
  · simp (disch := omega) only [f2, f3, f4, e4.cells, ↓SXd, SXu, slBounds, ↓sop, ↓aop, ↓reduceIte, LV.cells, AOp.dst, LV.I, LV.B, LV.U, LV.S, LV.nil, Nat.reduceEqDiff, Nat.reduceAdd, Nat.reduceMul, Nat.reduceSub, Nat.reduceLeDiff, Nat.reduceBEq, Nat.reduceDiv, Nat.reduceMod, Int.reduceToNat, Int.reduceLT, Int.reduceLE, Int.reduceAdd, Int.reduceSub, Int.reduceMul, Int.reduceEq, Int.reduceNeg, reduceCtorEq, resV, resAll, ARes.ev, LV.flat, ite_true, ite_false, exists_eq_left', exists_eq_left, keyOf, implies_true, fillC, capOf]
    refine memK_box e2 (by simp) fun N6 i1 i2 i3 => ?_
    simp (disch := omega) only [f2, f3, f4, i2.cells, ↓SXd, SXu, slBounds, ↓sop, ↓aop, ↓reduceIte, LV.cells, AOp.dst, LV.I, LV.B, LV.U, LV.S, LV.nil, Nat.reduceEqDiff, Nat.reduceAdd, Nat.reduceMul, Nat.reduceSub, Nat.reduceLeDiff, Nat.reduceBEq, Nat.reduceDiv, Nat.reduceMod, Int.reduceToNat, Int.reduceLT, Int.reduceLE, Int.reduceAdd, Int.reduceSub, Int.reduceMul, Int.reduceEq, Int.reduceNeg, reduceCtorEq, resV, resAll, ARes.ev, LV.flat, ite_true, ite_false, exists_eq_left', exists_eq_left, keyOf, implies_true, fillC, capOf]
    obtain ⟨⟨_, rfl, k1⟩, k2⟩ := fin hP3 e2 e4 eu N6 i1 i2 i3
    exact ⟨k1, k2⟩
  have hH := hV.1
  have hS := hH.1
  obtain ⟨c0, hc0, hct⟩ := take_more hS hV.2 ⟨cs.getD 0 default, hH.mem (getD_mem' (by omega)), by simp; exact getD_mem' (by omega)⟩
  obtain ⟨k0, hk0, hk0c⟩ := List.getElem_of_mem (of_decide_eq_true (canTake_sub hct) : c0 ∈ cs)
  simp (disch := omega) only [f2, f3, f4, ↓SXd, SXu, slBounds, ↓sop, ↓aop, ↓reduceIte, LV.cells, AOp.dst, LV.I, LV.B, LV.U, LV.S, LV.nil, Nat.reduceEqDiff, Nat.reduceAdd, Nat.reduceMul, Nat.reduceSub, Nat.reduceLeDiff, Nat.reduceBEq, Nat.reduceDiv, Nat.reduceMod, Int.reduceToNat, Int.reduceLT, Int.reduceLE, Int.reduceAdd, Int.reduceSub, Int.reduceMul, Int.reduceEq, Int.reduceNeg, reduceCtorEq, resV, resAll, ARes.ev, LV.flat, ite_true, ite_false, exists_eq_left', exists_eq_left, keyOf, implies_true, fillC, capOf]
  refine ev_loop (fun m2 fr W => ∃ i : Nat, i + m2 = k0 ∧ W = N3 ∧ fr 2 = .ptr M.length 0 ∧ fr 3 = .ptr (M.length + 1) 0 ∧ fr 4 = .ptr m4 0 ∧ fr 5 = .I i) k0
    ⟨0, by omega, rfl, f2, f3, f4, rfl⟩ ?_
  clear f2 f3 f4
  rintro m2 fr W ⟨i, hi, rfl, f2, f3, f4, f5⟩
  have hil : i < cs.length := by omega
  have hci := eu.tri0 hil
  have hcc : i = k0 → cs.getD i default = c0 := fun e => by subst e; simp [List.getD_eq_getElem?_getD, hk0, hk0c]
  generalize hc : cs.getD i default = c at hci hcc
  have hcm : c ∈ cs := by rw [← hc]; exact getD_mem' hil
  simp (disch := omega) only [f2, f3, f4, f5, e4.cells, e4.cell, hci, Cell.row, ↓SXd, SXu, slBounds, ↓sop, ↓aop, ↓reduceIte, LV.cells, AOp.dst, LV.I, LV.B, LV.U, LV.S, LV.nil, Nat.reduceEqDiff, Nat.reduceAdd, Nat.reduceMul, Nat.reduceSub, Nat.reduceLeDiff, Nat.reduceBEq, Nat.reduceDiv, Nat.reduceMod, Int.reduceToNat, Int.reduceLT, Int.reduceLE, Int.reduceAdd, Int.reduceSub, Int.reduceMul, Int.reduceEq, Int.reduceNeg, reduceCtorEq, resV, resAll, ARes.ev, LV.flat, ite_true, ite_false, exists_eq_left', exists_eq_left, keyOf, implies_true, fillC, capOf]
  refine callK_of (h_l7Can eu hH) ?_
  simp (disch := omega) only [f2, f3, f4, f5, ↓SXd, SXu, slBounds, ↓sop, ↓aop, ↓reduceIte, LV.cells, AOp.dst, LV.I, LV.B, LV.U, LV.S, LV.nil, Nat.reduceEqDiff, Nat.reduceAdd, Nat.reduceMul, Nat.reduceSub, Nat.reduceLeDiff, Nat.reduceBEq, Nat.reduceDiv, Nat.reduceMod, Int.reduceToNat, Int.reduceLT, Int.reduceLE, Int.reduceAdd, Int.reduceSub, Int.reduceMul, Int.reduceEq, Int.reduceNeg, reduceCtorEq, resV, resAll, ARes.ev, LV.flat, ite_true, ite_false, exists_eq_left', exists_eq_left, keyOf, implies_true, fillC, capOf]
  by_cases hk : canTake x y z (fun d => decide (d ∈ cs)) c = true
  · simp (disch := omega) only [f2, f3, f4, f5, hk, e4.cells, e4.cell, hci, Cell.row, ↓SXd, SXu, slBounds, ↓sop, ↓aop, ↓reduceIte, LV.cells, AOp.dst, LV.I, LV.B, LV.U, LV.S, LV.nil, Nat.reduceEqDiff, Nat.reduceAdd, Nat.reduceMul, Nat.reduceSub, Nat.reduceLeDiff, Nat.reduceBEq, Nat.reduceDiv, Nat.reduceMod, Int.reduceToNat, Int.reduceLT, Int.reduceLE, Int.reduceAdd, Int.reduceSub, Int.reduceMul, Int.reduceEq, Int.reduceNeg, reduceCtorEq, resV, resAll, ARes.ev, LV.flat, ite_true, ite_false, exists_eq_left', exists_eq_left, keyOf, implies_true, fillC, capOf]
    refine callH_of (h_l2Without eu.has (by omega)) ?_
    intro u2 N4 hu2 hp2 hb2
    rw [cell_eta] at hb2 ⊢
    have hwl := without_len hH hcm
    simp (disch := omega) only [f2, f3, f4, f5, ↓SXd, SXu, slBounds, ↓sop, ↓aop, ↓reduceIte, LV.cells, AOp.dst, LV.I, LV.B, LV.U, LV.S, LV.nil, Nat.reduceEqDiff, Nat.reduceAdd, Nat.reduceMul, Nat.reduceSub, Nat.reduceLeDiff, Nat.reduceBEq, Nat.reduceDiv, Nat.reduceMod, Int.reduceToNat, Int.reduceLT, Int.reduceLE, Int.reduceAdd, Int.reduceSub, Int.reduceMul, Int.reduceEq, Int.reduceNeg, reduceCtorEq, resV, resAll, ARes.ev, LV.flat, ite_true, ite_false, exists_eq_left', exists_eq_left, keyOf, implies_true, fillC, capOf]
    refine memK_box (e4.pre hp2) (by simp) fun N5 j1 j2 j3 => ?_
    have hl4 := hp2.1
    have he4 := e4.lt
    simp (disch := omega) only [f2, f3, f4, f5, ↓SXd, SXu, slBounds, ↓sop, ↓aop, ↓reduceIte, LV.cells, AOp.dst, LV.I, LV.B, LV.U, LV.S, LV.nil, Nat.reduceEqDiff, Nat.reduceAdd, Nat.reduceMul, Nat.reduceSub, Nat.reduceLeDiff, Nat.reduceBEq, Nat.reduceDiv, Nat.reduceMod, Int.reduceToNat, Int.reduceLT, Int.reduceLE, Int.reduceAdd, Int.reduceSub, Int.reduceMul, Int.reduceEq, Int.reduceNeg, reduceCtorEq, resV, resAll, ARes.ev, LV.flat, ite_true, ite_false, exists_eq_left', exists_eq_left, keyOf, implies_true, fillC, capOf]
    refine ⟨cs.length - 1, by omega, cs.filter fun d => !decide (d = c), u2, a + 2, by omega, by omega, by omega, (hd2.1.pre hp2).stepped (by omega) (by omega) j3, pre_step (hP3.trans hp2) (by omega) (j := 0) j1 j3, live_step (e2.pre hp2) (by omega) j3, j2, live_step hb2 (by omega) j3, by omega, by omega, f2, f3, f4⟩
  · have hne : i ≠ k0 := fun e => hk (by rw [hcc e]; exact hct)
    simp (disch := omega) only [f2, f3, f4, f5, hk, ↓SXd, SXu, slBounds, ↓sop, ↓aop, ↓reduceIte, LV.cells, AOp.dst, LV.I, LV.B, LV.U, LV.S, LV.nil, Nat.reduceEqDiff, Nat.reduceAdd, Nat.reduceMul, Nat.reduceSub, Nat.reduceLeDiff, Nat.reduceBEq, Nat.reduceDiv, Nat.reduceMod, Int.reduceToNat, Int.reduceLT, Int.reduceLE, Int.reduceAdd, Int.reduceSub, Int.reduceMul, Int.reduceEq, Int.reduceNeg, reduceCtorEq, resV, resAll, ARes.ev, LV.flat, ite_true, ite_false, exists_eq_left', exists_eq_left, keyOf, implies_true, fillC, capOf]
    exact ⟨m2 - 1, by omega, i + 1, by omega, rfl, f2, f3, f4, eqI (natI _)⟩
end
end Go.Ab

/- The abstract code of some functions (written by a program of mine from the translation, by way of prepF). -/
namespace Go.Ab.C
open Go.Ab
end Go.Ab.C

/- That the program has this code. -/
namespace Go.Ab.K
open Go Go.Ab
end Go.Ab.K

/- The abstract code of some functions (written by a program of mine from the translation, by way of prepF). -/
namespace Go.Ab.C
open Go.Ab
end Go.Ab.C

/- That the program has this code. -/
namespace Go.Ab.K
open Go Go.Ab
end Go.Ab.K

/- The abstract code of some functions (written by a program of mine from the translation, by way of prepF). -/
namespace Go.Ab.C
open Go.Ab
end Go.Ab.C

/- That the program has this code. -/
namespace Go.Ab.K
open Go Go.Ab
end Go.Ab.K

/- The abstract code of some functions (written by a program of mine from the translation, by way of prepF). -/
namespace Go.Ab.C
open Go.Ab
end Go.Ab.C

/- That the program has this code. -/
namespace Go.Ab.K
open Go Go.Ab
end Go.Ab.K

/- The abstract code of some functions (written by a program of mine from the translation, by way of prepF). -/
namespace Go.Ab.C
open Go.Ab
end Go.Ab.C

/- That the program has this code. -/
namespace Go.Ab.K
open Go Go.Ab
end Go.Ab.K

/- Contracts: whether a heap has a shadow, the program's side; IsShadowOf, both sides. -/
namespace Go.Ab
open Go
set_option linter.unusedSimpArgs false
set_option linter.unusedVariables false
set_option maxRecDepth 20000

section
variable {x y z : Int} {t o t' o' t2 o2 : Nat} {tp fr sd : List Int} {M : Mem} (h1 : Ints M t o tp) (h2 : Ints M t' o' fr) (h3 : Ints M t2 o2 sd) (l1 : tp.length ≤ 1000000000) (l2 : fr.length ≤ 1000000000) (l3 : sd.length ≤ 1000000000)
include h1 h2 h3 l1 l2 l3
/-- What IsShadowOf returns. -/
noncomputable def isShdOf (x y z : Int) (tp fr sd : List Int) (x' y' z' : Int) (cs : List Cell) : LV := .tup [.B (decide ((ShdOK x y z tp fr sd ∧ HeapOK x' y' z' cs) ∧ (x = x' ∧ y = y' ∧ z = z') ∧ HasShd x y z tp fr sd cs)), .B (decide (ShdOK x y z tp fr sd ∧ HeapOK x' y' z' cs))]
variable {x' y' z' : Int} {q r : Nat} {cs : List Cell} (h : Tri M q r cs) (hn : cs.length ≤ 1000000000)
include h hn
end
end Go.Ab

/- The abstract code of some functions (written by a program of mine from the translation, by way of prepF). -/
namespace Go.Ab.C
open Go.Ab
end Go.Ab.C

/- That the program has this code. -/
namespace Go.Ab.K
open Go Go.Ab
end Go.Ab.K

/- Plain words: how many cells a set has, as the library counts. -/
namespace Go.Ab

def swar1 (x : BitVec 64) : BitVec 64 := (x >>> 1 &&& 6148914691236517205#64) + (x &&& 6148914691236517205#64)
def swar2 (x : BitVec 64) : BitVec 64 := (x >>> 2 &&& 3689348814741910323#64) + (x &&& 3689348814741910323#64)
def swar3 (x : BitVec 64) : BitVec 64 := (x >>> 4 + x) &&& 1085102592571150095#64
def swar4 (x : BitVec 64) : BitVec 64 := x + x >>> 8
def swar5 (x : BitVec 64) : BitVec 64 := x + x >>> 16
def swar6 (x : BitVec 64) : BitVec 64 := x + x >>> 32
def swar (x : BitVec 64) : BitVec 64 := swar6 (swar5 (swar4 (swar3 (swar2 (swar1 x))))) &&& 127#64

def onRim (x y z : Int) (c : Cell) : Bool := decide (c.a = 0 ∨ c.b = 0 ∨ c.c = 0 ∨ c.a = x - 1 ∨ c.b = y - 1 ∨ c.c = z - 1)
end Go.Ab

/- Contracts: counts of sets. -/
namespace Go.Ab
open Go
set_option linter.unusedSimpArgs false
set_option linter.unusedVariables false

theorem onRim_iff {x y z : Int} {c : Cell} (hc : c.inBox x y z) : onRim x y z c = true ↔ ∃ d : Cell, apart c d = 1 ∧ ¬ d.inBox x y z := by
  obtain ⟨⟨h1, h2⟩, ⟨h3, h4⟩, ⟨h5, h6⟩⟩ := hc
  unfold onRim
  rw [decide_eq_true_iff]
  constructor
  · rintro (h | h | h | h | h | h)
    · exact ⟨⟨c.a - 1, c.b, c.c⟩, by unfold apart; simp only; omega, fun k => by have := k.1.1; simp only at this; omega⟩
    · exact ⟨⟨c.a, c.b - 1, c.c⟩, by unfold apart; simp only; omega, fun k => by have := k.2.1.1; simp only at this; omega⟩
    · exact ⟨⟨c.a, c.b, c.c - 1⟩, by unfold apart; simp only; omega, fun k => by have := k.2.2.1; simp only at this; omega⟩
    · exact ⟨⟨c.a + 1, c.b, c.c⟩, by unfold apart; simp only; omega, fun k => by have := k.1.2; simp only at this; omega⟩
    · exact ⟨⟨c.a, c.b + 1, c.c⟩, by unfold apart; simp only; omega, fun k => by have := k.2.1.2; simp only at this; omega⟩
    · exact ⟨⟨c.a, c.b, c.c + 1⟩, by unfold apart; simp only; omega, fun k => by have := k.2.2.2; simp only at this; omega⟩
  · rintro ⟨d, hd, hk⟩
    apply Classical.byContradiction
    intro hno
    refine hk ⟨⟨?_, ?_⟩, ⟨?_, ?_⟩, ⟨?_, ?_⟩⟩ <;> (unfold apart at hd; omega)

end Go.Ab

/- Plain words: the library's count of a 64-bit set is the number of its bits. -/
namespace Go.Ab

def rep : Nat → Nat → Nat
  | 0, _ => 0
  | k + 1, c => c + 256 * rep k c
def ofB : List Nat → Nat
  | [] => 0
  | l :: ls => l + 256 * ofB ls
def a8 (l : Nat) : Nat := (l / 2 &&& 85) + (l &&& 85)
def b8 (l : Nat) : Nat := (l / 4 &&& 51) + (l &&& 51)
def c8 (l : Nat) : Nat := (l / 16 + l) % 16
def pc8 (l : Nat) : Nat := (List.range 8).countP fun j => l.testBit j
end Go.Ab

/- Contracts: lines that need a cube, and cells that must be, the program's side. -/
namespace Go.Ab
open Go
set_option linter.unusedSimpArgs false
set_option linter.unusedVariables false
set_option maxRecDepth 20000

section
variable {x y z : Int} {t o t' o' t2 o2 : Nat} {tp fr sd : List Int} {M : Mem} (h1 : Ints M t o tp) (h2 : Ints M t' o' fr) (h3 : Ints M t2 o2 sd) (hok : ShdOK x y z tp fr sd)
include h1 h2 h3 hok
end
end Go.Ab

/- Contracts: cells that must be, the reference's side; MustCells and SpareCells, both sides. -/
namespace Go.Ab
open Go
set_option linter.unusedSimpArgs false
set_option linter.unusedVariables false
set_option maxRecDepth 20000

/-- Of the allowed cells those that must be (sp false), or the others. -/
def shdPart (x y z : Int) (tp fr sd : List Int) (sp : Bool) : List Cell := (pick x y z (allowedB y z tp fr sd)).filter fun c => aloneK y z (pick x y z (allowedB y z tp fr sd)) 3 c != sp
section
variable {x y z : Int} {t o t' o' t2 o2 : Nat} {tp fr sd : List Int} {M : Mem} (h1 : Ints M t o tp) (h2 : Ints M t' o' fr) (h3 : Ints M t2 o2 sd)
include h1 h2 h3
end
end Go.Ab

/- Contracts: MustCells and SpareCells, both sides. -/
namespace Go.Ab
open Go
set_option linter.unusedSimpArgs false
set_option linter.unusedVariables false
set_option maxRecDepth 20000

/-- A valid shadow whose lists fit together. -/
def Fits (x y z : Int) (tp fr sd : List Int) : Prop := ShdOK x y z tp fr sd ∧ HasShd x y z tp fr sd (pick x y z (allowedB y z tp fr sd))
instance (x y z : Int) (tp fr sd : List Int) : Decidable (Fits x y z tp fr sd) := by unfold Fits; exact inferInstance
def partOf (x y z : Int) (tp fr sd : List Int) (sp : Bool) : Option (List Cell) := if Fits x y z tp fr sd then some (shdPart x y z tp fr sd sp) else none
section
variable {x y z : Int} {t o t' o' t2 o2 : Nat} {tp fr sd : List Int} {M : Mem} (h1 : Ints M t o tp) (h2 : Ints M t' o' fr) (h3 : Ints M t2 o2 sd) (l1 : tp.length ≤ 1000000000) (l2 : fr.length ≤ 1000000000) (l3 : sd.length ≤ 1000000000)
include h1 h2 h3 l1 l2 l3
end
end Go.Ab

/- Plain: what the law of shadows says. -/
namespace Go.Ab
open Go
set_option linter.unusedSimpArgs false
set_option linter.unusedVariables false
set_option maxRecDepth 20000

section
variable {x y z : Int} {tp fr sd : List Int} (hok : ShdOK x y z tp fr sd)
include hok
end
/-- The number of lit lines. -/
def litSum : List Int → Int
  | [] => 0
  | a :: l => a + litSum l
end Go.Ab

/- The abstract code of some functions (written by a program of mine from the translation, by way of prepF). -/
namespace Go.Ab.C
open Go.Ab
end Go.Ab.C

/- That the program has this code. -/
namespace Go.Ab.K
open Go Go.Ab
end Go.Ab.K
