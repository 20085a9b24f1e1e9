/- Parts of the proof of FnHeapFormsSaid: LFnHeapForms Re. -/
import Derived.Test.YthgljdbfkojpeaaA4
import Derived.Test.YthgljdbfkojpeaaA8
import Derived.Test.YthgljdbfkojpeaaA9
import Derived.Test.YthgljdbfkojpeaaA10
import Derived.Test.YthgljdbfkojpeaaA6
set_option linter.all false
/- The law of mirrored, swapped, other, joined, common, shifted, cropped and widened heaps. -/
namespace Go.Ab
open Go
set_option linter.unusedSimpArgs false
set_option linter.unusedVariables false
set_option maxRecDepth 20000

/-- A heap and a truth; its cells lie in a block of their own. -/
def HeapQ (M : Mem) (x y z : Int) (cs : List Cell) (b : Bool) (v : LV) (N : Mem) : Prop := ∃ u : Nat, v = .tup [.agg [.I x, .I y, .I z, .ref u 0 cs.length], .B b] ∧ Live N u (.row (triL cs) true 3) ∧ Pre M N
theorem opt_law {P : Prop} [Decidable P] {g : Hp} (hl : P → g.cs.length ≤ 1000) : ((if P then some g else none : Option Hp).isSome = true → P ∧ (if P then some g else none : Option Hp).getD Hp.none = g) ∧ ((if P then some g else none : Option Hp).getD Hp.none).cs.length ≤ 1000 := by
  by_cases h : P
  · rw [if_pos h]; exact ⟨fun _ => ⟨h, rfl⟩, hl h⟩
  · rw [if_neg h]; exact ⟨fun e => Bool.noConfusion e, by simp [Hp.none]⟩
theorem mirOf_law (x y z : Int) (cs : List Cell) (d : Int) : ((mirOf x y z cs d).isSome = true → (HeapOK x y z cs ∧ Dir d) ∧ (mirOf x y z cs d).getD Hp.none = ⟨x, y, z, mirD x y z d cs⟩) ∧ ((mirOf x y z cs d).getD Hp.none).cs.length ≤ 1000 := by
  unfold mirOf
  classical exact opt_law fun e => Nat.le_trans (pick_ok e.1.1 _).len (by omega)
theorem othOf_law (x y z : Int) (cs : List Cell) : ((othOf x y z cs).isSome = true → HeapOK x y z cs ∧ (othOf x y z cs).getD Hp.none = ⟨x, y, z, pick x y z (freeP cs)⟩) ∧ ((othOf x y z cs).getD Hp.none).cs.length ≤ 1000 := by
  unfold othOf
  classical exact opt_law fun e => Nat.le_trans (pick_ok e.1 _).len (by omega)
theorem swpOf_law (x y z : Int) (cs : List Cell) (a b : Int) : ((swpOf x y z cs a b).isSome = true → (HeapOK x y z cs ∧ Dir a ∧ Dir b) ∧ (swpOf x y z cs a b).getD Hp.none = swX a b x y z cs) ∧ ((swpOf x y z cs a b).getD Hp.none).cs.length ≤ 1000 := by
  unfold swpOf
  classical exact opt_law fun e => Nat.le_trans (sw_ok e.2.1 e.2.2 e.1).len (by omega)
theorem jnOf_law (x y z : Int) (cs : List Cell) (x' y' z' : Int) (ds : List Cell) : ((jnOf x y z cs x' y' z' ds).isSome = true → Alike x y z cs x' y' z' ds ∧ (jnOf x y z cs x' y' z' ds).getD Hp.none = ⟨x, y, z, pick x y z fun c => decide (c ∈ cs) || decide (c ∈ ds)⟩) ∧ ((jnOf x y z cs x' y' z' ds).getD Hp.none).cs.length ≤ 1000 := by
  unfold jnOf
  classical exact opt_law fun e => Nat.le_trans (pick_ok e.1.1 _).len (by omega)
theorem cmOf_law (x y z : Int) (cs : List Cell) (x' y' z' : Int) (ds : List Cell) : ((cmOf x y z cs x' y' z' ds).isSome = true → Alike x y z cs x' y' z' ds ∧ (cmOf x y z cs x' y' z' ds).getD Hp.none = ⟨x, y, z, pick x y z fun c => decide (c ∈ cs) && decide (c ∈ ds)⟩) ∧ ((cmOf x y z cs x' y' z' ds).getD Hp.none).cs.length ≤ 1000 := by
  unfold cmOf
  classical exact opt_law fun e => Nat.le_trans (pick_ok e.1.1 _).len (by omega)
theorem alike_some (x y z : Int) (cs : List Cell) (x' y' z' : Int) (ds : List Cell) : (cmOf x y z cs x' y' z' ds).isSome = (jnOf x y z cs x' y' z' ds).isSome := by
  unfold cmOf jnOf
  split <;> rfl
theorem shOf_law (x y z : Int) (cs : List Cell) (p : Cell) : ((shOf x y z cs p).isSome = true → (HeapOK x y z cs ∧ Near4 p ∧ HeapOK x y z (cs.map (shift p))) ∧ (shOf x y z cs p).getD Hp.none = ⟨x, y, z, cs.map (shift p)⟩) ∧ ((shOf x y z cs p).getD Hp.none).cs.length ≤ 1000 := by
  unfold shOf
  classical exact opt_law fun e => Nat.le_trans e.2.2.len (by omega)
theorem crOf_law (x y z : Int) (cs : List Cell) : ((crOf x y z cs).isSome = true → (HeapOK x y z cs ∧ 0 < cs.length) ∧ (crOf x y z cs).getD Hp.none = cropHp cs) ∧ ((crOf x y z cs).getD Hp.none).cs.length ≤ 1000 := by
  unfold crOf
  classical exact opt_law fun e => Nat.le_trans (crop_ok e.1 e.2).len (by omega)
theorem wdOf_law (x y z : Int) (cs : List Cell) (X Y Z : Int) : ((wdOf x y z cs X Y Z).isSome = true → (HeapOK x y z cs ∧ HeapOK X Y Z cs) ∧ (wdOf x y z cs X Y Z).getD Hp.none = ⟨X, Y, Z, cs⟩) ∧ ((wdOf x y z cs X Y Z).getD Hp.none).cs.length ≤ 1000 := by
  unfold wdOf
  classical exact opt_law fun e => Nat.le_trans e.1.len (by omega)
theorem shift_back0 {p : Cell} {l : List Cell} : (l.map (shift p)).map (shift ⟨0 - p.a, 0 - p.b, 0 - p.c⟩) = l := by
  have := shift_back (p := p) (l := l)
  rw [← Int.zero_sub, ← Int.zero_sub, ← Int.zero_sub] at this
  exact this
theorem l_FnHeapForms {t : Nat} {bs : List Nat} {M : Mem} (h : Bytes M t 0 bs) (hn : bs.length ≤ 9223372036854775807 ∧ ∀ b ∈ bs, b ≤ 255) :
    CallsR PG F.laws_FnHeapForms [.ref t 0 bs.length] M fun v _ => v = .B true := by
  refine callsR_run K.laws_FnHeapForms rfl ?_
  simp (disch := omega) only [C.laws_FnHeapForms, ↓SXd, SXu, slBounds, ↓sop, ↓aop, ↓reduceIte, LV.cells, AOp.dst, LV.I, LV.B, LV.U, LV.S, LV.nil, Nat.reduceEqDiff, Nat.reduceAdd, Nat.reduceMul, Nat.reduceSub, Nat.reduceLeDiff, Nat.reduceBEq, Nat.reduceDiv, Nat.reduceMod, Int.reduceToNat, Int.reduceLT, Int.reduceLE, Int.reduceAdd, Int.reduceSub, Int.reduceMul, Int.reduceEq, Int.reduceNeg, reduceCtorEq, resV, resAll, ARes.ev, LV.flat, ite_true, ite_false, exists_eq_left', exists_eq_left, keyOf, implies_true, fillC, capOf]
  refine callK_of (k_rBig hn.1) ?_
  simp (disch := omega) only [↓SXd, SXu, slBounds, ↓sop, ↓aop, ↓reduceIte, LV.cells, AOp.dst, LV.I, LV.B, LV.U, LV.S, LV.nil, Nat.reduceEqDiff, Nat.reduceAdd, Nat.reduceMul, Nat.reduceSub, Nat.reduceLeDiff, Nat.reduceBEq, Nat.reduceDiv, Nat.reduceMod, Int.reduceToNat, Int.reduceLT, Int.reduceLE, Int.reduceAdd, Int.reduceSub, Int.reduceMul, Int.reduceEq, Int.reduceNeg, reduceCtorEq, resV, resAll, ARes.ev, LV.flat, ite_true, ite_false, exists_eq_left', exists_eq_left, keyOf, implies_true, fillC, capOf]
  by_cases hbig : (65536 : Int) < (bs.length : Nat)
  · simp (disch := omega) only [hbig, ↓SXd, SXu, slBounds, ↓sop, ↓aop, ↓reduceIte, LV.cells, AOp.dst, LV.I, LV.B, LV.U, LV.S, LV.nil, Nat.reduceEqDiff, Nat.reduceAdd, Nat.reduceMul, Nat.reduceSub, Nat.reduceLeDiff, Nat.reduceBEq, Nat.reduceDiv, Nat.reduceMod, Int.reduceToNat, Int.reduceLT, Int.reduceLE, Int.reduceAdd, Int.reduceSub, Int.reduceMul, Int.reduceEq, Int.reduceNeg, reduceCtorEq, resV, resAll, ARes.ev, LV.flat, ite_true, ite_false, exists_eq_left', exists_eq_left, keyOf, implies_true, fillC, capOf]
    rfl
  have hl : bs.length ≤ 1000000000 := by omega
  simp (disch := omega) only [hbig, ↓SXd, SXu, slBounds, ↓sop, ↓aop, ↓reduceIte, LV.cells, AOp.dst, LV.I, LV.B, LV.U, LV.S, LV.nil, Nat.reduceEqDiff, Nat.reduceAdd, Nat.reduceMul, Nat.reduceSub, Nat.reduceLeDiff, Nat.reduceBEq, Nat.reduceDiv, Nat.reduceMod, Int.reduceToNat, Int.reduceLT, Int.reduceLE, Int.reduceAdd, Int.reduceSub, Int.reduceMul, Int.reduceEq, Int.reduceNeg, reduceCtorEq, resV, resAll, ARes.ev, LV.flat, ite_true, ite_false, exists_eq_left', exists_eq_left, keyOf, implies_true, fillC, capOf]
  refine callR_of (d_DrawMirrorHeap h hn.2 hl) ?_
  rintro _ N1 ⟨⟨_, d, rfl, x1, y1, z1, c1, u1, rfl, hu1, hul1, hcl1⟩, hp1⟩
  simp (disch := omega) only [splice, ↓SXd, SXu, slBounds, ↓sop, ↓aop, ↓reduceIte, LV.cells, AOp.dst, LV.I, LV.B, LV.U, LV.S, LV.nil, Nat.reduceEqDiff, Nat.reduceAdd, Nat.reduceMul, Nat.reduceSub, Nat.reduceLeDiff, Nat.reduceBEq, Nat.reduceDiv, Nat.reduceMod, Int.reduceToNat, Int.reduceLT, Int.reduceLE, Int.reduceAdd, Int.reduceSub, Int.reduceMul, Int.reduceEq, Int.reduceNeg, reduceCtorEq, resV, resAll, ARes.ev, LV.flat, ite_true, ite_false, exists_eq_left', exists_eq_left, keyOf, implies_true, fillC, capOf]
  have B3 : Live (N1 ++ [some (.row [.I x1, .I y1, .I z1, .ref u1 0 c1.length] true 0)]) N1.length (.row [.I x1, .I y1, .I z1, .ref u1 0 c1.length] true 0) := Live.new
  have T1 := hu1.app (L := [some (.row [.I x1, .I y1, .I z1, .ref u1 0 c1.length] true 0)])
  have q1 : Pre M (N1 ++ [some (.row [.I x1, .I y1, .I z1, .ref u1 0 c1.length] true 0)]) := hp1.trans (Pre.app _ _)
  generalize N1.length = m3 at B3 ⊢
  generalize N1 ++ [some (Blk.row [.I x1, .I y1, .I z1, .ref u1 0 c1.length] true 0)] = W1 at B3 T1 q1 ⊢
  have hg : ∀ {M : Mem}, Live M u1 (.row (triL c1) true 3) → CallsR PG F.impl_MirrorHeap [.agg [.I x1, .I y1, .I z1, .ref u1 0 c1.length], .I d] M (HeapQ M ((mirOf x1 y1 z1 c1 d).getD Hp.none).x ((mirOf x1 y1 z1 c1 d).getD Hp.none).y ((mirOf x1 y1 z1 c1 d).getD Hp.none).z ((mirOf x1 y1 z1 c1 d).getD Hp.none).cs (mirOf x1 y1 z1 c1 d).isSome) := fun h0 => g_MirrorHeapX h0 (by omega)
  have hs : ∀ {M : Mem}, Live M u1 (.row (triL c1) true 3) → CallsR PG F.spec_MirrorHeap [.agg [.I x1, .I y1, .I z1, .ref u1 0 c1.length], .I d] M (HeapQ M ((mirOf x1 y1 z1 c1 d).getD Hp.none).x ((mirOf x1 y1 z1 c1 d).getD Hp.none).y ((mirOf x1 y1 z1 c1 d).getD Hp.none).z ((mirOf x1 y1 z1 c1 d).getD Hp.none).cs (mirOf x1 y1 z1 c1 d).isSome) := fun h0 => h_sMirrorHeap h0 (by omega)
  have L1 := mirOf_law x1 y1 z1 c1 d
  generalize hG1 : (mirOf x1 y1 z1 c1 d).getD Hp.none = G1 at hg hs L1
  generalize hb1 : (mirOf x1 y1 z1 c1 d).isSome = b1 at hg hs L1
  refine callR_of (hg T1) ?_
  rintro _ N2 ⟨uP1, rfl, huP1, hp2⟩
  have B5 : Live (N2 ++ [some (.row [.I G1.x, .I G1.y, .I G1.z, .ref uP1 0 G1.cs.length] true 0)]) N2.length (.row [.I G1.x, .I G1.y, .I G1.z, .ref uP1 0 G1.cs.length] true 0) := Live.new
  have U5 := huP1.app (L := [some (.row [.I G1.x, .I G1.y, .I G1.z, .ref uP1 0 G1.cs.length] true 0)])
  have q2 : Pre W1 (N2 ++ [some (.row [.I G1.x, .I G1.y, .I G1.z, .ref uP1 0 G1.cs.length] true 0)]) := hp2.trans (Pre.app _ _)
  have eB3 := B3.pre q2
  simp (disch := omega) only [splice, eB3.cells, ↓SXd, SXu, slBounds, ↓sop, ↓aop, ↓reduceIte, LV.cells, AOp.dst, LV.I, LV.B, LV.U, LV.S, LV.nil, Nat.reduceEqDiff, Nat.reduceAdd, Nat.reduceMul, Nat.reduceSub, Nat.reduceLeDiff, Nat.reduceBEq, Nat.reduceDiv, Nat.reduceMod, Int.reduceToNat, Int.reduceLT, Int.reduceLE, Int.reduceAdd, Int.reduceSub, Int.reduceMul, Int.reduceEq, Int.reduceNeg, reduceCtorEq, resV, resAll, ARes.ev, LV.flat, ite_true, ite_false, exists_eq_left', exists_eq_left, keyOf, implies_true, fillC, capOf]
  generalize N2.length = m5 at B5 ⊢
  generalize N2 ++ [some (Blk.row [.I G1.x, .I G1.y, .I G1.z, .ref uP1 0 G1.cs.length] true 0)] = W2 at B5 U5 q2 eB3 ⊢
  refine callR_of (hs (T1.pre (q2))) ?_
  rintro _ N3 ⟨uS1, rfl, huS1, hp3⟩
  have B7 : Live (N3 ++ [some (.row [.I G1.x, .I G1.y, .I G1.z, .ref uS1 0 G1.cs.length] true 0)]) N3.length (.row [.I G1.x, .I G1.y, .I G1.z, .ref uS1 0 G1.cs.length] true 0) := Live.new
  have U7 := huS1.app (L := [some (.row [.I G1.x, .I G1.y, .I G1.z, .ref uS1 0 G1.cs.length] true 0)])
  have q3 : Pre W2 (N3 ++ [some (.row [.I G1.x, .I G1.y, .I G1.z, .ref uS1 0 G1.cs.length] true 0)]) := hp3.trans (Pre.app _ _)
  have eB5 := B5.pre q3
  simp (disch := omega) only [splice, eB5.cells, beq_self_eq_true, Bool.not_true, ↓SXd, SXu, slBounds, ↓sop, ↓aop, ↓reduceIte, LV.cells, AOp.dst, LV.I, LV.B, LV.U, LV.S, LV.nil, Nat.reduceEqDiff, Nat.reduceAdd, Nat.reduceMul, Nat.reduceSub, Nat.reduceLeDiff, Nat.reduceBEq, Nat.reduceDiv, Nat.reduceMod, Int.reduceToNat, Int.reduceLT, Int.reduceLE, Int.reduceAdd, Int.reduceSub, Int.reduceMul, Int.reduceEq, Int.reduceNeg, reduceCtorEq, resV, resAll, ARes.ev, LV.flat, ite_true, ite_false, exists_eq_left', exists_eq_left, keyOf, implies_true, fillC, capOf]
  generalize N3.length = m7 at B7 ⊢
  generalize N3 ++ [some (Blk.row [.I G1.x, .I G1.y, .I G1.z, .ref uS1 0 G1.cs.length] true 0)] = W3 at B7 U7 q3 eB5 ⊢
  have rh := k_rHeap (g := G1) (h := G1) (CellsV.of (U5.pre (q3)).has) (CellsV.of U7.has) (by omega) (by omega)
  rw [decide_eq_true (⟨rfl, rfl⟩ : G1.dims = G1.dims ∧ G1.cs = G1.cs)] at rh
  refine callK_of rh ?_
  refine put_cut (fun fr' M' => M' = W3 ∧ fr' 0 = .ref t 0 bs.length ∧ fr' 3 = .ptr m3 0 ∧ fr' 4 = .I d ∧ fr' 5 = .ptr m5 0 ∧ fr' 6 = .B b1) ?_ ?_
  · simp (disch := omega) only [Bool.not_true, ↓SXd, SXu, slBounds, ↓sop, ↓aop, ↓reduceIte, LV.cells, AOp.dst, LV.I, LV.B, LV.U, LV.S, LV.nil, Nat.reduceEqDiff, Nat.reduceAdd, Nat.reduceMul, Nat.reduceSub, Nat.reduceLeDiff, Nat.reduceBEq, Nat.reduceDiv, Nat.reduceMod, Int.reduceToNat, Int.reduceLT, Int.reduceLE, Int.reduceAdd, Int.reduceSub, Int.reduceMul, Int.reduceEq, Int.reduceNeg, reduceCtorEq, resV, resAll, ARes.ev, LV.flat, ite_true, ite_false, exists_eq_left', exists_eq_left, keyOf, implies_true, fillC, capOf]
    all_goals exact ⟨rfl, rfl, rfl, rfl, rfl, rfl⟩
  rintro fr W3 ⟨rfl, f0, f3, f4, f5, f6⟩
  simp (disch := omega) only [f0, f3, f4, f5, f6, (B3.pre (q2.trans q3)).cells, ↓SXd, SXu, slBounds, ↓sop, ↓aop, ↓reduceIte, LV.cells, AOp.dst, LV.I, LV.B, LV.U, LV.S, LV.nil, Nat.reduceEqDiff, Nat.reduceAdd, Nat.reduceMul, Nat.reduceSub, Nat.reduceLeDiff, Nat.reduceBEq, Nat.reduceDiv, Nat.reduceMod, Int.reduceToNat, Int.reduceLT, Int.reduceLE, Int.reduceAdd, Int.reduceSub, Int.reduceMul, Int.reduceEq, Int.reduceNeg, reduceCtorEq, resV, resAll, ARes.ev, LV.flat, ite_true, ite_false, exists_eq_left', exists_eq_left, keyOf, implies_true, fillC, capOf]
  have hg : ∀ {M : Mem}, Live M u1 (.row (triL c1) true 3) → CallsR PG F.impl_OtherCells [.agg [.I x1, .I y1, .I z1, .ref u1 0 c1.length]] M (HeapQ M ((othOf x1 y1 z1 c1).getD Hp.none).x ((othOf x1 y1 z1 c1).getD Hp.none).y ((othOf x1 y1 z1 c1).getD Hp.none).z ((othOf x1 y1 z1 c1).getD Hp.none).cs (othOf x1 y1 z1 c1).isSome) := fun h0 => g_OtherCellsX h0 (by omega)
  have hs : ∀ {M : Mem}, Live M u1 (.row (triL c1) true 3) → CallsR PG F.spec_OtherCells [.agg [.I x1, .I y1, .I z1, .ref u1 0 c1.length]] M (HeapQ M ((othOf x1 y1 z1 c1).getD Hp.none).x ((othOf x1 y1 z1 c1).getD Hp.none).y ((othOf x1 y1 z1 c1).getD Hp.none).z ((othOf x1 y1 z1 c1).getD Hp.none).cs (othOf x1 y1 z1 c1).isSome) := fun h0 => h_sOtherCells h0 (by omega)
  have L2 := othOf_law x1 y1 z1 c1
  have h12 : b1 = true → (othOf x1 y1 z1 c1).isSome = true := fun e => by rw [show othOf x1 y1 z1 c1 = some _ from if_pos (L1.1 e).1.1]; rfl
  generalize hG2 : (othOf x1 y1 z1 c1).getD Hp.none = G2 at hg hs L2
  generalize hb2 : (othOf x1 y1 z1 c1).isSome = b2 at hg hs L2 h12
  refine callR_of (hg (T1.pre (q2.trans q3))) ?_
  rintro _ N4 ⟨uP2, rfl, huP2, hp4⟩
  have B9 : Live (N4 ++ [some (.row [.I G2.x, .I G2.y, .I G2.z, .ref uP2 0 G2.cs.length] true 0)]) N4.length (.row [.I G2.x, .I G2.y, .I G2.z, .ref uP2 0 G2.cs.length] true 0) := Live.new
  have U9 := huP2.app (L := [some (.row [.I G2.x, .I G2.y, .I G2.z, .ref uP2 0 G2.cs.length] true 0)])
  have q4 : Pre W3 (N4 ++ [some (.row [.I G2.x, .I G2.y, .I G2.z, .ref uP2 0 G2.cs.length] true 0)]) := hp4.trans (Pre.app _ _)
  have eB3 := B3.pre ((q2.trans q3).trans q4)
  simp (disch := omega) only [f0, f3, f4, f5, f6, splice, eB3.cells, ↓SXd, SXu, slBounds, ↓sop, ↓aop, ↓reduceIte, LV.cells, AOp.dst, LV.I, LV.B, LV.U, LV.S, LV.nil, Nat.reduceEqDiff, Nat.reduceAdd, Nat.reduceMul, Nat.reduceSub, Nat.reduceLeDiff, Nat.reduceBEq, Nat.reduceDiv, Nat.reduceMod, Int.reduceToNat, Int.reduceLT, Int.reduceLE, Int.reduceAdd, Int.reduceSub, Int.reduceMul, Int.reduceEq, Int.reduceNeg, reduceCtorEq, resV, resAll, ARes.ev, LV.flat, ite_true, ite_false, exists_eq_left', exists_eq_left, keyOf, implies_true, fillC, capOf]
  generalize N4.length = m9 at B9 ⊢
  generalize N4 ++ [some (Blk.row [.I G2.x, .I G2.y, .I G2.z, .ref uP2 0 G2.cs.length] true 0)] = W4 at B9 U9 q4 eB3 ⊢
  refine callR_of (hs (T1.pre (q2.trans (q3.trans q4)))) ?_
  rintro _ N5 ⟨uS2, rfl, huS2, hp5⟩
  have B11 : Live (N5 ++ [some (.row [.I G2.x, .I G2.y, .I G2.z, .ref uS2 0 G2.cs.length] true 0)]) N5.length (.row [.I G2.x, .I G2.y, .I G2.z, .ref uS2 0 G2.cs.length] true 0) := Live.new
  have U11 := huS2.app (L := [some (.row [.I G2.x, .I G2.y, .I G2.z, .ref uS2 0 G2.cs.length] true 0)])
  have q5 : Pre W4 (N5 ++ [some (.row [.I G2.x, .I G2.y, .I G2.z, .ref uS2 0 G2.cs.length] true 0)]) := hp5.trans (Pre.app _ _)
  have eB9 := B9.pre q5
  simp (disch := omega) only [f0, f3, f4, f5, f6, splice, eB9.cells, beq_self_eq_true, Bool.not_true, ↓SXd, SXu, slBounds, ↓sop, ↓aop, ↓reduceIte, LV.cells, AOp.dst, LV.I, LV.B, LV.U, LV.S, LV.nil, Nat.reduceEqDiff, Nat.reduceAdd, Nat.reduceMul, Nat.reduceSub, Nat.reduceLeDiff, Nat.reduceBEq, Nat.reduceDiv, Nat.reduceMod, Int.reduceToNat, Int.reduceLT, Int.reduceLE, Int.reduceAdd, Int.reduceSub, Int.reduceMul, Int.reduceEq, Int.reduceNeg, reduceCtorEq, resV, resAll, ARes.ev, LV.flat, ite_true, ite_false, exists_eq_left', exists_eq_left, keyOf, implies_true, fillC, capOf]
  generalize N5.length = m11 at B11 ⊢
  generalize N5 ++ [some (Blk.row [.I G2.x, .I G2.y, .I G2.z, .ref uS2 0 G2.cs.length] true 0)] = W5 at B11 U11 q5 eB9 ⊢
  refine guard_cut (fun fr' M' => M' = W5 ∧ fr' 0 = .ref t 0 bs.length ∧ fr' 3 = .ptr m3 0 ∧ fr' 4 = .I d ∧ fr' 5 = .ptr m5 0 ∧ fr' 6 = .B b1 ∧ fr' 9 = .ptr m9 0) ?_ ?_
  · have rh := k_rHeap (g := G2) (h := G2) (CellsV.of (U9.pre (q5)).has) (CellsV.of U11.has) (by omega) (by omega)
    rw [decide_eq_true (⟨rfl, rfl⟩ : G2.dims = G2.dims ∧ G2.cs = G2.cs)] at rh
    cases b1
    · skip
      simp (disch := omega) only [f0, f3, f4, f5, f6, (B9.pre (q5)).cells, B11.cells, ↓SXd, SXu, slBounds, ↓sop, ↓aop, ↓reduceIte, LV.cells, AOp.dst, LV.I, LV.B, LV.U, LV.S, LV.nil, Nat.reduceEqDiff, Nat.reduceAdd, Nat.reduceMul, Nat.reduceSub, Nat.reduceLeDiff, Nat.reduceBEq, Nat.reduceDiv, Nat.reduceMod, Int.reduceToNat, Int.reduceLT, Int.reduceLE, Int.reduceAdd, Int.reduceSub, Int.reduceMul, Int.reduceEq, Int.reduceNeg, reduceCtorEq, resV, resAll, ARes.ev, LV.flat, ite_true, ite_false, exists_eq_left', exists_eq_left, keyOf, implies_true, fillC, capOf]
      refine callK_of rh ?_
      simp (disch := omega) only [f0, f3, f4, f5, f6, Bool.not_true, ↓SXd, SXu, slBounds, ↓sop, ↓aop, ↓reduceIte, LV.cells, AOp.dst, LV.I, LV.B, LV.U, LV.S, LV.nil, Nat.reduceEqDiff, Nat.reduceAdd, Nat.reduceMul, Nat.reduceSub, Nat.reduceLeDiff, Nat.reduceBEq, Nat.reduceDiv, Nat.reduceMod, Int.reduceToNat, Int.reduceLT, Int.reduceLE, Int.reduceAdd, Int.reduceSub, Int.reduceMul, Int.reduceEq, Int.reduceNeg, reduceCtorEq, resV, resAll, ARes.ev, LV.flat, ite_true, ite_false, exists_eq_left', exists_eq_left, keyOf, implies_true, fillC, capOf]
      all_goals exact ⟨rfl, by first | rfl | assumption, by first | rfl | assumption, by first | rfl | assumption, by first | rfl | assumption, by first | rfl | assumption, by first | rfl | assumption⟩
    · have hb2t := h12 rfl
      simp (disch := omega) only [f0, f3, f4, f5, f6, (B9.pre (q5)).cells, B11.cells, hb2t, Bool.not_true, ↓SXd, SXu, slBounds, ↓sop, ↓aop, ↓reduceIte, LV.cells, AOp.dst, LV.I, LV.B, LV.U, LV.S, LV.nil, Nat.reduceEqDiff, Nat.reduceAdd, Nat.reduceMul, Nat.reduceSub, Nat.reduceLeDiff, Nat.reduceBEq, Nat.reduceDiv, Nat.reduceMod, Int.reduceToNat, Int.reduceLT, Int.reduceLE, Int.reduceAdd, Int.reduceSub, Int.reduceMul, Int.reduceEq, Int.reduceNeg, reduceCtorEq, resV, resAll, ARes.ev, LV.flat, ite_true, ite_false, exists_eq_left', exists_eq_left, keyOf, implies_true, fillC, capOf]
      refine callK_of rh ?_
      simp (disch := omega) only [f0, f3, f4, f5, f6, Bool.not_true, ↓SXd, SXu, slBounds, ↓sop, ↓aop, ↓reduceIte, LV.cells, AOp.dst, LV.I, LV.B, LV.U, LV.S, LV.nil, Nat.reduceEqDiff, Nat.reduceAdd, Nat.reduceMul, Nat.reduceSub, Nat.reduceLeDiff, Nat.reduceBEq, Nat.reduceDiv, Nat.reduceMod, Int.reduceToNat, Int.reduceLT, Int.reduceLE, Int.reduceAdd, Int.reduceSub, Int.reduceMul, Int.reduceEq, Int.reduceNeg, reduceCtorEq, resV, resAll, ARes.ev, LV.flat, ite_true, ite_false, exists_eq_left', exists_eq_left, keyOf, implies_true, fillC, capOf]
      all_goals exact ⟨rfl, by first | rfl | assumption, by first | rfl | assumption, by first | rfl | assumption, by first | rfl | assumption, by first | rfl | assumption, by first | rfl | assumption⟩
  rintro fr W5 ⟨rfl, f0, f3, f4, f5, f6, f9⟩
  simp (disch := omega) only [f0, f3, f4, f5, f6, f9, ↓SXd, SXu, slBounds, ↓sop, ↓aop, ↓reduceIte, LV.cells, AOp.dst, LV.I, LV.B, LV.U, LV.S, LV.nil, Nat.reduceEqDiff, Nat.reduceAdd, Nat.reduceMul, Nat.reduceSub, Nat.reduceLeDiff, Nat.reduceBEq, Nat.reduceDiv, Nat.reduceMod, Int.reduceToNat, Int.reduceLT, Int.reduceLE, Int.reduceAdd, Int.reduceSub, Int.reduceMul, Int.reduceEq, Int.reduceNeg, reduceCtorEq, resV, resAll, ARes.ev, LV.flat, ite_true, ite_false, exists_eq_left', exists_eq_left, keyOf, implies_true, fillC, capOf]
  refine callR_of (d_DrawSwapSides (h.pre (q1.trans (q2.trans (q3.trans (q4.trans q5))))) hn.2 hl) ?_
  rintro _ N6 ⟨⟨_, a, b, rfl, x3, y3, z3, c3, u3, rfl, hu3, hul3, hcl3⟩, hp6⟩
  simp (disch := omega) only [f0, f3, f4, f5, f6, f9, splice, ↓SXd, SXu, slBounds, ↓sop, ↓aop, ↓reduceIte, LV.cells, AOp.dst, LV.I, LV.B, LV.U, LV.S, LV.nil, Nat.reduceEqDiff, Nat.reduceAdd, Nat.reduceMul, Nat.reduceSub, Nat.reduceLeDiff, Nat.reduceBEq, Nat.reduceDiv, Nat.reduceMod, Int.reduceToNat, Int.reduceLT, Int.reduceLE, Int.reduceAdd, Int.reduceSub, Int.reduceMul, Int.reduceEq, Int.reduceNeg, reduceCtorEq, resV, resAll, ARes.ev, LV.flat, ite_true, ite_false, exists_eq_left', exists_eq_left, keyOf, implies_true, fillC, capOf]
  have B13 : Live (N6 ++ [some (.row [.I x3, .I y3, .I z3, .ref u3 0 c3.length] true 0)]) N6.length (.row [.I x3, .I y3, .I z3, .ref u3 0 c3.length] true 0) := Live.new
  have T3 := hu3.app (L := [some (.row [.I x3, .I y3, .I z3, .ref u3 0 c3.length] true 0)])
  have q6 : Pre W5 (N6 ++ [some (.row [.I x3, .I y3, .I z3, .ref u3 0 c3.length] true 0)]) := hp6.trans (Pre.app _ _)
  generalize N6.length = m13 at B13 ⊢
  generalize N6 ++ [some (Blk.row [.I x3, .I y3, .I z3, .ref u3 0 c3.length] true 0)] = W6 at B13 T3 q6 ⊢
  have hg : ∀ {M : Mem}, Live M u3 (.row (triL c3) true 3) → CallsR PG F.impl_SwapSides [.agg [.I x3, .I y3, .I z3, .ref u3 0 c3.length], .I a, .I b] M (HeapQ M ((swpOf x3 y3 z3 c3 a b).getD Hp.none).x ((swpOf x3 y3 z3 c3 a b).getD Hp.none).y ((swpOf x3 y3 z3 c3 a b).getD Hp.none).z ((swpOf x3 y3 z3 c3 a b).getD Hp.none).cs (swpOf x3 y3 z3 c3 a b).isSome) := fun h0 => g_SwapSidesX h0 (by omega)
  have hs : ∀ {M : Mem}, Live M u3 (.row (triL c3) true 3) → CallsR PG F.spec_SwapSides [.agg [.I x3, .I y3, .I z3, .ref u3 0 c3.length], .I a, .I b] M (HeapQ M ((swpOf x3 y3 z3 c3 a b).getD Hp.none).x ((swpOf x3 y3 z3 c3 a b).getD Hp.none).y ((swpOf x3 y3 z3 c3 a b).getD Hp.none).z ((swpOf x3 y3 z3 c3 a b).getD Hp.none).cs (swpOf x3 y3 z3 c3 a b).isSome) := fun h0 => h_sSwapSides h0 (by omega)
  have L3 := swpOf_law x3 y3 z3 c3 a b
  generalize hG3 : (swpOf x3 y3 z3 c3 a b).getD Hp.none = G3 at hg hs L3
  generalize hb3 : (swpOf x3 y3 z3 c3 a b).isSome = b3 at hg hs L3
  refine callR_of (hg T3) ?_
  rintro _ N7 ⟨uP3, rfl, huP3, hp7⟩
  have B16 : Live (N7 ++ [some (.row [.I G3.x, .I G3.y, .I G3.z, .ref uP3 0 G3.cs.length] true 0)]) N7.length (.row [.I G3.x, .I G3.y, .I G3.z, .ref uP3 0 G3.cs.length] true 0) := Live.new
  have U16 := huP3.app (L := [some (.row [.I G3.x, .I G3.y, .I G3.z, .ref uP3 0 G3.cs.length] true 0)])
  have q7 : Pre W6 (N7 ++ [some (.row [.I G3.x, .I G3.y, .I G3.z, .ref uP3 0 G3.cs.length] true 0)]) := hp7.trans (Pre.app _ _)
  have eB13 := B13.pre q7
  simp (disch := omega) only [f0, f3, f4, f5, f6, f9, splice, eB13.cells, ↓SXd, SXu, slBounds, ↓sop, ↓aop, ↓reduceIte, LV.cells, AOp.dst, LV.I, LV.B, LV.U, LV.S, LV.nil, Nat.reduceEqDiff, Nat.reduceAdd, Nat.reduceMul, Nat.reduceSub, Nat.reduceLeDiff, Nat.reduceBEq, Nat.reduceDiv, Nat.reduceMod, Int.reduceToNat, Int.reduceLT, Int.reduceLE, Int.reduceAdd, Int.reduceSub, Int.reduceMul, Int.reduceEq, Int.reduceNeg, reduceCtorEq, resV, resAll, ARes.ev, LV.flat, ite_true, ite_false, exists_eq_left', exists_eq_left, keyOf, implies_true, fillC, capOf]
  generalize N7.length = m16 at B16 ⊢
  generalize N7 ++ [some (Blk.row [.I G3.x, .I G3.y, .I G3.z, .ref uP3 0 G3.cs.length] true 0)] = W7 at B16 U16 q7 eB13 ⊢
  refine callR_of (hs (T3.pre (q7))) ?_
  rintro _ N8 ⟨uS3, rfl, huS3, hp8⟩
  have B18 : Live (N8 ++ [some (.row [.I G3.x, .I G3.y, .I G3.z, .ref uS3 0 G3.cs.length] true 0)]) N8.length (.row [.I G3.x, .I G3.y, .I G3.z, .ref uS3 0 G3.cs.length] true 0) := Live.new
  have U18 := huS3.app (L := [some (.row [.I G3.x, .I G3.y, .I G3.z, .ref uS3 0 G3.cs.length] true 0)])
  have q8 : Pre W7 (N8 ++ [some (.row [.I G3.x, .I G3.y, .I G3.z, .ref uS3 0 G3.cs.length] true 0)]) := hp8.trans (Pre.app _ _)
  have eB16 := B16.pre q8
  simp (disch := omega) only [f0, f3, f4, f5, f6, f9, splice, eB16.cells, beq_self_eq_true, Bool.not_true, ↓SXd, SXu, slBounds, ↓sop, ↓aop, ↓reduceIte, LV.cells, AOp.dst, LV.I, LV.B, LV.U, LV.S, LV.nil, Nat.reduceEqDiff, Nat.reduceAdd, Nat.reduceMul, Nat.reduceSub, Nat.reduceLeDiff, Nat.reduceBEq, Nat.reduceDiv, Nat.reduceMod, Int.reduceToNat, Int.reduceLT, Int.reduceLE, Int.reduceAdd, Int.reduceSub, Int.reduceMul, Int.reduceEq, Int.reduceNeg, reduceCtorEq, resV, resAll, ARes.ev, LV.flat, ite_true, ite_false, exists_eq_left', exists_eq_left, keyOf, implies_true, fillC, capOf]
  generalize N8.length = m18 at B18 ⊢
  generalize N8 ++ [some (Blk.row [.I G3.x, .I G3.y, .I G3.z, .ref uS3 0 G3.cs.length] true 0)] = W8 at B18 U18 q8 eB16 ⊢
  have rh := k_rHeap (g := G3) (h := G3) (CellsV.of (U16.pre (q8)).has) (CellsV.of U18.has) (by omega) (by omega)
  rw [decide_eq_true (⟨rfl, rfl⟩ : G3.dims = G3.dims ∧ G3.cs = G3.cs)] at rh
  refine callK_of rh ?_
  refine put_cut (fun fr' M' => M' = W8 ∧ fr' 0 = .ref t 0 bs.length ∧ fr' 3 = .ptr m3 0 ∧ fr' 4 = .I d ∧ fr' 5 = .ptr m5 0 ∧ fr' 6 = .B b1 ∧ fr' 9 = .ptr m9 0 ∧ fr' 13 = .ptr m13 0 ∧ fr' 14 = .I a ∧ fr' 15 = .I b ∧ fr' 16 = .ptr m16 0 ∧ fr' 17 = .B b3) ?_ ?_
  · simp (disch := omega) only [f0, f3, f4, f5, f6, f9, Bool.not_true, ↓SXd, SXu, slBounds, ↓sop, ↓aop, ↓reduceIte, LV.cells, AOp.dst, LV.I, LV.B, LV.U, LV.S, LV.nil, Nat.reduceEqDiff, Nat.reduceAdd, Nat.reduceMul, Nat.reduceSub, Nat.reduceLeDiff, Nat.reduceBEq, Nat.reduceDiv, Nat.reduceMod, Int.reduceToNat, Int.reduceLT, Int.reduceLE, Int.reduceAdd, Int.reduceSub, Int.reduceMul, Int.reduceEq, Int.reduceNeg, reduceCtorEq, resV, resAll, ARes.ev, LV.flat, ite_true, ite_false, exists_eq_left', exists_eq_left, keyOf, implies_true, fillC, capOf]
    all_goals exact ⟨rfl, by first | rfl | assumption, by first | rfl | assumption, by first | rfl | assumption, by first | rfl | assumption, by first | rfl | assumption, by first | rfl | assumption, by first | rfl | assumption, by first | rfl | assumption, by first | rfl | assumption, by first | rfl | assumption, by first | rfl | assumption⟩
  rintro fr W8 ⟨rfl, f0, f3, f4, f5, f6, f9, f13, f14, f15, f16, f17⟩
  simp (disch := omega) only [f0, f3, f4, f5, f6, f9, f13, f14, f15, f16, f17, ↓SXd, SXu, slBounds, ↓sop, ↓aop, ↓reduceIte, LV.cells, AOp.dst, LV.I, LV.B, LV.U, LV.S, LV.nil, Nat.reduceEqDiff, Nat.reduceAdd, Nat.reduceMul, Nat.reduceSub, Nat.reduceLeDiff, Nat.reduceBEq, Nat.reduceDiv, Nat.reduceMod, Int.reduceToNat, Int.reduceLT, Int.reduceLE, Int.reduceAdd, Int.reduceSub, Int.reduceMul, Int.reduceEq, Int.reduceNeg, reduceCtorEq, resV, resAll, ARes.ev, LV.flat, ite_true, ite_false, exists_eq_left', exists_eq_left, keyOf, implies_true, fillC, capOf]
  refine callR_of (d_DrawJoinHeaps (h.pre (q1.trans (q2.trans (q3.trans (q4.trans (q5.trans (q6.trans (q7.trans q8)))))))) hn.2 hl) ?_
  rintro _ N9 ⟨⟨_, _, rfl, ⟨x4, y4, z4, c4, u4, rfl, hu4, hul4, hcl4⟩, ⟨x5, y5, z5, c5, u5, rfl, hu5, hul5, hcl5⟩⟩, hp9⟩
  simp (disch := omega) only [f0, f3, f4, f5, f6, f9, f13, f14, f15, f16, f17, splice, ↓SXd, SXu, slBounds, ↓sop, ↓aop, ↓reduceIte, LV.cells, AOp.dst, LV.I, LV.B, LV.U, LV.S, LV.nil, Nat.reduceEqDiff, Nat.reduceAdd, Nat.reduceMul, Nat.reduceSub, Nat.reduceLeDiff, Nat.reduceBEq, Nat.reduceDiv, Nat.reduceMod, Int.reduceToNat, Int.reduceLT, Int.reduceLE, Int.reduceAdd, Int.reduceSub, Int.reduceMul, Int.reduceEq, Int.reduceNeg, reduceCtorEq, resV, resAll, ARes.ev, LV.flat, ite_true, ite_false, exists_eq_left', exists_eq_left, keyOf, implies_true, fillC, capOf]
  have B20 : Live (N9 ++ [some (.row [.I x4, .I y4, .I z4, .ref u4 0 c4.length] true 0), some (.row [.I x5, .I y5, .I z5, .ref u5 0 c5.length] true 0)]) N9.length (.row [.I x4, .I y4, .I z4, .ref u4 0 c4.length] true 0) := Live.new
  have B21 : Live (N9 ++ [some (.row [.I x4, .I y4, .I z4, .ref u4 0 c4.length] true 0), some (.row [.I x5, .I y5, .I z5, .ref u5 0 c5.length] true 0)]) (N9.length + 1) (.row [.I x5, .I y5, .I z5, .ref u5 0 c5.length] true 0) := Live.newj (j := 1) rfl
  have T4 := hu4.app (L := [some (.row [.I x4, .I y4, .I z4, .ref u4 0 c4.length] true 0), some (.row [.I x5, .I y5, .I z5, .ref u5 0 c5.length] true 0)])
  have T5 := hu5.app (L := [some (.row [.I x4, .I y4, .I z4, .ref u4 0 c4.length] true 0), some (.row [.I x5, .I y5, .I z5, .ref u5 0 c5.length] true 0)])
  have q9 : Pre W8 (N9 ++ [some (.row [.I x4, .I y4, .I z4, .ref u4 0 c4.length] true 0), some (.row [.I x5, .I y5, .I z5, .ref u5 0 c5.length] true 0)]) := hp9.trans (Pre.app _ _)
  generalize N9.length = m20 at B20 B21 ⊢
  generalize N9 ++ [some (Blk.row [.I x4, .I y4, .I z4, .ref u4 0 c4.length] true 0), some (.row [.I x5, .I y5, .I z5, .ref u5 0 c5.length] true 0)] = W9 at B20 B21 T4 T5 q9 ⊢
  have hg : ∀ {M : Mem}, Live M u4 (.row (triL c4) true 3) → Live M u5 (.row (triL c5) true 3) → CallsR PG F.impl_JoinHeaps [.agg [.I x4, .I y4, .I z4, .ref u4 0 c4.length], .agg [.I x5, .I y5, .I z5, .ref u5 0 c5.length]] M (HeapQ M ((jnOf x4 y4 z4 c4 x5 y5 z5 c5).getD Hp.none).x ((jnOf x4 y4 z4 c4 x5 y5 z5 c5).getD Hp.none).y ((jnOf x4 y4 z4 c4 x5 y5 z5 c5).getD Hp.none).z ((jnOf x4 y4 z4 c4 x5 y5 z5 c5).getD Hp.none).cs (jnOf x4 y4 z4 c4 x5 y5 z5 c5).isSome) := fun h0 h1 => g_JoinHeapsX h0 (by omega) h1 (by omega)
  have hs : ∀ {M : Mem}, Live M u4 (.row (triL c4) true 3) → Live M u5 (.row (triL c5) true 3) → CallsR PG F.spec_JoinHeaps [.agg [.I x4, .I y4, .I z4, .ref u4 0 c4.length], .agg [.I x5, .I y5, .I z5, .ref u5 0 c5.length]] M (HeapQ M ((jnOf x4 y4 z4 c4 x5 y5 z5 c5).getD Hp.none).x ((jnOf x4 y4 z4 c4 x5 y5 z5 c5).getD Hp.none).y ((jnOf x4 y4 z4 c4 x5 y5 z5 c5).getD Hp.none).z ((jnOf x4 y4 z4 c4 x5 y5 z5 c5).getD Hp.none).cs (jnOf x4 y4 z4 c4 x5 y5 z5 c5).isSome) := fun h0 h1 => h_sJoinHeaps h0 (by omega) h1 (by omega)
  have L4 := jnOf_law x4 y4 z4 c4 x5 y5 z5 c5
  generalize hG4 : (jnOf x4 y4 z4 c4 x5 y5 z5 c5).getD Hp.none = G4 at hg hs L4
  generalize hb4 : (jnOf x4 y4 z4 c4 x5 y5 z5 c5).isSome = b4 at hg hs L4
  refine callR_of (hg T4 T5) ?_
  rintro _ N10 ⟨uP4, rfl, huP4, hp10⟩
  have B22 : Live (N10 ++ [some (.row [.I G4.x, .I G4.y, .I G4.z, .ref uP4 0 G4.cs.length] true 0)]) N10.length (.row [.I G4.x, .I G4.y, .I G4.z, .ref uP4 0 G4.cs.length] true 0) := Live.new
  have U22 := huP4.app (L := [some (.row [.I G4.x, .I G4.y, .I G4.z, .ref uP4 0 G4.cs.length] true 0)])
  have q10 : Pre W9 (N10 ++ [some (.row [.I G4.x, .I G4.y, .I G4.z, .ref uP4 0 G4.cs.length] true 0)]) := hp10.trans (Pre.app _ _)
  have eB20 := B20.pre q10
  have eB21 := B21.pre q10
  simp (disch := omega) only [f0, f3, f4, f5, f6, f9, f13, f14, f15, f16, f17, splice, eB20.cells, eB21.cells, ↓SXd, SXu, slBounds, ↓sop, ↓aop, ↓reduceIte, LV.cells, AOp.dst, LV.I, LV.B, LV.U, LV.S, LV.nil, Nat.reduceEqDiff, Nat.reduceAdd, Nat.reduceMul, Nat.reduceSub, Nat.reduceLeDiff, Nat.reduceBEq, Nat.reduceDiv, Nat.reduceMod, Int.reduceToNat, Int.reduceLT, Int.reduceLE, Int.reduceAdd, Int.reduceSub, Int.reduceMul, Int.reduceEq, Int.reduceNeg, reduceCtorEq, resV, resAll, ARes.ev, LV.flat, ite_true, ite_false, exists_eq_left', exists_eq_left, keyOf, implies_true, fillC, capOf]
  generalize N10.length = m22 at B22 ⊢
  generalize N10 ++ [some (Blk.row [.I G4.x, .I G4.y, .I G4.z, .ref uP4 0 G4.cs.length] true 0)] = W10 at B22 U22 q10 eB20 eB21 ⊢
  refine callR_of (hs (T4.pre (q10)) (T5.pre (q10))) ?_
  rintro _ N11 ⟨uS4, rfl, huS4, hp11⟩
  have B24 : Live (N11 ++ [some (.row [.I G4.x, .I G4.y, .I G4.z, .ref uS4 0 G4.cs.length] true 0)]) N11.length (.row [.I G4.x, .I G4.y, .I G4.z, .ref uS4 0 G4.cs.length] true 0) := Live.new
  have U24 := huS4.app (L := [some (.row [.I G4.x, .I G4.y, .I G4.z, .ref uS4 0 G4.cs.length] true 0)])
  have q11 : Pre W10 (N11 ++ [some (.row [.I G4.x, .I G4.y, .I G4.z, .ref uS4 0 G4.cs.length] true 0)]) := hp11.trans (Pre.app _ _)
  have eB22 := B22.pre q11
  simp (disch := omega) only [f0, f3, f4, f5, f6, f9, f13, f14, f15, f16, f17, splice, eB22.cells, beq_self_eq_true, Bool.not_true, ↓SXd, SXu, slBounds, ↓sop, ↓aop, ↓reduceIte, LV.cells, AOp.dst, LV.I, LV.B, LV.U, LV.S, LV.nil, Nat.reduceEqDiff, Nat.reduceAdd, Nat.reduceMul, Nat.reduceSub, Nat.reduceLeDiff, Nat.reduceBEq, Nat.reduceDiv, Nat.reduceMod, Int.reduceToNat, Int.reduceLT, Int.reduceLE, Int.reduceAdd, Int.reduceSub, Int.reduceMul, Int.reduceEq, Int.reduceNeg, reduceCtorEq, resV, resAll, ARes.ev, LV.flat, ite_true, ite_false, exists_eq_left', exists_eq_left, keyOf, implies_true, fillC, capOf]
  generalize N11.length = m24 at B24 ⊢
  generalize N11 ++ [some (Blk.row [.I G4.x, .I G4.y, .I G4.z, .ref uS4 0 G4.cs.length] true 0)] = W11 at B24 U24 q11 eB22 ⊢
  have rh := k_rHeap (g := G4) (h := G4) (CellsV.of (U22.pre (q11)).has) (CellsV.of U24.has) (by omega) (by omega)
  rw [decide_eq_true (⟨rfl, rfl⟩ : G4.dims = G4.dims ∧ G4.cs = G4.cs)] at rh
  refine callK_of rh ?_
  refine put_cut (fun fr' M' => M' = W11 ∧ fr' 0 = .ref t 0 bs.length ∧ fr' 3 = .ptr m3 0 ∧ fr' 4 = .I d ∧ fr' 5 = .ptr m5 0 ∧ fr' 6 = .B b1 ∧ fr' 9 = .ptr m9 0 ∧ fr' 13 = .ptr m13 0 ∧ fr' 14 = .I a ∧ fr' 15 = .I b ∧ fr' 16 = .ptr m16 0 ∧ fr' 17 = .B b3 ∧ fr' 20 = .ptr m20 0 ∧ fr' 21 = .ptr (m20 + 1) 0 ∧ fr' 22 = .ptr m22 0 ∧ fr' 23 = .B b4) ?_ ?_
  · simp (disch := omega) only [f0, f3, f4, f5, f6, f9, f13, f14, f15, f16, f17, Bool.not_true, ↓SXd, SXu, slBounds, ↓sop, ↓aop, ↓reduceIte, LV.cells, AOp.dst, LV.I, LV.B, LV.U, LV.S, LV.nil, Nat.reduceEqDiff, Nat.reduceAdd, Nat.reduceMul, Nat.reduceSub, Nat.reduceLeDiff, Nat.reduceBEq, Nat.reduceDiv, Nat.reduceMod, Int.reduceToNat, Int.reduceLT, Int.reduceLE, Int.reduceAdd, Int.reduceSub, Int.reduceMul, Int.reduceEq, Int.reduceNeg, reduceCtorEq, resV, resAll, ARes.ev, LV.flat, ite_true, ite_false, exists_eq_left', exists_eq_left, keyOf, implies_true, fillC, capOf]
    all_goals exact ⟨rfl, by first | rfl | assumption, by first | rfl | assumption, by first | rfl | assumption, by first | rfl | assumption, by first | rfl | assumption, by first | rfl | assumption, by first | rfl | assumption, by first | rfl | assumption, by first | rfl | assumption, by first | rfl | assumption, by first | rfl | assumption, by first | rfl | assumption, by first | rfl | assumption, by first | rfl | assumption, by first | rfl | assumption⟩
  rintro fr W11 ⟨rfl, f0, f3, f4, f5, f6, f9, f13, f14, f15, f16, f17, f20, f21, f22, f23⟩
  simp (disch := omega) only [f0, f3, f4, f5, f6, f9, f13, f14, f15, f16, f17, f20, f21, f22, f23, (B20.pre (q10.trans q11)).cells, (B21.pre (q10.trans q11)).cells, ↓SXd, SXu, slBounds, ↓sop, ↓aop, ↓reduceIte, LV.cells, AOp.dst, LV.I, LV.B, LV.U, LV.S, LV.nil, Nat.reduceEqDiff, Nat.reduceAdd, Nat.reduceMul, Nat.reduceSub, Nat.reduceLeDiff, Nat.reduceBEq, Nat.reduceDiv, Nat.reduceMod, Int.reduceToNat, Int.reduceLT, Int.reduceLE, Int.reduceAdd, Int.reduceSub, Int.reduceMul, Int.reduceEq, Int.reduceNeg, reduceCtorEq, resV, resAll, ARes.ev, LV.flat, ite_true, ite_false, exists_eq_left', exists_eq_left, keyOf, implies_true, fillC, capOf]
  have hg : ∀ {M : Mem}, Live M u4 (.row (triL c4) true 3) → Live M u5 (.row (triL c5) true 3) → CallsR PG F.impl_CommonCubes [.agg [.I x4, .I y4, .I z4, .ref u4 0 c4.length], .agg [.I x5, .I y5, .I z5, .ref u5 0 c5.length]] M (HeapQ M ((cmOf x4 y4 z4 c4 x5 y5 z5 c5).getD Hp.none).x ((cmOf x4 y4 z4 c4 x5 y5 z5 c5).getD Hp.none).y ((cmOf x4 y4 z4 c4 x5 y5 z5 c5).getD Hp.none).z ((cmOf x4 y4 z4 c4 x5 y5 z5 c5).getD Hp.none).cs (cmOf x4 y4 z4 c4 x5 y5 z5 c5).isSome) := fun h0 h1 => g_CommonCubesX h0 (by omega) h1 (by omega)
  have hs : ∀ {M : Mem}, Live M u4 (.row (triL c4) true 3) → Live M u5 (.row (triL c5) true 3) → CallsR PG F.spec_CommonCubes [.agg [.I x4, .I y4, .I z4, .ref u4 0 c4.length], .agg [.I x5, .I y5, .I z5, .ref u5 0 c5.length]] M (HeapQ M ((cmOf x4 y4 z4 c4 x5 y5 z5 c5).getD Hp.none).x ((cmOf x4 y4 z4 c4 x5 y5 z5 c5).getD Hp.none).y ((cmOf x4 y4 z4 c4 x5 y5 z5 c5).getD Hp.none).z ((cmOf x4 y4 z4 c4 x5 y5 z5 c5).getD Hp.none).cs (cmOf x4 y4 z4 c4 x5 y5 z5 c5).isSome) := fun h0 h1 => h_sCommonCubes h0 (by omega) h1 (by omega)
  have L5 := cmOf_law x4 y4 z4 c4 x5 y5 z5 c5
  rw [(alike_some x4 y4 z4 c4 x5 y5 z5 c5).trans hb4] at hg hs L5
  generalize hG5 : (cmOf x4 y4 z4 c4 x5 y5 z5 c5).getD Hp.none = G5 at hg hs L5
  refine callR_of (hg (T4.pre (q10.trans q11)) (T5.pre (q10.trans q11))) ?_
  rintro _ N12 ⟨uP5, rfl, huP5, hp12⟩
  have B26 : Live (N12 ++ [some (.row [.I G5.x, .I G5.y, .I G5.z, .ref uP5 0 G5.cs.length] true 0)]) N12.length (.row [.I G5.x, .I G5.y, .I G5.z, .ref uP5 0 G5.cs.length] true 0) := Live.new
  have U26 := huP5.app (L := [some (.row [.I G5.x, .I G5.y, .I G5.z, .ref uP5 0 G5.cs.length] true 0)])
  have q12 : Pre W11 (N12 ++ [some (.row [.I G5.x, .I G5.y, .I G5.z, .ref uP5 0 G5.cs.length] true 0)]) := hp12.trans (Pre.app _ _)
  have eB20 := B20.pre ((q10.trans q11).trans q12)
  have eB21 := B21.pre ((q10.trans q11).trans q12)
  simp (disch := omega) only [f0, f3, f4, f5, f6, f9, f13, f14, f15, f16, f17, f20, f21, f22, f23, splice, eB20.cells, eB21.cells, ↓SXd, SXu, slBounds, ↓sop, ↓aop, ↓reduceIte, LV.cells, AOp.dst, LV.I, LV.B, LV.U, LV.S, LV.nil, Nat.reduceEqDiff, Nat.reduceAdd, Nat.reduceMul, Nat.reduceSub, Nat.reduceLeDiff, Nat.reduceBEq, Nat.reduceDiv, Nat.reduceMod, Int.reduceToNat, Int.reduceLT, Int.reduceLE, Int.reduceAdd, Int.reduceSub, Int.reduceMul, Int.reduceEq, Int.reduceNeg, reduceCtorEq, resV, resAll, ARes.ev, LV.flat, ite_true, ite_false, exists_eq_left', exists_eq_left, keyOf, implies_true, fillC, capOf]
  generalize N12.length = m26 at B26 ⊢
  generalize N12 ++ [some (Blk.row [.I G5.x, .I G5.y, .I G5.z, .ref uP5 0 G5.cs.length] true 0)] = W12 at B26 U26 q12 eB20 eB21 ⊢
  refine callR_of (hs (T4.pre (q10.trans (q11.trans q12))) (T5.pre (q10.trans (q11.trans q12)))) ?_
  rintro _ N13 ⟨uS5, rfl, huS5, hp13⟩
  have B28 : Live (N13 ++ [some (.row [.I G5.x, .I G5.y, .I G5.z, .ref uS5 0 G5.cs.length] true 0)]) N13.length (.row [.I G5.x, .I G5.y, .I G5.z, .ref uS5 0 G5.cs.length] true 0) := Live.new
  have U28 := huS5.app (L := [some (.row [.I G5.x, .I G5.y, .I G5.z, .ref uS5 0 G5.cs.length] true 0)])
  have q13 : Pre W12 (N13 ++ [some (.row [.I G5.x, .I G5.y, .I G5.z, .ref uS5 0 G5.cs.length] true 0)]) := hp13.trans (Pre.app _ _)
  have eB26 := B26.pre q13
  simp (disch := omega) only [f0, f3, f4, f5, f6, f9, f13, f14, f15, f16, f17, f20, f21, f22, f23, splice, eB26.cells, beq_self_eq_true, Bool.not_true, ↓SXd, SXu, slBounds, ↓sop, ↓aop, ↓reduceIte, LV.cells, AOp.dst, LV.I, LV.B, LV.U, LV.S, LV.nil, Nat.reduceEqDiff, Nat.reduceAdd, Nat.reduceMul, Nat.reduceSub, Nat.reduceLeDiff, Nat.reduceBEq, Nat.reduceDiv, Nat.reduceMod, Int.reduceToNat, Int.reduceLT, Int.reduceLE, Int.reduceAdd, Int.reduceSub, Int.reduceMul, Int.reduceEq, Int.reduceNeg, reduceCtorEq, resV, resAll, ARes.ev, LV.flat, ite_true, ite_false, exists_eq_left', exists_eq_left, keyOf, implies_true, fillC, capOf]
  generalize N13.length = m28 at B28 ⊢
  generalize N13 ++ [some (Blk.row [.I G5.x, .I G5.y, .I G5.z, .ref uS5 0 G5.cs.length] true 0)] = W13 at B28 U28 q13 eB26 ⊢
  have rh := k_rHeap (g := G5) (h := G5) (CellsV.of (U26.pre (q13)).has) (CellsV.of U28.has) (by omega) (by omega)
  rw [decide_eq_true (⟨rfl, rfl⟩ : G5.dims = G5.dims ∧ G5.cs = G5.cs)] at rh
  refine callK_of rh ?_
  refine put_cut (fun fr' M' => M' = W13 ∧ fr' 0 = .ref t 0 bs.length ∧ fr' 3 = .ptr m3 0 ∧ fr' 4 = .I d ∧ fr' 5 = .ptr m5 0 ∧ fr' 6 = .B b1 ∧ fr' 9 = .ptr m9 0 ∧ fr' 13 = .ptr m13 0 ∧ fr' 14 = .I a ∧ fr' 15 = .I b ∧ fr' 16 = .ptr m16 0 ∧ fr' 17 = .B b3 ∧ fr' 20 = .ptr m20 0 ∧ fr' 21 = .ptr (m20 + 1) 0 ∧ fr' 22 = .ptr m22 0 ∧ fr' 23 = .B b4 ∧ fr' 26 = .ptr m26 0) ?_ ?_
  · simp (disch := omega) only [f0, f3, f4, f5, f6, f9, f13, f14, f15, f16, f17, f20, f21, f22, f23, Bool.not_true, ↓SXd, SXu, slBounds, ↓sop, ↓aop, ↓reduceIte, LV.cells, AOp.dst, LV.I, LV.B, LV.U, LV.S, LV.nil, Nat.reduceEqDiff, Nat.reduceAdd, Nat.reduceMul, Nat.reduceSub, Nat.reduceLeDiff, Nat.reduceBEq, Nat.reduceDiv, Nat.reduceMod, Int.reduceToNat, Int.reduceLT, Int.reduceLE, Int.reduceAdd, Int.reduceSub, Int.reduceMul, Int.reduceEq, Int.reduceNeg, reduceCtorEq, resV, resAll, ARes.ev, LV.flat, ite_true, ite_false, exists_eq_left', exists_eq_left, keyOf, implies_true, fillC, capOf]
    all_goals exact ⟨rfl, by first | rfl | assumption, by first | rfl | assumption, by first | rfl | assumption, by first | rfl | assumption, by first | rfl | assumption, by first | rfl | assumption, by first | rfl | assumption, by first | rfl | assumption, by first | rfl | assumption, by first | rfl | assumption, by first | rfl | assumption, by first | rfl | assumption, by first | rfl | assumption, by first | rfl | assumption, by first | rfl | assumption, by first | rfl | assumption⟩
  rintro fr W13 ⟨rfl, f0, f3, f4, f5, f6, f9, f13, f14, f15, f16, f17, f20, f21, f22, f23, f26⟩
  simp (disch := omega) only [f0, f3, f4, f5, f6, f9, f13, f14, f15, f16, f17, f20, f21, f22, f23, f26, ↓SXd, SXu, slBounds, ↓sop, ↓aop, ↓reduceIte, LV.cells, AOp.dst, LV.I, LV.B, LV.U, LV.S, LV.nil, Nat.reduceEqDiff, Nat.reduceAdd, Nat.reduceMul, Nat.reduceSub, Nat.reduceLeDiff, Nat.reduceBEq, Nat.reduceDiv, Nat.reduceMod, Int.reduceToNat, Int.reduceLT, Int.reduceLE, Int.reduceAdd, Int.reduceSub, Int.reduceMul, Int.reduceEq, Int.reduceNeg, reduceCtorEq, resV, resAll, ARes.ev, LV.flat, ite_true, ite_false, exists_eq_left', exists_eq_left, keyOf, implies_true, fillC, capOf]
  refine callR_of (d_DrawShiftHeap (h.pre (q1.trans (q2.trans (q3.trans (q4.trans (q5.trans (q6.trans (q7.trans (q8.trans (q9.trans (q10.trans (q11.trans (q12.trans q13))))))))))))) hn.2 hl) ?_
  rintro _ N14 ⟨⟨_, p, rfl, x6, y6, z6, c6, u6, rfl, hu6, hul6, hcl6⟩, hp14⟩
  simp (disch := omega) only [f0, f3, f4, f5, f6, f9, f13, f14, f15, f16, f17, f20, f21, f22, f23, f26, splice, ↓SXd, SXu, slBounds, ↓sop, ↓aop, ↓reduceIte, LV.cells, AOp.dst, LV.I, LV.B, LV.U, LV.S, LV.nil, Nat.reduceEqDiff, Nat.reduceAdd, Nat.reduceMul, Nat.reduceSub, Nat.reduceLeDiff, Nat.reduceBEq, Nat.reduceDiv, Nat.reduceMod, Int.reduceToNat, Int.reduceLT, Int.reduceLE, Int.reduceAdd, Int.reduceSub, Int.reduceMul, Int.reduceEq, Int.reduceNeg, reduceCtorEq, resV, resAll, ARes.ev, LV.flat, ite_true, ite_false, exists_eq_left', exists_eq_left, keyOf, implies_true, fillC, capOf]
  have B30 : Live (N14 ++ [some (.row [.I x6, .I y6, .I z6, .ref u6 0 c6.length] true 0), some (.row [.I p.a, .I p.b, .I p.c] true 0)]) N14.length (.row [.I x6, .I y6, .I z6, .ref u6 0 c6.length] true 0) := Live.new
  have B31 : Live (N14 ++ [some (.row [.I x6, .I y6, .I z6, .ref u6 0 c6.length] true 0), some (.row [.I p.a, .I p.b, .I p.c] true 0)]) (N14.length + 1) (.row [.I p.a, .I p.b, .I p.c] true 0) := Live.newj (j := 1) rfl
  have T6 := hu6.app (L := [some (.row [.I x6, .I y6, .I z6, .ref u6 0 c6.length] true 0), some (.row [.I p.a, .I p.b, .I p.c] true 0)])
  have q14 : Pre W13 (N14 ++ [some (.row [.I x6, .I y6, .I z6, .ref u6 0 c6.length] true 0), some (.row [.I p.a, .I p.b, .I p.c] true 0)]) := hp14.trans (Pre.app _ _)
  generalize N14.length = m30 at B30 B31 ⊢
  generalize N14 ++ [some (Blk.row [.I x6, .I y6, .I z6, .ref u6 0 c6.length] true 0), some (.row [.I p.a, .I p.b, .I p.c] true 0)] = W14 at B30 B31 T6 q14 ⊢
  have hg : ∀ {M : Mem}, Live M u6 (.row (triL c6) true 3) → CallsR PG F.impl_ShiftHeap [.agg [.I x6, .I y6, .I z6, .ref u6 0 c6.length], .agg [.I p.a, .I p.b, .I p.c]] M (HeapQ M ((shOf x6 y6 z6 c6 p).getD Hp.none).x ((shOf x6 y6 z6 c6 p).getD Hp.none).y ((shOf x6 y6 z6 c6 p).getD Hp.none).z ((shOf x6 y6 z6 c6 p).getD Hp.none).cs (shOf x6 y6 z6 c6 p).isSome) := fun h0 => g_ShiftHeapX h0 (by omega)
  have hs : ∀ {M : Mem}, Live M u6 (.row (triL c6) true 3) → CallsR PG F.spec_ShiftHeap [.agg [.I x6, .I y6, .I z6, .ref u6 0 c6.length], .agg [.I p.a, .I p.b, .I p.c]] M (HeapQ M ((shOf x6 y6 z6 c6 p).getD Hp.none).x ((shOf x6 y6 z6 c6 p).getD Hp.none).y ((shOf x6 y6 z6 c6 p).getD Hp.none).z ((shOf x6 y6 z6 c6 p).getD Hp.none).cs (shOf x6 y6 z6 c6 p).isSome) := fun h0 => h_sShiftHeap h0 (by omega)
  have L6 := shOf_law x6 y6 z6 c6 p
  generalize hG6 : (shOf x6 y6 z6 c6 p).getD Hp.none = G6 at hg hs L6
  generalize hb6 : (shOf x6 y6 z6 c6 p).isSome = b6 at hg hs L6
  refine callR_of (hg T6) ?_
  rintro _ N15 ⟨uP6, rfl, huP6, hp15⟩
  have B32 : Live (N15 ++ [some (.row [.I G6.x, .I G6.y, .I G6.z, .ref uP6 0 G6.cs.length] true 0)]) N15.length (.row [.I G6.x, .I G6.y, .I G6.z, .ref uP6 0 G6.cs.length] true 0) := Live.new
  have U32 := huP6.app (L := [some (.row [.I G6.x, .I G6.y, .I G6.z, .ref uP6 0 G6.cs.length] true 0)])
  have q15 : Pre W14 (N15 ++ [some (.row [.I G6.x, .I G6.y, .I G6.z, .ref uP6 0 G6.cs.length] true 0)]) := hp15.trans (Pre.app _ _)
  have eB30 := B30.pre q15
  have eB31 := B31.pre q15
  simp (disch := omega) only [f0, f3, f4, f5, f6, f9, f13, f14, f15, f16, f17, f20, f21, f22, f23, f26, splice, eB30.cells, eB31.cells, ↓SXd, SXu, slBounds, ↓sop, ↓aop, ↓reduceIte, LV.cells, AOp.dst, LV.I, LV.B, LV.U, LV.S, LV.nil, Nat.reduceEqDiff, Nat.reduceAdd, Nat.reduceMul, Nat.reduceSub, Nat.reduceLeDiff, Nat.reduceBEq, Nat.reduceDiv, Nat.reduceMod, Int.reduceToNat, Int.reduceLT, Int.reduceLE, Int.reduceAdd, Int.reduceSub, Int.reduceMul, Int.reduceEq, Int.reduceNeg, reduceCtorEq, resV, resAll, ARes.ev, LV.flat, ite_true, ite_false, exists_eq_left', exists_eq_left, keyOf, implies_true, fillC, capOf]
  generalize N15.length = m32 at B32 ⊢
  generalize N15 ++ [some (Blk.row [.I G6.x, .I G6.y, .I G6.z, .ref uP6 0 G6.cs.length] true 0)] = W15 at B32 U32 q15 eB30 eB31 ⊢
  refine callR_of (hs (T6.pre (q15))) ?_
  rintro _ N16 ⟨uS6, rfl, huS6, hp16⟩
  have B34 : Live (N16 ++ [some (.row [.I G6.x, .I G6.y, .I G6.z, .ref uS6 0 G6.cs.length] true 0)]) N16.length (.row [.I G6.x, .I G6.y, .I G6.z, .ref uS6 0 G6.cs.length] true 0) := Live.new
  have U34 := huS6.app (L := [some (.row [.I G6.x, .I G6.y, .I G6.z, .ref uS6 0 G6.cs.length] true 0)])
  have q16 : Pre W15 (N16 ++ [some (.row [.I G6.x, .I G6.y, .I G6.z, .ref uS6 0 G6.cs.length] true 0)]) := hp16.trans (Pre.app _ _)
  have eB32 := B32.pre q16
  simp (disch := omega) only [f0, f3, f4, f5, f6, f9, f13, f14, f15, f16, f17, f20, f21, f22, f23, f26, splice, eB32.cells, beq_self_eq_true, Bool.not_true, ↓SXd, SXu, slBounds, ↓sop, ↓aop, ↓reduceIte, LV.cells, AOp.dst, LV.I, LV.B, LV.U, LV.S, LV.nil, Nat.reduceEqDiff, Nat.reduceAdd, Nat.reduceMul, Nat.reduceSub, Nat.reduceLeDiff, Nat.reduceBEq, Nat.reduceDiv, Nat.reduceMod, Int.reduceToNat, Int.reduceLT, Int.reduceLE, Int.reduceAdd, Int.reduceSub, Int.reduceMul, Int.reduceEq, Int.reduceNeg, reduceCtorEq, resV, resAll, ARes.ev, LV.flat, ite_true, ite_false, exists_eq_left', exists_eq_left, keyOf, implies_true, fillC, capOf]
  generalize N16.length = m34 at B34 ⊢
  generalize N16 ++ [some (Blk.row [.I G6.x, .I G6.y, .I G6.z, .ref uS6 0 G6.cs.length] true 0)] = W16 at B34 U34 q16 eB32 ⊢
  have rh := k_rHeap (g := G6) (h := G6) (CellsV.of (U32.pre (q16)).has) (CellsV.of U34.has) (by omega) (by omega)
  rw [decide_eq_true (⟨rfl, rfl⟩ : G6.dims = G6.dims ∧ G6.cs = G6.cs)] at rh
  refine callK_of rh ?_
  refine put_cut (fun fr' M' => M' = W16 ∧ fr' 0 = .ref t 0 bs.length ∧ fr' 3 = .ptr m3 0 ∧ fr' 4 = .I d ∧ fr' 5 = .ptr m5 0 ∧ fr' 6 = .B b1 ∧ fr' 9 = .ptr m9 0 ∧ fr' 13 = .ptr m13 0 ∧ fr' 14 = .I a ∧ fr' 15 = .I b ∧ fr' 16 = .ptr m16 0 ∧ fr' 17 = .B b3 ∧ fr' 20 = .ptr m20 0 ∧ fr' 21 = .ptr (m20 + 1) 0 ∧ fr' 22 = .ptr m22 0 ∧ fr' 23 = .B b4 ∧ fr' 26 = .ptr m26 0 ∧ fr' 30 = .ptr m30 0 ∧ fr' 31 = .ptr (m30 + 1) 0 ∧ fr' 32 = .ptr m32 0 ∧ fr' 33 = .B b6) ?_ ?_
  · simp (disch := omega) only [f0, f3, f4, f5, f6, f9, f13, f14, f15, f16, f17, f20, f21, f22, f23, f26, Bool.not_true, ↓SXd, SXu, slBounds, ↓sop, ↓aop, ↓reduceIte, LV.cells, AOp.dst, LV.I, LV.B, LV.U, LV.S, LV.nil, Nat.reduceEqDiff, Nat.reduceAdd, Nat.reduceMul, Nat.reduceSub, Nat.reduceLeDiff, Nat.reduceBEq, Nat.reduceDiv, Nat.reduceMod, Int.reduceToNat, Int.reduceLT, Int.reduceLE, Int.reduceAdd, Int.reduceSub, Int.reduceMul, Int.reduceEq, Int.reduceNeg, reduceCtorEq, resV, resAll, ARes.ev, LV.flat, ite_true, ite_false, exists_eq_left', exists_eq_left, keyOf, implies_true, fillC, capOf]
    all_goals exact ⟨rfl, by first | rfl | assumption, by first | rfl | assumption, by first | rfl | assumption, by first | rfl | assumption, by first | rfl | assumption, by first | rfl | assumption, by first | rfl | assumption, by first | rfl | assumption, by first | rfl | assumption, by first | rfl | assumption, by first | rfl | assumption, by first | rfl | assumption, by first | rfl | assumption, by first | rfl | assumption, by first | rfl | assumption, by first | rfl | assumption, by first | rfl | assumption, by first | rfl | assumption, by first | rfl | assumption, by first | rfl | assumption⟩
  rintro fr W16 ⟨rfl, f0, f3, f4, f5, f6, f9, f13, f14, f15, f16, f17, f20, f21, f22, f23, f26, f30, f31, f32, f33⟩
  simp (disch := omega) only [f0, f3, f4, f5, f6, f9, f13, f14, f15, f16, f17, f20, f21, f22, f23, f26, f30, f31, f32, f33, (B30.pre (q15.trans q16)).cells, ↓SXd, SXu, slBounds, ↓sop, ↓aop, ↓reduceIte, LV.cells, AOp.dst, LV.I, LV.B, LV.U, LV.S, LV.nil, Nat.reduceEqDiff, Nat.reduceAdd, Nat.reduceMul, Nat.reduceSub, Nat.reduceLeDiff, Nat.reduceBEq, Nat.reduceDiv, Nat.reduceMod, Int.reduceToNat, Int.reduceLT, Int.reduceLE, Int.reduceAdd, Int.reduceSub, Int.reduceMul, Int.reduceEq, Int.reduceNeg, reduceCtorEq, resV, resAll, ARes.ev, LV.flat, ite_true, ite_false, exists_eq_left', exists_eq_left, keyOf, implies_true, fillC, capOf]
  have hg : ∀ {M : Mem}, Live M u6 (.row (triL c6) true 3) → CallsR PG F.impl_CropHeap [.agg [.I x6, .I y6, .I z6, .ref u6 0 c6.length]] M (HeapQ M ((crOf x6 y6 z6 c6).getD Hp.none).x ((crOf x6 y6 z6 c6).getD Hp.none).y ((crOf x6 y6 z6 c6).getD Hp.none).z ((crOf x6 y6 z6 c6).getD Hp.none).cs (crOf x6 y6 z6 c6).isSome) := fun h0 => g_CropHeapX h0 (by omega)
  have hs : ∀ {M : Mem}, Live M u6 (.row (triL c6) true 3) → CallsR PG F.spec_CropHeap [.agg [.I x6, .I y6, .I z6, .ref u6 0 c6.length]] M (HeapQ M ((crOf x6 y6 z6 c6).getD Hp.none).x ((crOf x6 y6 z6 c6).getD Hp.none).y ((crOf x6 y6 z6 c6).getD Hp.none).z ((crOf x6 y6 z6 c6).getD Hp.none).cs (crOf x6 y6 z6 c6).isSome) := fun h0 => h_sCropHeap h0 (by omega)
  have L7 := crOf_law x6 y6 z6 c6
  generalize hG7 : (crOf x6 y6 z6 c6).getD Hp.none = G7 at hg hs L7
  generalize hb7 : (crOf x6 y6 z6 c6).isSome = b7 at hg hs L7
  refine callR_of (hg (T6.pre (q15.trans q16))) ?_
  rintro _ N17 ⟨uP7, rfl, huP7, hp17⟩
  have B36 : Live (N17 ++ [some (.row [.I G7.x, .I G7.y, .I G7.z, .ref uP7 0 G7.cs.length] true 0)]) N17.length (.row [.I G7.x, .I G7.y, .I G7.z, .ref uP7 0 G7.cs.length] true 0) := Live.new
  have U36 := huP7.app (L := [some (.row [.I G7.x, .I G7.y, .I G7.z, .ref uP7 0 G7.cs.length] true 0)])
  have q17 : Pre W16 (N17 ++ [some (.row [.I G7.x, .I G7.y, .I G7.z, .ref uP7 0 G7.cs.length] true 0)]) := hp17.trans (Pre.app _ _)
  have eB30 := B30.pre ((q15.trans q16).trans q17)
  simp (disch := omega) only [f0, f3, f4, f5, f6, f9, f13, f14, f15, f16, f17, f20, f21, f22, f23, f26, f30, f31, f32, f33, splice, eB30.cells, ↓SXd, SXu, slBounds, ↓sop, ↓aop, ↓reduceIte, LV.cells, AOp.dst, LV.I, LV.B, LV.U, LV.S, LV.nil, Nat.reduceEqDiff, Nat.reduceAdd, Nat.reduceMul, Nat.reduceSub, Nat.reduceLeDiff, Nat.reduceBEq, Nat.reduceDiv, Nat.reduceMod, Int.reduceToNat, Int.reduceLT, Int.reduceLE, Int.reduceAdd, Int.reduceSub, Int.reduceMul, Int.reduceEq, Int.reduceNeg, reduceCtorEq, resV, resAll, ARes.ev, LV.flat, ite_true, ite_false, exists_eq_left', exists_eq_left, keyOf, implies_true, fillC, capOf]
  generalize N17.length = m36 at B36 ⊢
  generalize N17 ++ [some (Blk.row [.I G7.x, .I G7.y, .I G7.z, .ref uP7 0 G7.cs.length] true 0)] = W17 at B36 U36 q17 eB30 ⊢
  refine callR_of (hs (T6.pre (q15.trans (q16.trans q17)))) ?_
  rintro _ N18 ⟨uS7, rfl, huS7, hp18⟩
  have B38 : Live (N18 ++ [some (.row [.I G7.x, .I G7.y, .I G7.z, .ref uS7 0 G7.cs.length] true 0)]) N18.length (.row [.I G7.x, .I G7.y, .I G7.z, .ref uS7 0 G7.cs.length] true 0) := Live.new
  have U38 := huS7.app (L := [some (.row [.I G7.x, .I G7.y, .I G7.z, .ref uS7 0 G7.cs.length] true 0)])
  have q18 : Pre W17 (N18 ++ [some (.row [.I G7.x, .I G7.y, .I G7.z, .ref uS7 0 G7.cs.length] true 0)]) := hp18.trans (Pre.app _ _)
  have eB36 := B36.pre q18
  simp (disch := omega) only [f0, f3, f4, f5, f6, f9, f13, f14, f15, f16, f17, f20, f21, f22, f23, f26, f30, f31, f32, f33, splice, eB36.cells, beq_self_eq_true, Bool.not_true, ↓SXd, SXu, slBounds, ↓sop, ↓aop, ↓reduceIte, LV.cells, AOp.dst, LV.I, LV.B, LV.U, LV.S, LV.nil, Nat.reduceEqDiff, Nat.reduceAdd, Nat.reduceMul, Nat.reduceSub, Nat.reduceLeDiff, Nat.reduceBEq, Nat.reduceDiv, Nat.reduceMod, Int.reduceToNat, Int.reduceLT, Int.reduceLE, Int.reduceAdd, Int.reduceSub, Int.reduceMul, Int.reduceEq, Int.reduceNeg, reduceCtorEq, resV, resAll, ARes.ev, LV.flat, ite_true, ite_false, exists_eq_left', exists_eq_left, keyOf, implies_true, fillC, capOf]
  generalize N18.length = m38 at B38 ⊢
  generalize N18 ++ [some (Blk.row [.I G7.x, .I G7.y, .I G7.z, .ref uS7 0 G7.cs.length] true 0)] = W18 at B38 U38 q18 eB36 ⊢
  have rh := k_rHeap (g := G7) (h := G7) (CellsV.of (U36.pre (q18)).has) (CellsV.of U38.has) (by omega) (by omega)
  rw [decide_eq_true (⟨rfl, rfl⟩ : G7.dims = G7.dims ∧ G7.cs = G7.cs)] at rh
  refine callK_of rh ?_
  refine put_cut (fun fr' M' => M' = W18 ∧ fr' 0 = .ref t 0 bs.length ∧ fr' 3 = .ptr m3 0 ∧ fr' 4 = .I d ∧ fr' 5 = .ptr m5 0 ∧ fr' 6 = .B b1 ∧ fr' 9 = .ptr m9 0 ∧ fr' 13 = .ptr m13 0 ∧ fr' 14 = .I a ∧ fr' 15 = .I b ∧ fr' 16 = .ptr m16 0 ∧ fr' 17 = .B b3 ∧ fr' 20 = .ptr m20 0 ∧ fr' 21 = .ptr (m20 + 1) 0 ∧ fr' 22 = .ptr m22 0 ∧ fr' 23 = .B b4 ∧ fr' 26 = .ptr m26 0 ∧ fr' 30 = .ptr m30 0 ∧ fr' 31 = .ptr (m30 + 1) 0 ∧ fr' 32 = .ptr m32 0 ∧ fr' 33 = .B b6 ∧ fr' 36 = .ptr m36 0 ∧ fr' 37 = .B b7) ?_ ?_
  · simp (disch := omega) only [f0, f3, f4, f5, f6, f9, f13, f14, f15, f16, f17, f20, f21, f22, f23, f26, f30, f31, f32, f33, Bool.not_true, ↓SXd, SXu, slBounds, ↓sop, ↓aop, ↓reduceIte, LV.cells, AOp.dst, LV.I, LV.B, LV.U, LV.S, LV.nil, Nat.reduceEqDiff, Nat.reduceAdd, Nat.reduceMul, Nat.reduceSub, Nat.reduceLeDiff, Nat.reduceBEq, Nat.reduceDiv, Nat.reduceMod, Int.reduceToNat, Int.reduceLT, Int.reduceLE, Int.reduceAdd, Int.reduceSub, Int.reduceMul, Int.reduceEq, Int.reduceNeg, reduceCtorEq, resV, resAll, ARes.ev, LV.flat, ite_true, ite_false, exists_eq_left', exists_eq_left, keyOf, implies_true, fillC, capOf]
    all_goals exact ⟨rfl, by first | rfl | assumption, by first | rfl | assumption, by first | rfl | assumption, by first | rfl | assumption, by first | rfl | assumption, by first | rfl | assumption, by first | rfl | assumption, by first | rfl | assumption, by first | rfl | assumption, by first | rfl | assumption, by first | rfl | assumption, by first | rfl | assumption, by first | rfl | assumption, by first | rfl | assumption, by first | rfl | assumption, by first | rfl | assumption, by first | rfl | assumption, by first | rfl | assumption, by first | rfl | assumption, by first | rfl | assumption, by first | rfl | assumption, by first | rfl | assumption⟩
  rintro fr W18 ⟨rfl, f0, f3, f4, f5, f6, f9, f13, f14, f15, f16, f17, f20, f21, f22, f23, f26, f30, f31, f32, f33, f36, f37⟩
  simp (disch := omega) only [f0, f3, f4, f5, f6, f9, f13, f14, f15, f16, f17, f20, f21, f22, f23, f26, f30, f31, f32, f33, f36, f37, ↓SXd, SXu, slBounds, ↓sop, ↓aop, ↓reduceIte, LV.cells, AOp.dst, LV.I, LV.B, LV.U, LV.S, LV.nil, Nat.reduceEqDiff, Nat.reduceAdd, Nat.reduceMul, Nat.reduceSub, Nat.reduceLeDiff, Nat.reduceBEq, Nat.reduceDiv, Nat.reduceMod, Int.reduceToNat, Int.reduceLT, Int.reduceLE, Int.reduceAdd, Int.reduceSub, Int.reduceMul, Int.reduceEq, Int.reduceNeg, reduceCtorEq, resV, resAll, ARes.ev, LV.flat, ite_true, ite_false, exists_eq_left', exists_eq_left, keyOf, implies_true, fillC, capOf]
  refine callR_of (d_DrawWidenHeap (h.pre (q1.trans (q2.trans (q3.trans (q4.trans (q5.trans (q6.trans (q7.trans (q8.trans (q9.trans (q10.trans (q11.trans (q12.trans (q13.trans (q14.trans (q15.trans (q16.trans (q17.trans q18)))))))))))))))))) hn.2 hl) ?_
  rintro _ N19 ⟨⟨_, X, Y, Z, rfl, x8, y8, z8, c8, u8, rfl, hu8, hul8, hcl8⟩, hp19⟩
  simp (disch := omega) only [f0, f3, f4, f5, f6, f9, f13, f14, f15, f16, f17, f20, f21, f22, f23, f26, f30, f31, f32, f33, f36, f37, splice, ↓SXd, SXu, slBounds, ↓sop, ↓aop, ↓reduceIte, LV.cells, AOp.dst, LV.I, LV.B, LV.U, LV.S, LV.nil, Nat.reduceEqDiff, Nat.reduceAdd, Nat.reduceMul, Nat.reduceSub, Nat.reduceLeDiff, Nat.reduceBEq, Nat.reduceDiv, Nat.reduceMod, Int.reduceToNat, Int.reduceLT, Int.reduceLE, Int.reduceAdd, Int.reduceSub, Int.reduceMul, Int.reduceEq, Int.reduceNeg, reduceCtorEq, resV, resAll, ARes.ev, LV.flat, ite_true, ite_false, exists_eq_left', exists_eq_left, keyOf, implies_true, fillC, capOf]
  have B40 : Live (N19 ++ [some (.row [.I x8, .I y8, .I z8, .ref u8 0 c8.length] true 0)]) N19.length (.row [.I x8, .I y8, .I z8, .ref u8 0 c8.length] true 0) := Live.new
  have T8 := hu8.app (L := [some (.row [.I x8, .I y8, .I z8, .ref u8 0 c8.length] true 0)])
  have q19 : Pre W18 (N19 ++ [some (.row [.I x8, .I y8, .I z8, .ref u8 0 c8.length] true 0)]) := hp19.trans (Pre.app _ _)
  generalize N19.length = m40 at B40 ⊢
  generalize N19 ++ [some (Blk.row [.I x8, .I y8, .I z8, .ref u8 0 c8.length] true 0)] = W19 at B40 T8 q19 ⊢
  have hg : ∀ {M : Mem}, Live M u8 (.row (triL c8) true 3) → CallsR PG F.impl_WidenHeap [.agg [.I x8, .I y8, .I z8, .ref u8 0 c8.length], .I X, .I Y, .I Z] M (HeapQ M ((wdOf x8 y8 z8 c8 X Y Z).getD Hp.none).x ((wdOf x8 y8 z8 c8 X Y Z).getD Hp.none).y ((wdOf x8 y8 z8 c8 X Y Z).getD Hp.none).z ((wdOf x8 y8 z8 c8 X Y Z).getD Hp.none).cs (wdOf x8 y8 z8 c8 X Y Z).isSome) := fun h0 => g_WidenHeapX h0 (by omega)
  have hs : ∀ {M : Mem}, Live M u8 (.row (triL c8) true 3) → CallsR PG F.spec_WidenHeap [.agg [.I x8, .I y8, .I z8, .ref u8 0 c8.length], .I X, .I Y, .I Z] M (HeapQ M ((wdOf x8 y8 z8 c8 X Y Z).getD Hp.none).x ((wdOf x8 y8 z8 c8 X Y Z).getD Hp.none).y ((wdOf x8 y8 z8 c8 X Y Z).getD Hp.none).z ((wdOf x8 y8 z8 c8 X Y Z).getD Hp.none).cs (wdOf x8 y8 z8 c8 X Y Z).isSome) := fun h0 => h_sWidenHeap h0 (by omega)
  have L8 := wdOf_law x8 y8 z8 c8 X Y Z
  generalize hG8 : (wdOf x8 y8 z8 c8 X Y Z).getD Hp.none = G8 at hg hs L8
  generalize hb8 : (wdOf x8 y8 z8 c8 X Y Z).isSome = b8 at hg hs L8
  refine callR_of (hg T8) ?_
  rintro _ N20 ⟨uP8, rfl, huP8, hp20⟩
  have B44 : Live (N20 ++ [some (.row [.I G8.x, .I G8.y, .I G8.z, .ref uP8 0 G8.cs.length] true 0)]) N20.length (.row [.I G8.x, .I G8.y, .I G8.z, .ref uP8 0 G8.cs.length] true 0) := Live.new
  have U44 := huP8.app (L := [some (.row [.I G8.x, .I G8.y, .I G8.z, .ref uP8 0 G8.cs.length] true 0)])
  have q20 : Pre W19 (N20 ++ [some (.row [.I G8.x, .I G8.y, .I G8.z, .ref uP8 0 G8.cs.length] true 0)]) := hp20.trans (Pre.app _ _)
  have eB40 := B40.pre q20
  simp (disch := omega) only [f0, f3, f4, f5, f6, f9, f13, f14, f15, f16, f17, f20, f21, f22, f23, f26, f30, f31, f32, f33, f36, f37, splice, eB40.cells, ↓SXd, SXu, slBounds, ↓sop, ↓aop, ↓reduceIte, LV.cells, AOp.dst, LV.I, LV.B, LV.U, LV.S, LV.nil, Nat.reduceEqDiff, Nat.reduceAdd, Nat.reduceMul, Nat.reduceSub, Nat.reduceLeDiff, Nat.reduceBEq, Nat.reduceDiv, Nat.reduceMod, Int.reduceToNat, Int.reduceLT, Int.reduceLE, Int.reduceAdd, Int.reduceSub, Int.reduceMul, Int.reduceEq, Int.reduceNeg, reduceCtorEq, resV, resAll, ARes.ev, LV.flat, ite_true, ite_false, exists_eq_left', exists_eq_left, keyOf, implies_true, fillC, capOf]
  generalize N20.length = m44 at B44 ⊢
  generalize N20 ++ [some (Blk.row [.I G8.x, .I G8.y, .I G8.z, .ref uP8 0 G8.cs.length] true 0)] = W20 at B44 U44 q20 eB40 ⊢
  refine callR_of (hs (T8.pre (q20))) ?_
  rintro _ N21 ⟨uS8, rfl, huS8, hp21⟩
  have B46 : Live (N21 ++ [some (.row [.I G8.x, .I G8.y, .I G8.z, .ref uS8 0 G8.cs.length] true 0)]) N21.length (.row [.I G8.x, .I G8.y, .I G8.z, .ref uS8 0 G8.cs.length] true 0) := Live.new
  have U46 := huS8.app (L := [some (.row [.I G8.x, .I G8.y, .I G8.z, .ref uS8 0 G8.cs.length] true 0)])
  have q21 : Pre W20 (N21 ++ [some (.row [.I G8.x, .I G8.y, .I G8.z, .ref uS8 0 G8.cs.length] true 0)]) := hp21.trans (Pre.app _ _)
  have eB44 := B44.pre q21
  simp (disch := omega) only [f0, f3, f4, f5, f6, f9, f13, f14, f15, f16, f17, f20, f21, f22, f23, f26, f30, f31, f32, f33, f36, f37, splice, eB44.cells, beq_self_eq_true, Bool.not_true, ↓SXd, SXu, slBounds, ↓sop, ↓aop, ↓reduceIte, LV.cells, AOp.dst, LV.I, LV.B, LV.U, LV.S, LV.nil, Nat.reduceEqDiff, Nat.reduceAdd, Nat.reduceMul, Nat.reduceSub, Nat.reduceLeDiff, Nat.reduceBEq, Nat.reduceDiv, Nat.reduceMod, Int.reduceToNat, Int.reduceLT, Int.reduceLE, Int.reduceAdd, Int.reduceSub, Int.reduceMul, Int.reduceEq, Int.reduceNeg, reduceCtorEq, resV, resAll, ARes.ev, LV.flat, ite_true, ite_false, exists_eq_left', exists_eq_left, keyOf, implies_true, fillC, capOf]
  generalize N21.length = m46 at B46 ⊢
  generalize N21 ++ [some (Blk.row [.I G8.x, .I G8.y, .I G8.z, .ref uS8 0 G8.cs.length] true 0)] = W21 at B46 U46 q21 eB44 ⊢
  have rh := k_rHeap (g := G8) (h := G8) (CellsV.of (U44.pre (q21)).has) (CellsV.of U46.has) (by omega) (by omega)
  rw [decide_eq_true (⟨rfl, rfl⟩ : G8.dims = G8.dims ∧ G8.cs = G8.cs)] at rh
  refine callK_of rh ?_
  refine put_cut (fun fr' M' => M' = W21 ∧ fr' 0 = .ref t 0 bs.length ∧ fr' 3 = .ptr m3 0 ∧ fr' 4 = .I d ∧ fr' 5 = .ptr m5 0 ∧ fr' 6 = .B b1 ∧ fr' 9 = .ptr m9 0 ∧ fr' 13 = .ptr m13 0 ∧ fr' 14 = .I a ∧ fr' 15 = .I b ∧ fr' 16 = .ptr m16 0 ∧ fr' 17 = .B b3 ∧ fr' 20 = .ptr m20 0 ∧ fr' 21 = .ptr (m20 + 1) 0 ∧ fr' 22 = .ptr m22 0 ∧ fr' 23 = .B b4 ∧ fr' 26 = .ptr m26 0 ∧ fr' 30 = .ptr m30 0 ∧ fr' 31 = .ptr (m30 + 1) 0 ∧ fr' 32 = .ptr m32 0 ∧ fr' 33 = .B b6 ∧ fr' 36 = .ptr m36 0 ∧ fr' 37 = .B b7 ∧ fr' 40 = .ptr m40 0 ∧ fr' 41 = .I X ∧ fr' 42 = .I Y ∧ fr' 43 = .I Z ∧ fr' 44 = .ptr m44 0 ∧ fr' 45 = .B b8) ?_ ?_
  · simp (disch := omega) only [f0, f3, f4, f5, f6, f9, f13, f14, f15, f16, f17, f20, f21, f22, f23, f26, f30, f31, f32, f33, f36, f37, Bool.not_true, ↓SXd, SXu, slBounds, ↓sop, ↓aop, ↓reduceIte, LV.cells, AOp.dst, LV.I, LV.B, LV.U, LV.S, LV.nil, Nat.reduceEqDiff, Nat.reduceAdd, Nat.reduceMul, Nat.reduceSub, Nat.reduceLeDiff, Nat.reduceBEq, Nat.reduceDiv, Nat.reduceMod, Int.reduceToNat, Int.reduceLT, Int.reduceLE, Int.reduceAdd, Int.reduceSub, Int.reduceMul, Int.reduceEq, Int.reduceNeg, reduceCtorEq, resV, resAll, ARes.ev, LV.flat, ite_true, ite_false, exists_eq_left', exists_eq_left, keyOf, implies_true, fillC, capOf]
    all_goals exact ⟨rfl, by first | rfl | assumption, by first | rfl | assumption, by first | rfl | assumption, by first | rfl | assumption, by first | rfl | assumption, by first | rfl | assumption, by first | rfl | assumption, by first | rfl | assumption, by first | rfl | assumption, by first | rfl | assumption, by first | rfl | assumption, by first | rfl | assumption, by first | rfl | assumption, by first | rfl | assumption, by first | rfl | assumption, by first | rfl | assumption, by first | rfl | assumption, by first | rfl | assumption, by first | rfl | assumption, by first | rfl | assumption, by first | rfl | assumption, by first | rfl | assumption, by first | rfl | assumption, by first | rfl | assumption, by first | rfl | assumption, by first | rfl | assumption, by first | rfl | assumption, by first | rfl | assumption⟩
  rintro fr W21 ⟨rfl, f0, f3, f4, f5, f6, f9, f13, f14, f15, f16, f17, f20, f21, f22, f23, f26, f30, f31, f32, f33, f36, f37, f40, f41, f42, f43, f44, f45⟩
  replace B3 := B3.pre (q2.trans (q3.trans (q4.trans (q5.trans (q6.trans (q7.trans (q8.trans (q9.trans (q10.trans (q11.trans (q12.trans (q13.trans (q14.trans (q15.trans (q16.trans (q17.trans (q18.trans (q19.trans (q20.trans q21)))))))))))))))))))
  replace T1 := T1.pre (q2.trans (q3.trans (q4.trans (q5.trans (q6.trans (q7.trans (q8.trans (q9.trans (q10.trans (q11.trans (q12.trans (q13.trans (q14.trans (q15.trans (q16.trans (q17.trans (q18.trans (q19.trans (q20.trans q21)))))))))))))))))))
  replace B5 := B5.pre (q3.trans (q4.trans (q5.trans (q6.trans (q7.trans (q8.trans (q9.trans (q10.trans (q11.trans (q12.trans (q13.trans (q14.trans (q15.trans (q16.trans (q17.trans (q18.trans (q19.trans (q20.trans q21))))))))))))))))))
  replace U5 := U5.pre (q3.trans (q4.trans (q5.trans (q6.trans (q7.trans (q8.trans (q9.trans (q10.trans (q11.trans (q12.trans (q13.trans (q14.trans (q15.trans (q16.trans (q17.trans (q18.trans (q19.trans (q20.trans q21))))))))))))))))))
  replace B9 := B9.pre (q5.trans (q6.trans (q7.trans (q8.trans (q9.trans (q10.trans (q11.trans (q12.trans (q13.trans (q14.trans (q15.trans (q16.trans (q17.trans (q18.trans (q19.trans (q20.trans q21))))))))))))))))
  replace U9 := U9.pre (q5.trans (q6.trans (q7.trans (q8.trans (q9.trans (q10.trans (q11.trans (q12.trans (q13.trans (q14.trans (q15.trans (q16.trans (q17.trans (q18.trans (q19.trans (q20.trans q21))))))))))))))))
  replace B13 := B13.pre (q7.trans (q8.trans (q9.trans (q10.trans (q11.trans (q12.trans (q13.trans (q14.trans (q15.trans (q16.trans (q17.trans (q18.trans (q19.trans (q20.trans q21))))))))))))))
  replace T3 := T3.pre (q7.trans (q8.trans (q9.trans (q10.trans (q11.trans (q12.trans (q13.trans (q14.trans (q15.trans (q16.trans (q17.trans (q18.trans (q19.trans (q20.trans q21))))))))))))))
  replace B16 := B16.pre (q8.trans (q9.trans (q10.trans (q11.trans (q12.trans (q13.trans (q14.trans (q15.trans (q16.trans (q17.trans (q18.trans (q19.trans (q20.trans q21)))))))))))))
  replace U16 := U16.pre (q8.trans (q9.trans (q10.trans (q11.trans (q12.trans (q13.trans (q14.trans (q15.trans (q16.trans (q17.trans (q18.trans (q19.trans (q20.trans q21)))))))))))))
  replace B20 := B20.pre (q10.trans (q11.trans (q12.trans (q13.trans (q14.trans (q15.trans (q16.trans (q17.trans (q18.trans (q19.trans (q20.trans q21)))))))))))
  replace B21 := B21.pre (q10.trans (q11.trans (q12.trans (q13.trans (q14.trans (q15.trans (q16.trans (q17.trans (q18.trans (q19.trans (q20.trans q21)))))))))))
  replace T4 := T4.pre (q10.trans (q11.trans (q12.trans (q13.trans (q14.trans (q15.trans (q16.trans (q17.trans (q18.trans (q19.trans (q20.trans q21)))))))))))
  replace T5 := T5.pre (q10.trans (q11.trans (q12.trans (q13.trans (q14.trans (q15.trans (q16.trans (q17.trans (q18.trans (q19.trans (q20.trans q21)))))))))))
  replace B22 := B22.pre (q11.trans (q12.trans (q13.trans (q14.trans (q15.trans (q16.trans (q17.trans (q18.trans (q19.trans (q20.trans q21))))))))))
  replace U22 := U22.pre (q11.trans (q12.trans (q13.trans (q14.trans (q15.trans (q16.trans (q17.trans (q18.trans (q19.trans (q20.trans q21))))))))))
  replace B26 := B26.pre (q13.trans (q14.trans (q15.trans (q16.trans (q17.trans (q18.trans (q19.trans (q20.trans q21))))))))
  replace U26 := U26.pre (q13.trans (q14.trans (q15.trans (q16.trans (q17.trans (q18.trans (q19.trans (q20.trans q21))))))))
  replace B30 := B30.pre (q15.trans (q16.trans (q17.trans (q18.trans (q19.trans (q20.trans q21))))))
  replace B31 := B31.pre (q15.trans (q16.trans (q17.trans (q18.trans (q19.trans (q20.trans q21))))))
  replace T6 := T6.pre (q15.trans (q16.trans (q17.trans (q18.trans (q19.trans (q20.trans q21))))))
  replace B32 := B32.pre (q16.trans (q17.trans (q18.trans (q19.trans (q20.trans q21)))))
  replace U32 := U32.pre (q16.trans (q17.trans (q18.trans (q19.trans (q20.trans q21)))))
  replace B36 := B36.pre (q18.trans (q19.trans (q20.trans q21)))
  replace U36 := U36.pre (q18.trans (q19.trans (q20.trans q21)))
  replace B40 := B40.pre (q20.trans q21)
  replace T8 := T8.pre (q20.trans q21)
  replace B44 := B44.pre (q21)
  replace U44 := U44.pre (q21)
  clear hg hs rh
  simp (disch := omega) only [f0, f3, f4, f5, f6, f9, f13, f14, f15, f16, f17, f20, f21, f22, f23, f26, f30, f31, f32, f33, f36, f37, f40, f41, f42, f43, f44, f45, ↓SXd, SXu, slBounds, ↓sop, ↓aop, ↓reduceIte, LV.cells, AOp.dst, LV.I, LV.B, LV.U, LV.S, LV.nil, Nat.reduceEqDiff, Nat.reduceAdd, Nat.reduceMul, Nat.reduceSub, Nat.reduceLeDiff, Nat.reduceBEq, Nat.reduceDiv, Nat.reduceMod, Int.reduceToNat, Int.reduceLT, Int.reduceLE, Int.reduceAdd, Int.reduceSub, Int.reduceMul, Int.reduceEq, Int.reduceNeg, reduceCtorEq, resV, resAll, ARes.ev, LV.flat, ite_true, ite_false, exists_eq_left', exists_eq_left, keyOf, implies_true, fillC, capOf]
  refine cond_cut (fun fr' M' => Pre W21 M' ∧ fr' 13 = .ptr m13 0 ∧ fr' 14 = .I a ∧ fr' 15 = .I b ∧ fr' 16 = .ptr m16 0 ∧ fr' 17 = .B b3 ∧ fr' 20 = .ptr m20 0 ∧ fr' 21 = .ptr (m20 + 1) 0 ∧ fr' 22 = .ptr m22 0 ∧ fr' 23 = .B b4 ∧ fr' 26 = .ptr m26 0 ∧ fr' 30 = .ptr m30 0 ∧ fr' 31 = .ptr (m30 + 1) 0 ∧ fr' 32 = .ptr m32 0 ∧ fr' 33 = .B b6 ∧ fr' 36 = .ptr m36 0 ∧ fr' 37 = .B b7 ∧ fr' 40 = .ptr m40 0 ∧ fr' 41 = .I X ∧ fr' 42 = .I Y ∧ fr' 43 = .I Z ∧ fr' 44 = .ptr m44 0 ∧ fr' 45 = .B b8) ?_ ?_
  · cases b1
    · simp (disch := omega) only [f0, f3, f4, f5, f6, f9, f13, f14, f15, f16, f17, f20, f21, f22, f23, f26, f30, f31, f32, f33, f36, f37, f40, f41, f42, f43, f44, f45, ↓SXd, SXu, slBounds, ↓sop, ↓aop, ↓reduceIte, LV.cells, AOp.dst, LV.I, LV.B, LV.U, LV.S, LV.nil, Nat.reduceEqDiff, Nat.reduceAdd, Nat.reduceMul, Nat.reduceSub, Nat.reduceLeDiff, Nat.reduceBEq, Nat.reduceDiv, Nat.reduceMod, Int.reduceToNat, Int.reduceLT, Int.reduceLE, Int.reduceAdd, Int.reduceSub, Int.reduceMul, Int.reduceEq, Int.reduceNeg, reduceCtorEq, resV, resAll, ARes.ev, LV.flat, ite_true, ite_false, exists_eq_left', exists_eq_left, keyOf, implies_true, fillC, capOf]
      all_goals exact Pre.refl _
    · obtain ⟨⟨hH1, hd⟩, eG1⟩ := L1.1 rfl
      have eG2 := (L2.1 (h12 rfl)).2
      have l1 := L1.2
      have l2 := L2.2
      have hm1 : mirOf G1.x G1.y G1.z G1.cs d = some ⟨x1, y1, z1, c1⟩ := by
        rw [eG1]
        show mirOf x1 y1 z1 (mirD x1 y1 z1 d c1) d = _
        rw [show mirOf x1 y1 z1 (mirD x1 y1 z1 d c1) d = some ⟨x1, y1, z1, mirD x1 y1 z1 d (mirD x1 y1 z1 d c1)⟩ from if_pos ⟨pick_ok hH1.1 _, hd⟩, mirD_twice hH1]
      have hm2 : othOf G2.x G2.y G2.z G2.cs = some ⟨x1, y1, z1, c1⟩ := by
        rw [eG2]
        show othOf x1 y1 z1 (pick x1 y1 z1 (freeP c1)) = _
        rw [show othOf x1 y1 z1 (pick x1 y1 z1 (freeP c1)) = some ⟨x1, y1, z1, pick x1 y1 z1 (freeP (pick x1 y1 z1 (freeP c1)))⟩ from if_pos (pick_ok hH1.1 _), free_free hH1]
      have hfl : ((G2.cs.length : Nat) : Int) + (c1.length : Nat) = x1 * y1 * z1 := by
        rw [eG2]
        exact free_len hH1
      have hmb := mul_bound hH1.1.1 hH1.1.2.1
      have hvb := vol_bound hH1.1
      have hg1 : CallsR PG F.impl_MirrorHeap [.agg [.I G1.x, .I G1.y, .I G1.z, .ref uP1 0 G1.cs.length], .I d] W21 (HeapQ W21 x1 y1 z1 c1 true) := by
        have := g_MirrorHeapX (x := G1.x) (y := G1.y) (z := G1.z) (d := d) U5 (by omega)
        rw [hm1] at this
        exact this
      simp (disch := omega) only [f0, f3, f4, f5, f6, f9, f13, f14, f15, f16, f17, f20, f21, f22, f23, f26, f30, f31, f32, f33, f36, f37, f40, f41, f42, f43, f44, f45, B5.cells, ↓SXd, SXu, slBounds, ↓sop, ↓aop, ↓reduceIte, LV.cells, AOp.dst, LV.I, LV.B, LV.U, LV.S, LV.nil, Nat.reduceEqDiff, Nat.reduceAdd, Nat.reduceMul, Nat.reduceSub, Nat.reduceLeDiff, Nat.reduceBEq, Nat.reduceDiv, Nat.reduceMod, Int.reduceToNat, Int.reduceLT, Int.reduceLE, Int.reduceAdd, Int.reduceSub, Int.reduceMul, Int.reduceEq, Int.reduceNeg, reduceCtorEq, resV, resAll, ARes.ev, LV.flat, ite_true, ite_false, exists_eq_left', exists_eq_left, keyOf, implies_true, fillC, capOf]
      refine callR_of hg1 ?_
      rintro _ Q1 ⟨v48, rfl, hv48, qq1⟩
      have C48 : Live (Q1 ++ [some (.row [.I x1, .I y1, .I z1, .ref v48 0 c1.length] true 0)]) Q1.length (.row [.I x1, .I y1, .I z1, .ref v48 0 c1.length] true 0) := Live.new
      have V48 := hv48.app (L := [some (.row [.I x1, .I y1, .I z1, .ref v48 0 c1.length] true 0)])
      have r1 : Pre W21 (Q1 ++ [some (.row [.I x1, .I y1, .I z1, .ref v48 0 c1.length] true 0)]) := qq1.trans (Pre.app _ _)
      have eB9 := B9.pre r1
      simp (disch := omega) only [f0, f3, f4, f5, f6, f9, f13, f14, f15, f16, f17, f20, f21, f22, f23, f26, f30, f31, f32, f33, f36, f37, f40, f41, f42, f43, f44, f45, splice, Bool.not_true, eB9.cells, ↓SXd, SXu, slBounds, ↓sop, ↓aop, ↓reduceIte, LV.cells, AOp.dst, LV.I, LV.B, LV.U, LV.S, LV.nil, Nat.reduceEqDiff, Nat.reduceAdd, Nat.reduceMul, Nat.reduceSub, Nat.reduceLeDiff, Nat.reduceBEq, Nat.reduceDiv, Nat.reduceMod, Int.reduceToNat, Int.reduceLT, Int.reduceLE, Int.reduceAdd, Int.reduceSub, Int.reduceMul, Int.reduceEq, Int.reduceNeg, reduceCtorEq, resV, resAll, ARes.ev, LV.flat, ite_true, ite_false, exists_eq_left', exists_eq_left, keyOf, implies_true, fillC, capOf]
      generalize Q1.length = m48 at C48 ⊢
      generalize Q1 ++ [some (Blk.row [.I x1, .I y1, .I z1, .ref v48 0 c1.length] true 0)] = Y1 at C48 V48 r1 eB9 ⊢
      have hg2 : CallsR PG F.impl_OtherCells [.agg [.I G2.x, .I G2.y, .I G2.z, .ref uP2 0 G2.cs.length]] Y1 (HeapQ Y1 x1 y1 z1 c1 true) := by
        have := g_OtherCellsX (x := G2.x) (y := G2.y) (z := G2.z) (U9.pre r1) (by omega)
        rw [hm2] at this
        exact this
      refine callR_of hg2 ?_
      rintro _ Q2 ⟨v50, rfl, hv50, qq2⟩
      have C50 : Live (Q2 ++ [some (.row [.I x1, .I y1, .I z1, .ref v50 0 c1.length] true 0)]) Q2.length (.row [.I x1, .I y1, .I z1, .ref v50 0 c1.length] true 0) := Live.new
      have V50 := hv50.app (L := [some (.row [.I x1, .I y1, .I z1, .ref v50 0 c1.length] true 0)])
      have r2 : Pre Y1 (Q2 ++ [some (.row [.I x1, .I y1, .I z1, .ref v50 0 c1.length] true 0)]) := qq2.trans (Pre.app _ _)
      have eC48 := C48.pre r2
      have eB3 := B3.pre (r1.trans r2)
      simp (disch := omega) only [f0, f3, f4, f5, f6, f9, f13, f14, f15, f16, f17, f20, f21, f22, f23, f26, f30, f31, f32, f33, f36, f37, f40, f41, f42, f43, f44, f45, splice, Bool.not_true, eC48.cells, eB3.cells, ↓SXd, SXu, slBounds, ↓sop, ↓aop, ↓reduceIte, LV.cells, AOp.dst, LV.I, LV.B, LV.U, LV.S, LV.nil, Nat.reduceEqDiff, Nat.reduceAdd, Nat.reduceMul, Nat.reduceSub, Nat.reduceLeDiff, Nat.reduceBEq, Nat.reduceDiv, Nat.reduceMod, Int.reduceToNat, Int.reduceLT, Int.reduceLE, Int.reduceAdd, Int.reduceSub, Int.reduceMul, Int.reduceEq, Int.reduceNeg, reduceCtorEq, resV, resAll, ARes.ev, LV.flat, ite_true, ite_false, exists_eq_left', exists_eq_left, keyOf, implies_true, fillC, capOf]
      generalize Q2.length = m50 at C50 ⊢
      generalize Q2 ++ [some (Blk.row [.I x1, .I y1, .I z1, .ref v50 0 c1.length] true 0)] = Y2 at C50 V50 r2 eC48 eB3 ⊢
      have eV48 := V48.pre r2
      have eT1 := T1.pre (r1.trans r2)
      have eB9 := B9.pre (r1.trans r2)
      have rh1 := k_rHeap (g := ⟨x1, y1, z1, c1⟩) (h := ⟨x1, y1, z1, c1⟩) (CellsV.of eV48.has) (CellsV.of eT1.has) (by show c1.length ≤ _; omega) (by show c1.length ≤ _; omega)
      rw [decide_eq_true (⟨rfl, rfl⟩ : (⟨x1, y1, z1, c1⟩ : Hp).dims = (⟨x1, y1, z1, c1⟩ : Hp).dims ∧ (⟨x1, y1, z1, c1⟩ : Hp).cs = (⟨x1, y1, z1, c1⟩ : Hp).cs)] at rh1
      refine callK_of rh1 ?_
      simp (disch := omega) only [f0, f3, f4, f5, f6, f9, f13, f14, f15, f16, f17, f20, f21, f22, f23, f26, f30, f31, f32, f33, f36, f37, f40, f41, f42, f43, f44, f45, Bool.not_true, C50.cells, eB3.cells, ↓SXd, SXu, slBounds, ↓sop, ↓aop, ↓reduceIte, LV.cells, AOp.dst, LV.I, LV.B, LV.U, LV.S, LV.nil, Nat.reduceEqDiff, Nat.reduceAdd, Nat.reduceMul, Nat.reduceSub, Nat.reduceLeDiff, Nat.reduceBEq, Nat.reduceDiv, Nat.reduceMod, Int.reduceToNat, Int.reduceLT, Int.reduceLE, Int.reduceAdd, Int.reduceSub, Int.reduceMul, Int.reduceEq, Int.reduceNeg, reduceCtorEq, resV, resAll, ARes.ev, LV.flat, ite_true, ite_false, exists_eq_left', exists_eq_left, keyOf, implies_true, fillC, capOf]
      have rh2 := k_rHeap (g := ⟨x1, y1, z1, c1⟩) (h := ⟨x1, y1, z1, c1⟩) (CellsV.of V50.has) (CellsV.of eT1.has) (by show c1.length ≤ _; omega) (by show c1.length ≤ _; omega)
      rw [decide_eq_true (⟨rfl, rfl⟩ : (⟨x1, y1, z1, c1⟩ : Hp).dims = (⟨x1, y1, z1, c1⟩ : Hp).dims ∧ (⟨x1, y1, z1, c1⟩ : Hp).cs = (⟨x1, y1, z1, c1⟩ : Hp).cs)] at rh2
      refine callK_of rh2 ?_
      simp (disch := omega) only [f0, f3, f4, f5, f6, f9, f13, f14, f15, f16, f17, f20, f21, f22, f23, f26, f30, f31, f32, f33, f36, f37, f40, f41, f42, f43, f44, f45, Bool.not_true, eB9.cell, eB3.cell, hfl, ↓SXd, SXu, slBounds, ↓sop, ↓aop, ↓reduceIte, LV.cells, AOp.dst, LV.I, LV.B, LV.U, LV.S, LV.nil, Nat.reduceEqDiff, Nat.reduceAdd, Nat.reduceMul, Nat.reduceSub, Nat.reduceLeDiff, Nat.reduceBEq, Nat.reduceDiv, Nat.reduceMod, Int.reduceToNat, Int.reduceLT, Int.reduceLE, Int.reduceAdd, Int.reduceSub, Int.reduceMul, Int.reduceEq, Int.reduceNeg, reduceCtorEq, resV, resAll, ARes.ev, LV.flat, ite_true, ite_false, exists_eq_left', exists_eq_left, keyOf, implies_true, fillC, capOf]
      all_goals exact r1.trans r2
  clear f0 f3 f4 f5 f6 f9 f13 f14 f15 f16 f17 f20 f21 f22 f23 f26 f30 f31 f32 f33 f36 f37 f40 f41 f42 f43 f44 f45
  rintro fr M9 ⟨hpA, f13, f14, f15, f16, f17, f20, f21, f22, f23, f26, f30, f31, f32, f33, f36, f37, f40, f41, f42, f43, f44, f45⟩
  simp (disch := omega) only [f13, f14, f15, f16, f17, f20, f21, f22, f23, f26, f30, f31, f32, f33, f36, f37, f40, f41, f42, f43, f44, f45, ↓SXd, SXu, slBounds, ↓sop, ↓aop, ↓reduceIte, LV.cells, AOp.dst, LV.I, LV.B, LV.U, LV.S, LV.nil, Nat.reduceEqDiff, Nat.reduceAdd, Nat.reduceMul, Nat.reduceSub, Nat.reduceLeDiff, Nat.reduceBEq, Nat.reduceDiv, Nat.reduceMod, Int.reduceToNat, Int.reduceLT, Int.reduceLE, Int.reduceAdd, Int.reduceSub, Int.reduceMul, Int.reduceEq, Int.reduceNeg, reduceCtorEq, resV, resAll, ARes.ev, LV.flat, ite_true, ite_false, exists_eq_left', exists_eq_left, keyOf, implies_true, fillC, capOf]
  refine cond_cut (fun fr' M' => Pre W21 M' ∧ fr' 20 = .ptr m20 0 ∧ fr' 21 = .ptr (m20 + 1) 0 ∧ fr' 22 = .ptr m22 0 ∧ fr' 23 = .B b4 ∧ fr' 26 = .ptr m26 0 ∧ fr' 30 = .ptr m30 0 ∧ fr' 31 = .ptr (m30 + 1) 0 ∧ fr' 32 = .ptr m32 0 ∧ fr' 33 = .B b6 ∧ fr' 36 = .ptr m36 0 ∧ fr' 37 = .B b7 ∧ fr' 40 = .ptr m40 0 ∧ fr' 41 = .I X ∧ fr' 42 = .I Y ∧ fr' 43 = .I Z ∧ fr' 44 = .ptr m44 0 ∧ fr' 45 = .B b8) ?_ ?_
  · cases b3
    · simp (disch := omega) only [f13, f14, f15, f16, f17, f20, f21, f22, f23, f26, f30, f31, f32, f33, f36, f37, f40, f41, f42, f43, f44, f45, ↓SXd, SXu, slBounds, ↓sop, ↓aop, ↓reduceIte, LV.cells, AOp.dst, LV.I, LV.B, LV.U, LV.S, LV.nil, Nat.reduceEqDiff, Nat.reduceAdd, Nat.reduceMul, Nat.reduceSub, Nat.reduceLeDiff, Nat.reduceBEq, Nat.reduceDiv, Nat.reduceMod, Int.reduceToNat, Int.reduceLT, Int.reduceLE, Int.reduceAdd, Int.reduceSub, Int.reduceMul, Int.reduceEq, Int.reduceNeg, reduceCtorEq, resV, resAll, ARes.ev, LV.flat, ite_true, ite_false, exists_eq_left', exists_eq_left, keyOf, implies_true, fillC, capOf]
      all_goals exact hpA
    · obtain ⟨⟨hH3, ha, hb⟩, eG3⟩ := L3.1 rfl
      have l3 := L3.2
      have hm3 : swpOf G3.x G3.y G3.z G3.cs a b = some ⟨x3, y3, z3, c3⟩ := by
        rw [eG3]
        rw [show swpOf (swX a b x3 y3 z3 c3).x (swX a b x3 y3 z3 c3).y (swX a b x3 y3 z3 c3).z (swX a b x3 y3 z3 c3).cs a b = some (swX a b (swX a b x3 y3 z3 c3).x (swX a b x3 y3 z3 c3).y (swX a b x3 y3 z3 c3).z (swX a b x3 y3 z3 c3).cs) from if_pos ⟨sw_ok ha hb hH3, ha, hb⟩, sw_twice ha hb hH3]
      have hg3 : CallsR PG F.impl_SwapSides [.agg [.I G3.x, .I G3.y, .I G3.z, .ref uP3 0 G3.cs.length], .I a, .I b] M9 (HeapQ M9 x3 y3 z3 c3 true) := by
        have := g_SwapSidesX (x := G3.x) (y := G3.y) (z := G3.z) (a := a) (b := b) (U16.pre hpA) (by omega)
        rw [hm3] at this
        exact this
      simp (disch := omega) only [f13, f14, f15, f16, f17, f20, f21, f22, f23, f26, f30, f31, f32, f33, f36, f37, f40, f41, f42, f43, f44, f45, (B16.pre hpA).cells, ↓SXd, SXu, slBounds, ↓sop, ↓aop, ↓reduceIte, LV.cells, AOp.dst, LV.I, LV.B, LV.U, LV.S, LV.nil, Nat.reduceEqDiff, Nat.reduceAdd, Nat.reduceMul, Nat.reduceSub, Nat.reduceLeDiff, Nat.reduceBEq, Nat.reduceDiv, Nat.reduceMod, Int.reduceToNat, Int.reduceLT, Int.reduceLE, Int.reduceAdd, Int.reduceSub, Int.reduceMul, Int.reduceEq, Int.reduceNeg, reduceCtorEq, resV, resAll, ARes.ev, LV.flat, ite_true, ite_false, exists_eq_left', exists_eq_left, keyOf, implies_true, fillC, capOf]
      refine callR_of hg3 ?_
      rintro _ Q1 ⟨v52, rfl, hv52, qq1⟩
      have C52 : Live (Q1 ++ [some (.row [.I x3, .I y3, .I z3, .ref v52 0 c3.length] true 0)]) Q1.length (.row [.I x3, .I y3, .I z3, .ref v52 0 c3.length] true 0) := Live.new
      have V52 := hv52.app (L := [some (.row [.I x3, .I y3, .I z3, .ref v52 0 c3.length] true 0)])
      have r1 : Pre M9 (Q1 ++ [some (.row [.I x3, .I y3, .I z3, .ref v52 0 c3.length] true 0)]) := qq1.trans (Pre.app _ _)
      have eB13 := B13.pre (hpA.trans r1)
      simp (disch := omega) only [f13, f14, f15, f16, f17, f20, f21, f22, f23, f26, f30, f31, f32, f33, f36, f37, f40, f41, f42, f43, f44, f45, splice, Bool.not_true, eB13.cells, ↓SXd, SXu, slBounds, ↓sop, ↓aop, ↓reduceIte, LV.cells, AOp.dst, LV.I, LV.B, LV.U, LV.S, LV.nil, Nat.reduceEqDiff, Nat.reduceAdd, Nat.reduceMul, Nat.reduceSub, Nat.reduceLeDiff, Nat.reduceBEq, Nat.reduceDiv, Nat.reduceMod, Int.reduceToNat, Int.reduceLT, Int.reduceLE, Int.reduceAdd, Int.reduceSub, Int.reduceMul, Int.reduceEq, Int.reduceNeg, reduceCtorEq, resV, resAll, ARes.ev, LV.flat, ite_true, ite_false, exists_eq_left', exists_eq_left, keyOf, implies_true, fillC, capOf]
      generalize Q1.length = m52 at C52 ⊢
      generalize Q1 ++ [some (Blk.row [.I x3, .I y3, .I z3, .ref v52 0 c3.length] true 0)] = Y1 at C52 V52 r1 eB13 ⊢
      have eT3 := T3.pre (hpA.trans r1)
      have rh1 := k_rHeap (g := ⟨x3, y3, z3, c3⟩) (h := ⟨x3, y3, z3, c3⟩) (CellsV.of V52.has) (CellsV.of eT3.has) (by show c3.length ≤ _; omega) (by show c3.length ≤ _; omega)
      rw [decide_eq_true (⟨rfl, rfl⟩ : (⟨x3, y3, z3, c3⟩ : Hp).dims = (⟨x3, y3, z3, c3⟩ : Hp).dims ∧ (⟨x3, y3, z3, c3⟩ : Hp).cs = (⟨x3, y3, z3, c3⟩ : Hp).cs)] at rh1
      refine callK_of rh1 ?_
      simp (disch := omega) only [f13, f14, f15, f16, f17, f20, f21, f22, f23, f26, f30, f31, f32, f33, f36, f37, f40, f41, f42, f43, f44, f45, Bool.not_true, ↓SXd, SXu, slBounds, ↓sop, ↓aop, ↓reduceIte, LV.cells, AOp.dst, LV.I, LV.B, LV.U, LV.S, LV.nil, Nat.reduceEqDiff, Nat.reduceAdd, Nat.reduceMul, Nat.reduceSub, Nat.reduceLeDiff, Nat.reduceBEq, Nat.reduceDiv, Nat.reduceMod, Int.reduceToNat, Int.reduceLT, Int.reduceLE, Int.reduceAdd, Int.reduceSub, Int.reduceMul, Int.reduceEq, Int.reduceNeg, reduceCtorEq, resV, resAll, ARes.ev, LV.flat, ite_true, ite_false, exists_eq_left', exists_eq_left, keyOf, implies_true, fillC, capOf]
      all_goals exact hpA.trans r1
  clear f13 f14 f15 f16 f17 f20 f21 f22 f23 f26 f30 f31 f32 f33 f36 f37 f40 f41 f42 f43 f44 f45
  rintro fr M9 ⟨hpB, f20, f21, f22, f23, f26, f30, f31, f32, f33, f36, f37, f40, f41, f42, f43, f44, f45⟩
  simp (disch := omega) only [f20, f21, f22, f23, f26, f30, f31, f32, f33, f36, f37, f40, f41, f42, f43, f44, f45, ↓SXd, SXu, slBounds, ↓sop, ↓aop, ↓reduceIte, LV.cells, AOp.dst, LV.I, LV.B, LV.U, LV.S, LV.nil, Nat.reduceEqDiff, Nat.reduceAdd, Nat.reduceMul, Nat.reduceSub, Nat.reduceLeDiff, Nat.reduceBEq, Nat.reduceDiv, Nat.reduceMod, Int.reduceToNat, Int.reduceLT, Int.reduceLE, Int.reduceAdd, Int.reduceSub, Int.reduceMul, Int.reduceEq, Int.reduceNeg, reduceCtorEq, resV, resAll, ARes.ev, LV.flat, ite_true, ite_false, exists_eq_left', exists_eq_left, keyOf, implies_true, fillC, capOf]
  refine guard_cut (fun fr' M' => Pre W21 M' ∧ fr' 30 = .ptr m30 0 ∧ fr' 31 = .ptr (m30 + 1) 0 ∧ fr' 32 = .ptr m32 0 ∧ fr' 33 = .B b6 ∧ fr' 36 = .ptr m36 0 ∧ fr' 37 = .B b7 ∧ fr' 40 = .ptr m40 0 ∧ fr' 41 = .I X ∧ fr' 42 = .I Y ∧ fr' 43 = .I Z ∧ fr' 44 = .ptr m44 0 ∧ fr' 45 = .B b8) ?_ ?_
  · cases b4
    · simp (disch := omega) only [f20, f21, f22, f23, f26, f30, f31, f32, f33, f36, f37, f40, f41, f42, f43, f44, f45, ↓SXd, SXu, slBounds, ↓sop, ↓aop, ↓reduceIte, LV.cells, AOp.dst, LV.I, LV.B, LV.U, LV.S, LV.nil, Nat.reduceEqDiff, Nat.reduceAdd, Nat.reduceMul, Nat.reduceSub, Nat.reduceLeDiff, Nat.reduceBEq, Nat.reduceDiv, Nat.reduceMod, Int.reduceToNat, Int.reduceLT, Int.reduceLE, Int.reduceAdd, Int.reduceSub, Int.reduceMul, Int.reduceEq, Int.reduceNeg, reduceCtorEq, resV, resAll, ARes.ev, LV.flat, ite_true, ite_false, exists_eq_left', exists_eq_left, keyOf, implies_true, fillC, capOf]
      all_goals exact hpB
    · obtain ⟨hA4, eG4⟩ := L4.1 rfl
      obtain ⟨_, eG5⟩ := L5.1 rfl
      have l4 := L4.2
      have l5 := L5.2
      have hjl : G4.cs.length + G5.cs.length = c4.length + c5.length := by
        obtain ⟨k1, k2, k3, k4, k5⟩ := hA4
        rw [eG4, eG5]
        subst k3 k4 k5
        exact join_len k1 k2
      have hjl' : ((G4.cs.length : Nat) : Int) + (G5.cs.length : Nat) = (c4.length : Nat) + (c5.length : Nat) := by omega
      simp (disch := omega) only [f20, f21, f22, f23, f26, f30, f31, f32, f33, f36, f37, f40, f41, f42, f43, f44, f45, (B22.pre hpB).cell, (B26.pre hpB).cell, (B20.pre hpB).cell, (B21.pre hpB).cell, hjl', ↓SXd, SXu, slBounds, ↓sop, ↓aop, ↓reduceIte, LV.cells, AOp.dst, LV.I, LV.B, LV.U, LV.S, LV.nil, Nat.reduceEqDiff, Nat.reduceAdd, Nat.reduceMul, Nat.reduceSub, Nat.reduceLeDiff, Nat.reduceBEq, Nat.reduceDiv, Nat.reduceMod, Int.reduceToNat, Int.reduceLT, Int.reduceLE, Int.reduceAdd, Int.reduceSub, Int.reduceMul, Int.reduceEq, Int.reduceNeg, reduceCtorEq, resV, resAll, ARes.ev, LV.flat, ite_true, ite_false, exists_eq_left', exists_eq_left, keyOf, implies_true, fillC, capOf]
      all_goals exact hpB
  clear f20 f21 f22 f23 f26 f30 f31 f32 f33 f36 f37 f40 f41 f42 f43 f44 f45
  rintro fr M9 ⟨hpC, f30, f31, f32, f33, f36, f37, f40, f41, f42, f43, f44, f45⟩
  simp (disch := omega) only [f30, f31, f32, f33, f36, f37, f40, f41, f42, f43, f44, f45, ↓SXd, SXu, slBounds, ↓sop, ↓aop, ↓reduceIte, LV.cells, AOp.dst, LV.I, LV.B, LV.U, LV.S, LV.nil, Nat.reduceEqDiff, Nat.reduceAdd, Nat.reduceMul, Nat.reduceSub, Nat.reduceLeDiff, Nat.reduceBEq, Nat.reduceDiv, Nat.reduceMod, Int.reduceToNat, Int.reduceLT, Int.reduceLE, Int.reduceAdd, Int.reduceSub, Int.reduceMul, Int.reduceEq, Int.reduceNeg, reduceCtorEq, resV, resAll, ARes.ev, LV.flat, ite_true, ite_false, exists_eq_left', exists_eq_left, keyOf, implies_true, fillC, capOf]
  refine cond_cut (fun fr' M' => Pre W21 M' ∧ fr' 40 = .ptr m40 0 ∧ fr' 41 = .I X ∧ fr' 42 = .I Y ∧ fr' 43 = .I Z ∧ fr' 44 = .ptr m44 0 ∧ fr' 45 = .B b8) ?_ ?_
  · cases b6
    · simp (disch := omega) only [f30, f31, f32, f33, f36, f37, f40, f41, f42, f43, f44, f45, ↓SXd, SXu, slBounds, ↓sop, ↓aop, ↓reduceIte, LV.cells, AOp.dst, LV.I, LV.B, LV.U, LV.S, LV.nil, Nat.reduceEqDiff, Nat.reduceAdd, Nat.reduceMul, Nat.reduceSub, Nat.reduceLeDiff, Nat.reduceBEq, Nat.reduceDiv, Nat.reduceMod, Int.reduceToNat, Int.reduceLT, Int.reduceLE, Int.reduceAdd, Int.reduceSub, Int.reduceMul, Int.reduceEq, Int.reduceNeg, reduceCtorEq, resV, resAll, ARes.ev, LV.flat, ite_true, ite_false, exists_eq_left', exists_eq_left, keyOf, implies_true, fillC, capOf]
      all_goals exact hpC
    · obtain ⟨⟨hH6, hN6, hW6⟩, eG6⟩ := L6.1 rfl
      have l6 := L6.2
      have l7 := L7.2
      obtain ⟨⟨_, _⟩, ⟨_, _⟩, ⟨_, _⟩⟩ := id hN6
      have hm6 : shOf G6.x G6.y G6.z G6.cs ⟨0 - p.a, 0 - p.b, 0 - p.c⟩ = some ⟨x6, y6, z6, c6⟩ := by
        rw [eG6]
        show shOf x6 y6 z6 (c6.map (shift p)) ⟨0 - p.a, 0 - p.b, 0 - p.c⟩ = _
        have hN6' : Near4 ⟨0 - p.a, 0 - p.b, 0 - p.c⟩ := ⟨⟨by simp only; omega, by simp only; omega⟩, ⟨by simp only; omega, by simp only; omega⟩, ⟨by simp only; omega, by simp only; omega⟩⟩
        have hb6 : HeapOK x6 y6 z6 ((c6.map (shift p)).map (shift ⟨0 - p.a, 0 - p.b, 0 - p.c⟩)) := by rw [shift_back0]; exact hH6
        rw [show shOf x6 y6 z6 (c6.map (shift p)) ⟨0 - p.a, 0 - p.b, 0 - p.c⟩ = some ⟨x6, y6, z6, (c6.map (shift p)).map (shift ⟨0 - p.a, 0 - p.b, 0 - p.c⟩)⟩ from if_pos ⟨hW6, hN6', hb6⟩, shift_back0]
      have hm7 : crOf G6.x G6.y G6.z G6.cs = crOf x6 y6 z6 c6 := by
        rw [eG6]
        show crOf x6 y6 z6 (c6.map (shift p)) = crOf x6 y6 z6 c6
        by_cases h0 : 0 < c6.length
        · rw [show crOf x6 y6 z6 c6 = some (cropHp c6) from if_pos ⟨hH6, h0⟩, show crOf x6 y6 z6 (c6.map (shift p)) = some (cropHp (c6.map (shift p))) from if_pos ⟨hW6, by rw [List.length_map]; exact h0⟩, cropHp_shift h0]
        · rw [show crOf x6 y6 z6 c6 = none from if_neg fun e => h0 e.2, show crOf x6 y6 z6 (c6.map (shift p)) = none from if_neg fun e => h0 (by have := e.2; rwa [List.length_map] at this)]
      have hg6 : CallsR PG F.impl_ShiftHeap [.agg [.I G6.x, .I G6.y, .I G6.z, .ref uP6 0 G6.cs.length], .agg [.I (0 - p.a), .I (0 - p.b), .I (0 - p.c)]] M9 (HeapQ M9 x6 y6 z6 c6 true) := by
        have := g_ShiftHeapX (x := G6.x) (y := G6.y) (z := G6.z) (p := ⟨0 - p.a, 0 - p.b, 0 - p.c⟩) (U32.pre hpC) (by omega)
        rw [hm6] at this
        exact this
      simp (disch := omega) only [f30, f31, f32, f33, f36, f37, f40, f41, f42, f43, f44, f45, (B32.pre hpC).cells, (B31.pre hpC).cell, splice, ↓SXd, SXu, slBounds, ↓sop, ↓aop, ↓reduceIte, LV.cells, AOp.dst, LV.I, LV.B, LV.U, LV.S, LV.nil, Nat.reduceEqDiff, Nat.reduceAdd, Nat.reduceMul, Nat.reduceSub, Nat.reduceLeDiff, Nat.reduceBEq, Nat.reduceDiv, Nat.reduceMod, Int.reduceToNat, Int.reduceLT, Int.reduceLE, Int.reduceAdd, Int.reduceSub, Int.reduceMul, Int.reduceEq, Int.reduceNeg, reduceCtorEq, resV, resAll, ARes.ev, LV.flat, ite_true, ite_false, exists_eq_left', exists_eq_left, keyOf, implies_true, fillC, capOf]
      refine callR_of hg6 ?_
      rintro _ Q1 ⟨v54, rfl, hv54, qq1⟩
      have C54 : Live (Q1 ++ [some (.row [.I x6, .I y6, .I z6, .ref v54 0 c6.length] true 0)]) Q1.length (.row [.I x6, .I y6, .I z6, .ref v54 0 c6.length] true 0) := Live.new
      have V54 := hv54.app (L := [some (.row [.I x6, .I y6, .I z6, .ref v54 0 c6.length] true 0)])
      have r1 : Pre M9 (Q1 ++ [some (.row [.I x6, .I y6, .I z6, .ref v54 0 c6.length] true 0)]) := qq1.trans (Pre.app _ _)
      have eB32 := B32.pre (hpC.trans r1)
      simp (disch := omega) only [f30, f31, f32, f33, f36, f37, f40, f41, f42, f43, f44, f45, splice, Bool.not_true, eB32.cells, ↓SXd, SXu, slBounds, ↓sop, ↓aop, ↓reduceIte, LV.cells, AOp.dst, LV.I, LV.B, LV.U, LV.S, LV.nil, Nat.reduceEqDiff, Nat.reduceAdd, Nat.reduceMul, Nat.reduceSub, Nat.reduceLeDiff, Nat.reduceBEq, Nat.reduceDiv, Nat.reduceMod, Int.reduceToNat, Int.reduceLT, Int.reduceLE, Int.reduceAdd, Int.reduceSub, Int.reduceMul, Int.reduceEq, Int.reduceNeg, reduceCtorEq, resV, resAll, ARes.ev, LV.flat, ite_true, ite_false, exists_eq_left', exists_eq_left, keyOf, implies_true, fillC, capOf]
      generalize Q1.length = m54 at C54 ⊢
      generalize Q1 ++ [some (Blk.row [.I x6, .I y6, .I z6, .ref v54 0 c6.length] true 0)] = Y1 at C54 V54 r1 eB32 ⊢
      have hg7 : CallsR PG F.impl_CropHeap [.agg [.I G6.x, .I G6.y, .I G6.z, .ref uP6 0 G6.cs.length]] Y1 (HeapQ Y1 G7.x G7.y G7.z G7.cs b7) := by
        have : CallsR PG F.impl_CropHeap [.agg [.I G6.x, .I G6.y, .I G6.z, .ref uP6 0 G6.cs.length]] Y1 (HeapQ Y1 ((crOf G6.x G6.y G6.z G6.cs).getD Hp.none).x ((crOf G6.x G6.y G6.z G6.cs).getD Hp.none).y ((crOf G6.x G6.y G6.z G6.cs).getD Hp.none).z ((crOf G6.x G6.y G6.z G6.cs).getD Hp.none).cs (crOf G6.x G6.y G6.z G6.cs).isSome) := g_CropHeapX (x := G6.x) (y := G6.y) (z := G6.z) (U32.pre (hpC.trans r1)) (by omega)
        rw [hm7, hG7, hb7] at this
        exact this
      refine callR_of hg7 ?_
      rintro _ Q2 ⟨v56, rfl, hv56, qq2⟩
      have C56 : Live (Q2 ++ [some (.row [.I G7.x, .I G7.y, .I G7.z, .ref v56 0 G7.cs.length] true 0)]) Q2.length (.row [.I G7.x, .I G7.y, .I G7.z, .ref v56 0 G7.cs.length] true 0) := Live.new
      have V56 := hv56.app (L := [some (.row [.I G7.x, .I G7.y, .I G7.z, .ref v56 0 G7.cs.length] true 0)])
      have r2 : Pre Y1 (Q2 ++ [some (.row [.I G7.x, .I G7.y, .I G7.z, .ref v56 0 G7.cs.length] true 0)]) := qq2.trans (Pre.app _ _)
      have eC54 := C54.pre r2
      have eB30 := B30.pre (hpC.trans (r1.trans r2))
      simp (disch := omega) only [f30, f31, f32, f33, f36, f37, f40, f41, f42, f43, f44, f45, splice, Bool.not_true, eC54.cells, eB30.cells, beq_self_eq_true, ↓SXd, SXu, slBounds, ↓sop, ↓aop, ↓reduceIte, LV.cells, AOp.dst, LV.I, LV.B, LV.U, LV.S, LV.nil, Nat.reduceEqDiff, Nat.reduceAdd, Nat.reduceMul, Nat.reduceSub, Nat.reduceLeDiff, Nat.reduceBEq, Nat.reduceDiv, Nat.reduceMod, Int.reduceToNat, Int.reduceLT, Int.reduceLE, Int.reduceAdd, Int.reduceSub, Int.reduceMul, Int.reduceEq, Int.reduceNeg, reduceCtorEq, resV, resAll, ARes.ev, LV.flat, ite_true, ite_false, exists_eq_left', exists_eq_left, keyOf, implies_true, fillC, capOf]
      generalize Q2.length = m56 at C56 ⊢
      generalize Q2 ++ [some (Blk.row [.I G7.x, .I G7.y, .I G7.z, .ref v56 0 G7.cs.length] true 0)] = Y2 at C56 V56 r2 eC54 eB30 ⊢
      have eV54 := V54.pre r2
      have eT6 := T6.pre (hpC.trans (r1.trans r2))
      have eB36 := B36.pre (hpC.trans (r1.trans r2))
      have eU36 := U36.pre (hpC.trans (r1.trans r2))
      have rh1 := k_rHeap (g := ⟨x6, y6, z6, c6⟩) (h := ⟨x6, y6, z6, c6⟩) (CellsV.of eV54.has) (CellsV.of eT6.has) (by show c6.length ≤ _; omega) (by show c6.length ≤ _; omega)
      rw [decide_eq_true (⟨rfl, rfl⟩ : (⟨x6, y6, z6, c6⟩ : Hp).dims = (⟨x6, y6, z6, c6⟩ : Hp).dims ∧ (⟨x6, y6, z6, c6⟩ : Hp).cs = (⟨x6, y6, z6, c6⟩ : Hp).cs)] at rh1
      refine callK_of rh1 ?_
      cases b7
      · simp (disch := omega) only [f30, f31, f32, f33, f36, f37, f40, f41, f42, f43, f44, f45, Bool.not_true, ↓SXd, SXu, slBounds, ↓sop, ↓aop, ↓reduceIte, LV.cells, AOp.dst, LV.I, LV.B, LV.U, LV.S, LV.nil, Nat.reduceEqDiff, Nat.reduceAdd, Nat.reduceMul, Nat.reduceSub, Nat.reduceLeDiff, Nat.reduceBEq, Nat.reduceDiv, Nat.reduceMod, Int.reduceToNat, Int.reduceLT, Int.reduceLE, Int.reduceAdd, Int.reduceSub, Int.reduceMul, Int.reduceEq, Int.reduceNeg, reduceCtorEq, resV, resAll, ARes.ev, LV.flat, ite_true, ite_false, exists_eq_left', exists_eq_left, keyOf, implies_true, fillC, capOf]
        all_goals exact hpC.trans (r1.trans r2)
      · simp (disch := omega) only [f30, f31, f32, f33, f36, f37, f40, f41, f42, f43, f44, f45, Bool.not_true, C56.cells, eB36.cells, ↓SXd, SXu, slBounds, ↓sop, ↓aop, ↓reduceIte, LV.cells, AOp.dst, LV.I, LV.B, LV.U, LV.S, LV.nil, Nat.reduceEqDiff, Nat.reduceAdd, Nat.reduceMul, Nat.reduceSub, Nat.reduceLeDiff, Nat.reduceBEq, Nat.reduceDiv, Nat.reduceMod, Int.reduceToNat, Int.reduceLT, Int.reduceLE, Int.reduceAdd, Int.reduceSub, Int.reduceMul, Int.reduceEq, Int.reduceNeg, reduceCtorEq, resV, resAll, ARes.ev, LV.flat, ite_true, ite_false, exists_eq_left', exists_eq_left, keyOf, implies_true, fillC, capOf]
        have rh2 := k_rHeap (g := ⟨G7.x, G7.y, G7.z, G7.cs⟩) (h := ⟨G7.x, G7.y, G7.z, G7.cs⟩) (CellsV.of V56.has) (CellsV.of eU36.has) (by show G7.cs.length ≤ _; omega) (by show G7.cs.length ≤ _; omega)
        rw [decide_eq_true (⟨rfl, rfl⟩ : (⟨G7.x, G7.y, G7.z, G7.cs⟩ : Hp).dims = (⟨G7.x, G7.y, G7.z, G7.cs⟩ : Hp).dims ∧ (⟨G7.x, G7.y, G7.z, G7.cs⟩ : Hp).cs = (⟨G7.x, G7.y, G7.z, G7.cs⟩ : Hp).cs)] at rh2
        refine callK_of rh2 ?_
        simp (disch := omega) only [f30, f31, f32, f33, f36, f37, f40, f41, f42, f43, f44, f45, Bool.not_true, ↓SXd, SXu, slBounds, ↓sop, ↓aop, ↓reduceIte, LV.cells, AOp.dst, LV.I, LV.B, LV.U, LV.S, LV.nil, Nat.reduceEqDiff, Nat.reduceAdd, Nat.reduceMul, Nat.reduceSub, Nat.reduceLeDiff, Nat.reduceBEq, Nat.reduceDiv, Nat.reduceMod, Int.reduceToNat, Int.reduceLT, Int.reduceLE, Int.reduceAdd, Int.reduceSub, Int.reduceMul, Int.reduceEq, Int.reduceNeg, reduceCtorEq, resV, resAll, ARes.ev, LV.flat, ite_true, ite_false, exists_eq_left', exists_eq_left, keyOf, implies_true, fillC, capOf]
        all_goals exact hpC.trans (r1.trans r2)
  clear f30 f31 f32 f33 f36 f37 f40 f41 f42 f43 f44 f45
  rintro fr M9 ⟨hpD, f40, f41, f42, f43, f44, f45⟩
  simp (disch := omega) only [f40, f41, f42, f43, f44, f45, ↓SXd, SXu, slBounds, ↓sop, ↓aop, ↓reduceIte, LV.cells, AOp.dst, LV.I, LV.B, LV.U, LV.S, LV.nil, Nat.reduceEqDiff, Nat.reduceAdd, Nat.reduceMul, Nat.reduceSub, Nat.reduceLeDiff, Nat.reduceBEq, Nat.reduceDiv, Nat.reduceMod, Int.reduceToNat, Int.reduceLT, Int.reduceLE, Int.reduceAdd, Int.reduceSub, Int.reduceMul, Int.reduceEq, Int.reduceNeg, reduceCtorEq, resV, resAll, ARes.ev, LV.flat, ite_true, ite_false, exists_eq_left', exists_eq_left, keyOf, implies_true, fillC, capOf]
  cases b8
  · simp (disch := omega) only [f40, f41, f42, f43, f44, f45, ↓SXd, SXu, slBounds, ↓sop, ↓aop, ↓reduceIte, LV.cells, AOp.dst, LV.I, LV.B, LV.U, LV.S, LV.nil, Nat.reduceEqDiff, Nat.reduceAdd, Nat.reduceMul, Nat.reduceSub, Nat.reduceLeDiff, Nat.reduceBEq, Nat.reduceDiv, Nat.reduceMod, Int.reduceToNat, Int.reduceLT, Int.reduceLE, Int.reduceAdd, Int.reduceSub, Int.reduceMul, Int.reduceEq, Int.reduceNeg, reduceCtorEq, resV, resAll, ARes.ev, LV.flat, ite_true, ite_false, exists_eq_left', exists_eq_left, keyOf, implies_true, fillC, capOf]
    rfl
  · obtain ⟨⟨hH8, hW8⟩, eG8⟩ := L8.1 rfl
    have l8 := L8.2
    have hm8 : wdOf G8.x G8.y G8.z G8.cs x8 y8 z8 = some ⟨x8, y8, z8, c8⟩ := by
      rw [eG8]
      show wdOf X Y Z c8 x8 y8 z8 = some ⟨x8, y8, z8, c8⟩
      exact if_pos ⟨hW8, hH8⟩
    have hg8 : CallsR PG F.impl_WidenHeap [.agg [.I G8.x, .I G8.y, .I G8.z, .ref uP8 0 G8.cs.length], .I x8, .I y8, .I z8] M9 (HeapQ M9 x8 y8 z8 c8 true) := by
      have := g_WidenHeapX (x := G8.x) (y := G8.y) (z := G8.z) (X := x8) (Y := y8) (Z := z8) (U44.pre hpD) (by omega)
      rw [hm8] at this
      exact this
    simp (disch := omega) only [f40, f41, f42, f43, f44, f45, (B44.pre hpD).cells, (B40.pre hpD).cell, ↓SXd, SXu, slBounds, ↓sop, ↓aop, ↓reduceIte, LV.cells, AOp.dst, LV.I, LV.B, LV.U, LV.S, LV.nil, Nat.reduceEqDiff, Nat.reduceAdd, Nat.reduceMul, Nat.reduceSub, Nat.reduceLeDiff, Nat.reduceBEq, Nat.reduceDiv, Nat.reduceMod, Int.reduceToNat, Int.reduceLT, Int.reduceLE, Int.reduceAdd, Int.reduceSub, Int.reduceMul, Int.reduceEq, Int.reduceNeg, reduceCtorEq, resV, resAll, ARes.ev, LV.flat, ite_true, ite_false, exists_eq_left', exists_eq_left, keyOf, implies_true, fillC, capOf]
    refine callR_of hg8 ?_
    rintro _ Q1 ⟨v58, rfl, hv58, qq1⟩
    have C58 : Live (Q1 ++ [some (.row [.I x8, .I y8, .I z8, .ref v58 0 c8.length] true 0)]) Q1.length (.row [.I x8, .I y8, .I z8, .ref v58 0 c8.length] true 0) := Live.new
    have V58 := hv58.app (L := [some (.row [.I x8, .I y8, .I z8, .ref v58 0 c8.length] true 0)])
    have r1 : Pre M9 (Q1 ++ [some (.row [.I x8, .I y8, .I z8, .ref v58 0 c8.length] true 0)]) := qq1.trans (Pre.app _ _)
    have eB40 := B40.pre (hpD.trans r1)
    simp (disch := omega) only [f40, f41, f42, f43, f44, f45, splice, Bool.not_true, eB40.cells, ↓SXd, SXu, slBounds, ↓sop, ↓aop, ↓reduceIte, LV.cells, AOp.dst, LV.I, LV.B, LV.U, LV.S, LV.nil, Nat.reduceEqDiff, Nat.reduceAdd, Nat.reduceMul, Nat.reduceSub, Nat.reduceLeDiff, Nat.reduceBEq, Nat.reduceDiv, Nat.reduceMod, Int.reduceToNat, Int.reduceLT, Int.reduceLE, Int.reduceAdd, Int.reduceSub, Int.reduceMul, Int.reduceEq, Int.reduceNeg, reduceCtorEq, resV, resAll, ARes.ev, LV.flat, ite_true, ite_false, exists_eq_left', exists_eq_left, keyOf, implies_true, fillC, capOf]
    generalize Q1.length = m58 at C58 ⊢
    generalize Q1 ++ [some (Blk.row [.I x8, .I y8, .I z8, .ref v58 0 c8.length] true 0)] = Y1 at C58 V58 r1 eB40 ⊢
    have eT8 := T8.pre (hpD.trans r1)
    have rh1 := k_rHeap (g := ⟨x8, y8, z8, c8⟩) (h := ⟨x8, y8, z8, c8⟩) (CellsV.of V58.has) (CellsV.of eT8.has) (by show c8.length ≤ _; omega) (by show c8.length ≤ _; omega)
    rw [decide_eq_true (⟨rfl, rfl⟩ : (⟨x8, y8, z8, c8⟩ : Hp).dims = (⟨x8, y8, z8, c8⟩ : Hp).dims ∧ (⟨x8, y8, z8, c8⟩ : Hp).cs = (⟨x8, y8, z8, c8⟩ : Hp).cs)] at rh1
    refine callK_of rh1 ?_
    simp (disch := omega) only [f40, f41, f42, f43, f44, f45, ↓SXd, SXu, slBounds, ↓sop, ↓aop, ↓reduceIte, LV.cells, AOp.dst, LV.I, LV.B, LV.U, LV.S, LV.nil, Nat.reduceEqDiff, Nat.reduceAdd, Nat.reduceMul, Nat.reduceSub, Nat.reduceLeDiff, Nat.reduceBEq, Nat.reduceDiv, Nat.reduceMod, Int.reduceToNat, Int.reduceLT, Int.reduceLE, Int.reduceAdd, Int.reduceSub, Int.reduceMul, Int.reduceEq, Int.reduceNeg, reduceCtorEq, resV, resAll, ARes.ev, LV.flat, ite_true, ite_false, exists_eq_left', exists_eq_left, keyOf, implies_true, fillC, capOf]
    all_goals rfl
end Go.Ab

/- Bytes that came in, opened. -/
namespace Go.Ab
open Go Go.RowKit Go.Joins Go.ChangeShapes Go.WideShapes Go.Deep Go.WideElems Go.Maps

/-- What the abstract machine is told of a slice of bytes that came in. -/
def RowOfB (w : World) (a : Option Addr) (len cap : Nat) (xs : List Nat) : Prop :=
  xs.length = len ∧ len ≤ cap ∧ cap ≤ maxLen ∧ (∀ b ∈ xs, b ≤ 255) ∧ (cap = 0 ∨ ∃ b o c e fz, a = some ⟨b, o, none⟩ ∧ w.heap[b]? = some (.cells c e fz) ∧ ∀ i, i < len → c[o + i]? = some (.int .u8 ((xs.getD i 0 : Nat) : Int)))

section
variable {H : Type} {enc : TypeId × Value → H} {P : Program} {w : World} {held : Bool}
theorem open_bytesB {ts ti : TypeId} {fuel : Nat} {cs : List Value} {x : DataW H × List MemPlace} (hts : P.underlying ts = some (.slice ti)) (hti : P.underlying ti = some (.int .u8)) (hci : P.cellsOf ti = 1)
    (h : DataW.trod enc P w 0 (fun _ => true) held fuel ts cs = some x) : ∃ a len cap xs, cs = [.slice a len cap] ∧ RowOfB w a len cap xs := by
  rcases Go.ChangeShapes.open_ints hts hti hci h with ⟨rfl, _⟩ | ⟨a, len, cap, zs, rfl, _, hl, hm, hz, _, hel, hwf⟩
  · exact ⟨none, 0, 0, [], rfl, rfl, Nat.le_refl _, Nat.zero_le _, by simp, .inl rfl⟩
  · have hzl : zs.length = cap := by simpa using hz
    have hby : ∀ n ∈ zs, 0 ≤ n ∧ n ≤ 255 := fun n hn => by
      have h1 := hwf n hn
      unfold Lit.wf at h1
      rw [Bool.and_eq_true, decide_eq_true_iff, decide_eq_true_iff] at h1
      exact h1
    refine ⟨some a, len, cap, (zs.take len).map Int.toNat, rfl, by simp; omega, hl, hm, fun b hb => ?_, ?_⟩
    · obtain ⟨n, hn, rfl⟩ := List.mem_map.1 hb
      have := hby n (List.mem_of_mem_take hn)
      omega
    rcases Nat.eq_zero_or_pos cap with h0 | h0
    · exact .inl h0
    · refine .inr ?_
      have hc0 := hel 0 (by omega)
      obtain ⟨b, o, c, e, fz, ha, hh, _⟩ := cell_heap hc0
      have ha' : a = ⟨b, o, none⟩ := by simpa [Addr.add] using ha
      subst ha'
      refine ⟨b, o, c, e, fz, rfl, hh, fun i hi => ?_⟩
      have hcell := hel i (by omega)
      have hadd : (⟨b, o, none⟩ : Addr).add i = ⟨b, o + i, none⟩ := addr_add _ _ _
      rw [hadd] at hcell
      unfold World.cell? at hcell
      simp only [hh] at hcell
      have hil : i < zs.length := by omega
      have hbi := hby _ (getD_mem' (d := 0) hil)
      have hg : ((((zs.take len).map Int.toNat).getD i 0 : Nat) : Int) = zs.getD i 0 := by
        have e1 : ((zs.take len).map Int.toNat).getD i 0 = (zs.getD i 0).toNat := by simp [hi, hil]
        rw [e1]; omega
      rw [hg]
      simpa using hcell
end
theorem byL_get {bs : List Nat} {i : Nat} (h : i < bs.length) : (byL bs)[i]? = some (.val (.int .u8 ((bs.getD i 0 : Nat) : Int))) := by simp [byL, h]
theorem Inv.addBytes' {G : Gh} {M : Mem} {w : World} (hi : Inv G M w) (hno : NoOwn M) {a : Option Addr} {len cap : Nat} {xs : List Nat} (h : RowOfB w a len cap xs) :
    ∃ (G' : Gh) (N : Mem) (t : Nat), Ext G G' ∧ Inv G' N w ∧ NoOwn N ∧ Pre M N ∧ VR1 G' (.ref t 0 len) (.slice a len cap) ∧ Bytes N t 0 xs := by
  obtain ⟨h1, h2, h3, _, h4⟩ := h
  have key : ∃ G', Ext G G' ∧ Inv G' (M ++ [some (.row (byL xs) false 1)]) w ∧ NoOwn (M ++ [some (.row (byL xs) false 1)]) ∧ VR1 G' (.ref M.length 0 len) (.slice a len cap) := by
    refine hi.addRow hno h2 (by rw [byL_len]; omega) ?_
    rcases h4 with h0 | ⟨b, o, c, e, fz, ha, hh, hc⟩
    · refine .inl ⟨h0, ?_⟩
      have : xs = [] := List.eq_nil_of_length_eq_zero (by omega)
      rw [this]; rfl
    · refine .inr ⟨b, o, c, e, fz, ha, hh, fun j l hj => ?_⟩
      have hjl : j < xs.length := by
        rw [← byL_len]
        rcases Nat.lt_or_ge j (byL xs).length with h | h
        · exact h
        · rw [List.getElem?_eq_none h] at hj; cases hj
      rw [byL_get hjl] at hj
      cases hj
      exact ⟨_, hc j (by omega), rfl, rfl⟩
  obtain ⟨G', k1, k2, k3, k4⟩ := key
  exact ⟨G', _, _, k1, k2, k3, Pre.app _ _, k4, Has.new⟩
/-- Bytes whose block has elements of one cell. -/
def BytesZ (M : Mem) (t o : Nat) (bs : List Nat) : Prop := Bytes M t o bs ∧ getEsz M t = some 1
theorem RowOfB.le {w : World} {a : Option Addr} {len cap : Nat} {xs : List Nat} (h : RowOfB w a len cap xs) : xs.length ≤ 9223372036854775807 ∧ ∀ b ∈ xs, b ≤ 255 := by
  obtain ⟨h0, h1, h2, h3, _⟩ := h
  have := max63
  exact ⟨by omega, h3⟩
end Go.Ab
