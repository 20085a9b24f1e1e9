/- Parts of the proof of FnFallingSaid: LFnFalling Re. -/
import Derived.Test.YthgljdbfkojpeaaA4
import Derived.Test.YthgljdbfkojpeaaA7
import Derived.Test.YthgljdbfkojpeaaA8
import Derived.Test.YthgljdbfkojpeaaA11
set_option linter.all false
/- The law of falling. -/
namespace Go.Ab
open Go
set_option linter.unusedSimpArgs false
set_option linter.unusedVariables false
set_option maxRecDepth 20000

theorem esz_pref {M N : Mem} {t : Nat} (h : getEsz M t = some 1) (ht : t < M.length) (hp : Pre M N) : getEsz N t = some 1 := by
  unfold getEsz at *
  rw [hp.2 t ht]; exact h
def HeapG (M : Mem) (G : Hp) (b : Bool) (v : LV) (N : Mem) : Prop := ∃ u : Nat, v = .tup [.agg [.I G.x, .I G.y, .I G.z, .ref u 0 G.cs.length], .B b] ∧ Live N u (.row (triL G.cs) true 3) ∧ Pre M N
def CellsG (M : Mem) (l : List Cell) (b : Bool) (v : LV) (N : Mem) : Prop := ∃ u : Nat, v = .tup [.ref u 0 l.length, .B b] ∧ Live N u (.row (triL l) true 3) ∧ Pre M N
def SinkG (M : Mem) (G : Hp) (k : Int) (b : Bool) (v : LV) (N : Mem) : Prop := ∃ u : Nat, v = .tup [.agg [.I G.x, .I G.y, .I G.z, .ref u 0 G.cs.length], .I k, .B b] ∧ Tri N u 0 G.cs ∧ Pre M N
theorem heapG_eq {f : FuncId} {args : List LV} {M : Mem} {r : Option Hp} {G : Hp} {b : Bool} (h : CallsR PG f args M (HeapX M r)) (h1 : r.getD Hp.none = G) (h2 : r.isSome = b) : CallsR PG f args M (HeapG M G b) := by
  subst h1 h2
  exact h
theorem cellsG_eq {f : FuncId} {args : List LV} {M : Mem} {r : Option (List Cell)} {l : List Cell} {b : Bool} (h : CallsR PG f args M (CellsX M r)) (h1 : r.getD [] = l) (h2 : r.isSome = b) : CallsR PG f args M (CellsG M l b) := by
  subst h1 h2
  exact h
theorem sinkG_eq {f : FuncId} {args : List LV} {M : Mem} {r : Option Hp} {G : Hp} {k k' : Int} {b : Bool} (h : CallsR PG f args M (HeapRes M r [.I k'])) (h1 : r.getD Hp.none = G) (h2 : r.isSome = b) (h3 : k' = k) : CallsR PG f args M (SinkG M G k b) := by
  subst h1 h2 h3
  refine h.den (e := 3) ?_
  rintro v N ⟨w, rfl, hw, _, hp⟩
  rcases hw with ⟨rfl, hc⟩ | ⟨u, ex, rfl, hu⟩
  · refine .inr ⟨.tup [.agg [.I (r.getD Hp.none).x, .I (r.getD Hp.none).y, .I (r.getD Hp.none).z, .ref N.length 0 0], .I k', .B r.isSome], .inr ⟨_, _, rfl, rfl, .inr ⟨_, _, rfl, rfl, .rfl, .rfl, .rfl, .nil, trivial⟩, .rfl, .rfl, trivial⟩, N.length, by rw [hc]; rfl, ?_, hp.trans (Pre.app _ _)⟩
    rw [hc]
    exact (Live.new (b := .row [] true 3)).has
  · rw [triL_append] at hu
    exact .inl ⟨u, rfl, hu.hasL, hp⟩
theorem g_ViewOf2T {x y z : Int} {t o : Nat} {cs : List Cell} {M : Mem} (h : Tri M t o cs) (hH : HeapOK x y z cs) : CallsR PG F.impl_ViewOf [.agg [.I x, .I y, .I z, .ref t o cs.length], .I 2] M fun v N => ∃ u : Nat, v = .tup [.ref u 0 (viewL x y z 2 cs).length, .B true] ∧ Live N u (.row (intL (viewL x y z 2 cs)) true 1) ∧ Pre M N := by
  have hlen := hH.len
  have hpk : pick x y z (fun c => decide (c ∈ cs)) = cs := hH.pick.symm
  refine callsR_run K.impl_ViewOf rfl ?_
  simp (disch := omega) only [C.impl_ViewOf, ↓SXd, SXu, slBounds, ↓sop, ↓aop, ↓reduceIte, LV.cells, AOp.dst, LV.I, LV.B, LV.U, LV.S, LV.nil, Nat.reduceEqDiff, Nat.reduceAdd, Nat.reduceMul, Nat.reduceSub, Nat.reduceLeDiff, Nat.reduceBEq, Nat.reduceDiv, Nat.reduceMod, Int.reduceToNat, Int.reduceLT, Int.reduceLE, Int.reduceAdd, Int.reduceSub, Int.reduceMul, Int.reduceEq, Int.reduceNeg, reduceCtorEq, resV, resAll, ARes.ev, LV.flat, ite_true, ite_false, exists_eq_left', exists_eq_left, keyOf, implies_true, fillC, capOf]
  refine callK_of (g_IsHeap h.app (by omega)) ?_
  simp (disch := omega) only [↓SXd, SXu, slBounds, ↓sop, ↓aop, ↓reduceIte, LV.cells, AOp.dst, LV.I, LV.B, LV.U, LV.S, LV.nil, Nat.reduceEqDiff, Nat.reduceAdd, Nat.reduceMul, Nat.reduceSub, Nat.reduceLeDiff, Nat.reduceBEq, Nat.reduceDiv, Nat.reduceMod, Int.reduceToNat, Int.reduceLT, Int.reduceLE, Int.reduceAdd, Int.reduceSub, Int.reduceMul, Int.reduceEq, Int.reduceNeg, reduceCtorEq, resV, resAll, ARes.ev, LV.flat, ite_true, ite_false, exists_eq_left', exists_eq_left, keyOf, implies_true, fillC, capOf]
  have hisd : ∀ {M : Mem}, CallsTo PG F.impl_isDirection [.I 2] M (.B true) M := fun {M} => by
    refine calls_run K.impl_isDirection rfl ?_
    simp (disch := omega) only [C.impl_isDirection, ↓SXd, SXu, slBounds, ↓sop, ↓aop, ↓reduceIte, LV.cells, AOp.dst, LV.I, LV.B, LV.U, LV.S, LV.nil, Nat.reduceEqDiff, Nat.reduceAdd, Nat.reduceMul, Nat.reduceSub, Nat.reduceLeDiff, Nat.reduceBEq, Nat.reduceDiv, Nat.reduceMod, Int.reduceToNat, Int.reduceLT, Int.reduceLE, Int.reduceAdd, Int.reduceSub, Int.reduceMul, Int.reduceEq, Int.reduceNeg, reduceCtorEq, resV, resAll, ARes.ev, LV.flat, ite_true, ite_false, exists_eq_left', exists_eq_left, keyOf, implies_true, fillC, capOf]
    refine callK_of (g_within) ?_
    simp (disch := omega) only [↓SXd, SXu, slBounds, ↓sop, ↓aop, ↓reduceIte, LV.cells, AOp.dst, LV.I, LV.B, LV.U, LV.S, LV.nil, Nat.reduceEqDiff, Nat.reduceAdd, Nat.reduceMul, Nat.reduceSub, Nat.reduceLeDiff, Nat.reduceBEq, Nat.reduceDiv, Nat.reduceMod, Int.reduceToNat, Int.reduceLT, Int.reduceLE, Int.reduceAdd, Int.reduceSub, Int.reduceMul, Int.reduceEq, Int.reduceNeg, reduceCtorEq, resV, resAll, ARes.ev, LV.flat, ite_true, ite_false, exists_eq_left', exists_eq_left, keyOf, implies_true, fillC, capOf]
    exact cmp_drop0 rfl
  simp (disch := omega) only [hH, ↓SXd, SXu, slBounds, ↓sop, ↓aop, ↓reduceIte, LV.cells, AOp.dst, LV.I, LV.B, LV.U, LV.S, LV.nil, Nat.reduceEqDiff, Nat.reduceAdd, Nat.reduceMul, Nat.reduceSub, Nat.reduceLeDiff, Nat.reduceBEq, Nat.reduceDiv, Nat.reduceMod, Int.reduceToNat, Int.reduceLT, Int.reduceLE, Int.reduceAdd, Int.reduceSub, Int.reduceMul, Int.reduceEq, Int.reduceNeg, reduceCtorEq, resV, resAll, ARes.ev, LV.flat, ite_true, ite_false, exists_eq_left', exists_eq_left, keyOf, implies_true, fillC, capOf]
  refine callK_of (hisd) ?_
  simp (disch := omega) only [↓SXd, SXu, slBounds, ↓sop, ↓aop, ↓reduceIte, LV.cells, AOp.dst, LV.I, LV.B, LV.U, LV.S, LV.nil, Nat.reduceEqDiff, Nat.reduceAdd, Nat.reduceMul, Nat.reduceSub, Nat.reduceLeDiff, Nat.reduceBEq, Nat.reduceDiv, Nat.reduceMod, Int.reduceToNat, Int.reduceLT, Int.reduceLE, Int.reduceAdd, Int.reduceSub, Int.reduceMul, Int.reduceEq, Int.reduceNeg, reduceCtorEq, resV, resAll, ARes.ev, LV.flat, ite_true, ite_false, exists_eq_left', exists_eq_left, keyOf, implies_true, fillC, capOf]
  refine callK_of (g_box) ?_
  simp (disch := omega) only [↓SXd, SXu, slBounds, ↓sop, ↓aop, ↓reduceIte, LV.cells, AOp.dst, LV.I, LV.B, LV.U, LV.S, LV.nil, Nat.reduceEqDiff, Nat.reduceAdd, Nat.reduceMul, Nat.reduceSub, Nat.reduceLeDiff, Nat.reduceBEq, Nat.reduceDiv, Nat.reduceMod, Int.reduceToNat, Int.reduceLT, Int.reduceLE, Int.reduceAdd, Int.reduceSub, Int.reduceMul, Int.reduceEq, Int.reduceNeg, reduceCtorEq, resV, resAll, ARes.ev, LV.flat, ite_true, ite_false, exists_eq_left', exists_eq_left, keyOf, implies_true, fillC, capOf]
  refine callK_of (g_cubes h.app (by omega) hH.1 (fun c hc => hH.mem hc)) ?_
  simp (disch := omega) only [↓SXd, SXu, slBounds, ↓sop, ↓aop, ↓reduceIte, LV.cells, AOp.dst, LV.I, LV.B, LV.U, LV.S, LV.nil, Nat.reduceEqDiff, Nat.reduceAdd, Nat.reduceMul, Nat.reduceSub, Nat.reduceLeDiff, Nat.reduceBEq, Nat.reduceDiv, Nat.reduceMod, Int.reduceToNat, Int.reduceLT, Int.reduceLE, Int.reduceAdd, Int.reduceSub, Int.reduceMul, Int.reduceEq, Int.reduceNeg, reduceCtorEq, resV, resAll, ARes.ev, LV.flat, ite_true, ite_false, exists_eq_left', exists_eq_left, keyOf, implies_true, fillC, capOf]
  have hgv := g_view (x := x) (y := y) (z := z) (d := 2) (p := fun c => decide (c ∈ cs)) (M := M ++ [some (.row [.I x, .I y, .I z, .ref t o cs.length] true 0)]) hH.1 (by omega)
  rw [hpk] at hgv
  refine callK_of (hgv) ?_
  simp (disch := omega) only [↓SXd, SXu, slBounds, ↓sop, ↓aop, ↓reduceIte, LV.cells, AOp.dst, LV.I, LV.B, LV.U, LV.S, LV.nil, Nat.reduceEqDiff, Nat.reduceAdd, Nat.reduceMul, Nat.reduceSub, Nat.reduceLeDiff, Nat.reduceBEq, Nat.reduceDiv, Nat.reduceMod, Int.reduceToNat, Int.reduceLT, Int.reduceLE, Int.reduceAdd, Int.reduceSub, Int.reduceMul, Int.reduceEq, Int.reduceNeg, reduceCtorEq, resV, resAll, ARes.ev, LV.flat, ite_true, ite_false, exists_eq_left', exists_eq_left, keyOf, implies_true, fillC, capOf]
  exact ⟨M.length + 1, rfl, Live.newj (j := 1) rfl, Pre.app _ _⟩
theorem g_HangingT {x y z : Int} {t o : Nat} {cs : List Cell} {M : Mem} (h : Tri M t o cs) (hH : HeapOK x y z cs) : CallsR PG F.impl_HangingCubes [.agg [.I x, .I y, .I z, .ref t o cs.length]] M (CellsG M (hngL x y z cs) true) := by
  have hlen := hH.len
  refine callsR_run K.impl_HangingCubes rfl ?_
  simp (disch := omega) only [C.impl_HangingCubes, ↓SXd, SXu, slBounds, ↓sop, ↓aop, ↓reduceIte, LV.cells, AOp.dst, LV.I, LV.B, LV.U, LV.S, LV.nil, Nat.reduceEqDiff, Nat.reduceAdd, Nat.reduceMul, Nat.reduceSub, Nat.reduceLeDiff, Nat.reduceBEq, Nat.reduceDiv, Nat.reduceMod, Int.reduceToNat, Int.reduceLT, Int.reduceLE, Int.reduceAdd, Int.reduceSub, Int.reduceMul, Int.reduceEq, Int.reduceNeg, reduceCtorEq, resV, resAll, ARes.ev, LV.flat, ite_true, ite_false, exists_eq_left', exists_eq_left, keyOf, implies_true, fillC, capOf]
  refine callK_of (g_IsHeap h.app (by omega)) ?_
  simp (disch := omega) only [hH, ↓SXd, SXu, slBounds, ↓sop, ↓aop, ↓reduceIte, LV.cells, AOp.dst, LV.I, LV.B, LV.U, LV.S, LV.nil, Nat.reduceEqDiff, Nat.reduceAdd, Nat.reduceMul, Nat.reduceSub, Nat.reduceLeDiff, Nat.reduceBEq, Nat.reduceDiv, Nat.reduceMod, Int.reduceToNat, Int.reduceLT, Int.reduceLE, Int.reduceAdd, Int.reduceSub, Int.reduceMul, Int.reduceEq, Int.reduceNeg, reduceCtorEq, resV, resAll, ARes.ev, LV.flat, ite_true, ite_false, exists_eq_left', exists_eq_left, keyOf, implies_true, fillC, capOf]
  refine callK_of (g_box) ?_
  simp (disch := omega) only [↓SXd, SXu, slBounds, ↓sop, ↓aop, ↓reduceIte, LV.cells, AOp.dst, LV.I, LV.B, LV.U, LV.S, LV.nil, Nat.reduceEqDiff, Nat.reduceAdd, Nat.reduceMul, Nat.reduceSub, Nat.reduceLeDiff, Nat.reduceBEq, Nat.reduceDiv, Nat.reduceMod, Int.reduceToNat, Int.reduceLT, Int.reduceLE, Int.reduceAdd, Int.reduceSub, Int.reduceMul, Int.reduceEq, Int.reduceNeg, reduceCtorEq, resV, resAll, ARes.ev, LV.flat, ite_true, ite_false, exists_eq_left', exists_eq_left, keyOf, implies_true, fillC, capOf]
  refine callK_of (g_cubes h.app (by omega) hH.1 (fun c hc => hH.mem hc)) ?_
  simp (disch := omega) only [↓SXd, SXu, slBounds, ↓sop, ↓aop, ↓reduceIte, LV.cells, AOp.dst, LV.I, LV.B, LV.U, LV.S, LV.nil, Nat.reduceEqDiff, Nat.reduceAdd, Nat.reduceMul, Nat.reduceSub, Nat.reduceLeDiff, Nat.reduceBEq, Nat.reduceDiv, Nat.reduceMod, Int.reduceToNat, Int.reduceLT, Int.reduceLE, Int.reduceAdd, Int.reduceSub, Int.reduceMul, Int.reduceEq, Int.reduceNeg, reduceCtorEq, resV, resAll, ARes.ev, LV.flat, ite_true, ite_false, exists_eq_left', exists_eq_left, keyOf, implies_true, fillC, capOf]
  refine callK_of (g_box) ?_
  simp (disch := omega) only [↓SXd, SXu, slBounds, ↓sop, ↓aop, ↓reduceIte, LV.cells, AOp.dst, LV.I, LV.B, LV.U, LV.S, LV.nil, Nat.reduceEqDiff, Nat.reduceAdd, Nat.reduceMul, Nat.reduceSub, Nat.reduceLeDiff, Nat.reduceBEq, Nat.reduceDiv, Nat.reduceMod, Int.reduceToNat, Int.reduceLT, Int.reduceLE, Int.reduceAdd, Int.reduceSub, Int.reduceMul, Int.reduceEq, Int.reduceNeg, reduceCtorEq, resV, resAll, ARes.ev, LV.flat, ite_true, ite_false, exists_eq_left', exists_eq_left, keyOf, implies_true, fillC, capOf]
  refine callK_of (g_cubes h.app (by omega) hH.1 (fun c hc => hH.mem hc)) ?_
  simp (disch := omega) only [↓SXd, SXu, slBounds, ↓sop, ↓aop, ↓reduceIte, LV.cells, AOp.dst, LV.I, LV.B, LV.U, LV.S, LV.nil, Nat.reduceEqDiff, Nat.reduceAdd, Nat.reduceMul, Nat.reduceSub, Nat.reduceLeDiff, Nat.reduceBEq, Nat.reduceDiv, Nat.reduceMod, Int.reduceToNat, Int.reduceLT, Int.reduceLE, Int.reduceAdd, Int.reduceSub, Int.reduceMul, Int.reduceEq, Int.reduceNeg, reduceCtorEq, resV, resAll, ARes.ev, LV.flat, ite_true, ite_false, exists_eq_left', exists_eq_left, keyOf, implies_true, fillC, capOf]
  refine callK_of (g_standing hH.1) ?_
  simp (disch := omega) only [↓SXd, SXu, slBounds, ↓sop, ↓aop, ↓reduceIte, LV.cells, AOp.dst, LV.I, LV.B, LV.U, LV.S, LV.nil, Nat.reduceEqDiff, Nat.reduceAdd, Nat.reduceMul, Nat.reduceSub, Nat.reduceLeDiff, Nat.reduceBEq, Nat.reduceDiv, Nat.reduceMod, Int.reduceToNat, Int.reduceLT, Int.reduceLE, Int.reduceAdd, Int.reduceSub, Int.reduceMul, Int.reduceEq, Int.reduceNeg, reduceCtorEq, resV, resAll, ARes.ev, LV.flat, ite_true, ite_false, exists_eq_left', exists_eq_left, keyOf, implies_true, fillC, capOf]
  rw [bs_diff hH.1]
  refine callK_of (g_list hH.1) ?_
  simp (disch := omega) only [↓SXd, SXu, slBounds, ↓sop, ↓aop, ↓reduceIte, LV.cells, AOp.dst, LV.I, LV.B, LV.U, LV.S, LV.nil, Nat.reduceEqDiff, Nat.reduceAdd, Nat.reduceMul, Nat.reduceSub, Nat.reduceLeDiff, Nat.reduceBEq, Nat.reduceDiv, Nat.reduceMod, Int.reduceToNat, Int.reduceLT, Int.reduceLE, Int.reduceAdd, Int.reduceSub, Int.reduceMul, Int.reduceEq, Int.reduceNeg, reduceCtorEq, resV, resAll, ARes.ev, LV.flat, ite_true, ite_false, exists_eq_left', exists_eq_left, keyOf, implies_true, fillC, capOf]
  exact ⟨M.length + 1, rfl, Live.newj (j := 1) rfl, Pre.app _ _⟩
/-- What falling answers, in one. -/
theorem fall_facts (x y z : Int) (cs : List Cell) : ∃ (D K : Hp) (S H : List Cell) (s l k : Int) (b : Bool), (drpOf x y z cs).getD Hp.none = D ∧ (drpOf x y z cs).isSome = b ∧ (sinkOf x y z cs).getD Hp.none = K ∧ (sinkOf x y z cs).isSome = b ∧ sinkTimes x y z cs = k ∧ (stdOf x y z cs).getD [] = S ∧ (stdOf x y z cs).isSome = b ∧ (hngOf x y z cs).getD [] = H ∧ (hngOf x y z cs).isSome = b ∧
    (fsOf x y z cs).getD 0 = s ∧ (fsOf x y z cs).isSome = b ∧ (lbOf x y z cs).getD 0 = l ∧ (lbOf x y z cs).isSome = b ∧ D.cs.length ≤ 1000 ∧ K.cs.length ≤ 1000 ∧ S.length ≤ 1000 ∧ H.length ≤ 1000 ∧
    (b = true → HeapOK x y z cs ∧ D = ⟨x, y, z, drpX x y z cs⟩ ∧ K = ⟨x, y, z, pick x y z (sink x y z 1000 fun c => decide (c ∈ cs)).1⟩ ∧ S = stdL x y z cs ∧ H = hngL x y z cs ∧ s = (sumC cs : Int) - sumC (drpX x y z cs) ∧ l = (lsN cs : Nat) ∧ k = ((sink x y z 1000 fun c => decide (c ∈ cs)).2 : Nat)) := by
  by_cases hH : HeapOK x y z cs
  · rw [show drpOf x y z cs = some ⟨x, y, z, drpX x y z cs⟩ from if_pos hH, show sinkOf x y z cs = some ⟨x, y, z, pick x y z (sink x y z 1000 fun c => decide (c ∈ cs)).1⟩ from if_pos hH, show stdOf x y z cs = some (stdL x y z cs) from if_pos hH, show hngOf x y z cs = some (hngL x y z cs) from if_pos hH, show fsOf x y z cs = some ((sumC cs : Int) - sumC (drpX x y z cs)) from if_pos hH, show lbOf x y z cs = some ((lsN cs : Nat) : Int) from if_pos hH, show sinkTimes x y z cs = ((sink x y z 1000 fun c => decide (c ∈ cs)).2 : Nat) from if_pos hH]
    have a1 : (drpX x y z cs).length ≤ 64 := pick_len hH.1 _
    have a2 : (stdL x y z cs).length ≤ 64 := pick_len hH.1 _
    have a3 : (hngL x y z cs).length ≤ 64 := pick_len hH.1 _
    have a4 := pick_len hH.1 (sink x y z 1000 fun c => decide (c ∈ cs)).1
    exact ⟨_, _, _, _, _, _, _, true, rfl, rfl, rfl, rfl, rfl, rfl, rfl, rfl, rfl, rfl, rfl, rfl, rfl, Nat.le_trans a1 (by omega), Nat.le_trans a4 (by omega), Nat.le_trans a2 (by omega), Nat.le_trans a3 (by omega), fun _ => ⟨hH, rfl, rfl, rfl, rfl, rfl, rfl, rfl⟩⟩
  · rw [show drpOf x y z cs = none from if_neg hH, show sinkOf x y z cs = none from if_neg hH, show stdOf x y z cs = none from if_neg hH, show hngOf x y z cs = none from if_neg hH, show fsOf x y z cs = none from if_neg hH, show lbOf x y z cs = none from if_neg hH]
    exact ⟨_, _, _, _, _, _, _, false, rfl, rfl, rfl, rfl, rfl, rfl, rfl, rfl, rfl, rfl, rfl, rfl, rfl, by simp [Hp.none], by simp [Hp.none], by simp, by simp, fun e => Bool.noConfusion e⟩
/-- What the law says of a heap. -/
theorem fall_law {x y z : Int} {cs : List Cell} (hH : HeapOK x y z cs) : let Q := pick x y z (sink x y z 1000 fun c => decide (c ∈ cs)).1
    viewL x y z 2 (drpX x y z cs) = viewL x y z 2 cs ∧ viewL x y z 2 Q = viewL x y z 2 cs ∧ drpX x y z (drpX x y z cs) = drpX x y z cs ∧ hngL x y z Q = [] ∧ hngL x y z (drpX x y z cs) = [] ∧
    (drpX x y z cs = cs ↔ (sumC cs : Int) - sumC (drpX x y z cs) = 0) ∧ (drpX x y z cs = cs ↔ ((lsN cs : Nat) : Int) = 0) ∧ (stdL x y z cs).length + (hngL x y z cs).length = cs.length ∧ (∀ c ∈ stdL x y z cs, c ∈ Q) ∧ ((sink x y z 1000 fun c => decide (c ∈ cs)).2 = 0 ↔ (hngL x y z cs).length = 0) ∧ (sink x y z 1000 fun c => decide (c ∈ cs)).2 ≤ 3 := by
  intro Q
  have hS := hH.1
  have hpk : pick x y z (inP cs) = cs := heap_pick hH
  have hpk' : pick x y z (fun c => decide (c ∈ cs)) = cs := hpk
  have hdr : drpX x y z cs = pick x y z (stackP y (viewL x y z 2 (pick x y z (inP cs)))) := by rw [hpk]; rfl
  have v1 : viewL x y z 2 (drpX x y z cs) = viewL x y z 2 cs := by
    have := view_stack hS (p := inP cs)
    rw [hpk] at this
    exact this
  have hz := hS.2.2
  have sl := sink_law hS 1000 0 (fun c => decide (c ∈ cs)) (sumC_le hS _) (by omega) (fun c hc hh => by have := hc.2.2; omega)
  rw [hpk'] at sl
  have nohang : ∀ {p : Cell → Bool}, Firm x y z p → hngL x y z (pick x y z p) = [] := fun {p} hF => by
    unfold hngL pick
    rw [List.filter_eq_nil_iff]
    intro c hc hh
    have hcb := (mem_cellsOf hS).1 hc
    have hcg : ∀ c, c.inBox x y z → inP (pick x y z p) c = p c := fun c hc => by
      unfold inP
      rw [Bool.eq_iff_iff, decide_eq_true_iff, mem_pick hS]; exact ⟨fun e => e.2, fun e => ⟨hc, e⟩⟩
    change hang x y z (inP (pick x y z p)) c = true at hh
    unfold hang at hh
    rw [stand_congr hcg, hcg c hcb, Bool.and_eq_true] at hh
    rw [hF c hcb hh.1] at hh
    exact Bool.noConfusion hh.2
  have hset : drpX x y z cs = cs ↔ Filled1 x y z (inP cs) := by
    have := settled_iff hS (p := inP cs)
    rw [hpk] at this
    exact this
  refine ⟨v1, sl.2.2.1, ?_, nohang sl.1, nohang (filled_firm hS (stack_filled hS)), ?_, ?_, ?_, fun c hc => ?_, ?_, by have := sl.2.2.2.1; omega⟩
  · unfold drpX
    rw [show viewL x y z 2 (pick x y z (stackP y (viewL x y z 2 cs))) = viewL x y z 2 cs from v1]
  · constructor
    · intro e
      rw [e]; omega
    · intro e
      rcases drop_sum hS _ (inP cs) rfl with hf | hf
      · exact hset.2 hf
      · rw [hpk] at hf
        have : sumC (drpX x y z cs) < sumC cs := hf
        omega
  · rw [hset, ← loose_filled hS, ← filter_pick (inP cs) (looseP (inP cs)), hpk]
    unfold lsN
    omega
  · have := pick_part (x := x) (y := y) (z := z) (inP cs) (stand x y z (inP cs))
    rw [hpk, pick_congr hS (q := stand x y z (inP cs)) fun c _ => by
      cases hs : stand x y z (inP cs) c with
      | true => rw [stand_sub hs]; rfl
      | false => simp] at this
    exact this
  · obtain ⟨h1, h2⟩ := (mem_pick hS).1 hc
    exact (mem_pick hS).2 ⟨h1, sl.2.1 c h2⟩
  · rw [sl.2.2.2.2, ← firm_hang hS, parted_t hS]
    exact Iff.rfl
theorem l_FnFalling {t : Nat} {bs : List Nat} {M : Mem} (hh : Bytes M t 0 bs ∧ getEsz M t = some 1) (hn : bs.length ≤ 9223372036854775807 ∧ ∀ b ∈ bs, b ≤ 255) :
    CallsR PG F.laws_FnFalling [.ref t 0 bs.length] M fun v _ => v = .B true := by
  obtain ⟨h, hesz⟩ := hh
  have htM := h.lt
  refine callsR_run K.laws_FnFalling rfl ?_
  simp (disch := omega) only [C.laws_FnFalling, ↓SXd, SXu, slBounds, ↓sop, ↓aop, ↓reduceIte, LV.cells, AOp.dst, LV.I, LV.B, LV.U, LV.S, LV.nil, Nat.reduceEqDiff, Nat.reduceAdd, Nat.reduceMul, Nat.reduceSub, Nat.reduceLeDiff, Nat.reduceBEq, Nat.reduceDiv, Nat.reduceMod, Int.reduceToNat, Int.reduceLT, Int.reduceLE, Int.reduceAdd, Int.reduceSub, Int.reduceMul, Int.reduceEq, Int.reduceNeg, reduceCtorEq, resV, resAll, ARes.ev, LV.flat, ite_true, ite_false, exists_eq_left', exists_eq_left, keyOf, implies_true, fillC, capOf]
  refine callK_of (k_vBig hn.1) ?_
  simp (disch := omega) only [↓SXd, SXu, slBounds, ↓sop, ↓aop, ↓reduceIte, LV.cells, AOp.dst, LV.I, LV.B, LV.U, LV.S, LV.nil, Nat.reduceEqDiff, Nat.reduceAdd, Nat.reduceMul, Nat.reduceSub, Nat.reduceLeDiff, Nat.reduceBEq, Nat.reduceDiv, Nat.reduceMod, Int.reduceToNat, Int.reduceLT, Int.reduceLE, Int.reduceAdd, Int.reduceSub, Int.reduceMul, Int.reduceEq, Int.reduceNeg, reduceCtorEq, resV, resAll, ARes.ev, LV.flat, ite_true, ite_false, exists_eq_left', exists_eq_left, keyOf, implies_true, fillC, capOf]
  by_cases hbig : (65536 : Int) < (bs.length : Nat)
  · simp (disch := omega) only [hbig, ↓SXd, SXu, slBounds, ↓sop, ↓aop, ↓reduceIte, LV.cells, AOp.dst, LV.I, LV.B, LV.U, LV.S, LV.nil, Nat.reduceEqDiff, Nat.reduceAdd, Nat.reduceMul, Nat.reduceSub, Nat.reduceLeDiff, Nat.reduceBEq, Nat.reduceDiv, Nat.reduceMod, Int.reduceToNat, Int.reduceLT, Int.reduceLE, Int.reduceAdd, Int.reduceSub, Int.reduceMul, Int.reduceEq, Int.reduceNeg, reduceCtorEq, resV, resAll, ARes.ev, LV.flat, ite_true, ite_false, exists_eq_left', exists_eq_left, keyOf, implies_true, fillC, capOf]
    rfl
  have hl : bs.length ≤ 1000000000 := by omega
  have hl6 : bs.length ≤ 1000000 := by omega
  simp (disch := omega) only [hbig, ↓SXd, SXu, slBounds, ↓sop, ↓aop, ↓reduceIte, LV.cells, AOp.dst, LV.I, LV.B, LV.U, LV.S, LV.nil, Nat.reduceEqDiff, Nat.reduceAdd, Nat.reduceMul, Nat.reduceSub, Nat.reduceLeDiff, Nat.reduceBEq, Nat.reduceDiv, Nat.reduceMod, Int.reduceToNat, Int.reduceLT, Int.reduceLE, Int.reduceAdd, Int.reduceSub, Int.reduceMul, Int.reduceEq, Int.reduceNeg, reduceCtorEq, resV, resAll, ARes.ev, LV.flat, ite_true, ite_false, exists_eq_left', exists_eq_left, keyOf, implies_true, fillC, capOf]
  refine callR_of (d_DrawDropHeap h hn.2 hl) ?_
  rintro _ N1 ⟨⟨x, y, z, cs, u, rfl, hu, hul, hcl⟩, hp1⟩
  have hcn : cs.length ≤ 1000000000 := by omega
  obtain ⟨D, K, S, H, s, l, k, b, eD, bD, eK, bK, ek, eS, bS, eH, bH, es, bs', el, bl, lD, lK, lS, lH, hV⟩ := fall_facts x y z cs
  have B3 : Live (N1 ++ [some (.row [.I x, .I y, .I z, .ref u 0 cs.length] true 0)]) N1.length (.row [.I x, .I y, .I z, .ref u 0 cs.length] true 0) := Live.new
  have T := hu.app (L := [some (.row [.I x, .I y, .I z, .ref u 0 cs.length] true 0)])
  have q1 : Pre M (N1 ++ [some (.row [.I x, .I y, .I z, .ref u 0 cs.length] true 0)]) := hp1.trans (Pre.app _ _)
  simp (disch := omega) only [splice, ↓SXd, SXu, slBounds, ↓sop, ↓aop, ↓reduceIte, LV.cells, AOp.dst, LV.I, LV.B, LV.U, LV.S, LV.nil, Nat.reduceEqDiff, Nat.reduceAdd, Nat.reduceMul, Nat.reduceSub, Nat.reduceLeDiff, Nat.reduceBEq, Nat.reduceDiv, Nat.reduceMod, Int.reduceToNat, Int.reduceLT, Int.reduceLE, Int.reduceAdd, Int.reduceSub, Int.reduceMul, Int.reduceEq, Int.reduceNeg, reduceCtorEq, resV, resAll, ARes.ev, LV.flat, ite_true, ite_false, exists_eq_left', exists_eq_left, keyOf, implies_true, fillC, capOf]
  generalize N1.length = m3 at B3 ⊢
  generalize N1 ++ [some (Blk.row [.I x, .I y, .I z, .ref u 0 cs.length] true 0)] = W1 at B3 T q1 ⊢
  refine callR_of (heapG_eq (g_DropHeapX T hcn) eD bD) ?_
  rintro _ N2 ⟨v4, rfl, hv4, hp2⟩
  have B4 : Live (N2 ++ [some (.row [.I D.x, .I D.y, .I D.z, .ref v4 0 D.cs.length] true 0)]) N2.length (.row [.I D.x, .I D.y, .I D.z, .ref v4 0 D.cs.length] true 0) := Live.new
  have U4 := hv4.app (L := [some (.row [.I D.x, .I D.y, .I D.z, .ref v4 0 D.cs.length] true 0)])
  have q2 : Pre W1 (N2 ++ [some (.row [.I D.x, .I D.y, .I D.z, .ref v4 0 D.cs.length] true 0)]) := hp2.trans (Pre.app _ _)
  have eB3 := B3.pre (q2)
  simp (disch := omega) only [splice, eB3.cells, ↓SXd, SXu, slBounds, ↓sop, ↓aop, ↓reduceIte, LV.cells, AOp.dst, LV.I, LV.B, LV.U, LV.S, LV.nil, Nat.reduceEqDiff, Nat.reduceAdd, Nat.reduceMul, Nat.reduceSub, Nat.reduceLeDiff, Nat.reduceBEq, Nat.reduceDiv, Nat.reduceMod, Int.reduceToNat, Int.reduceLT, Int.reduceLE, Int.reduceAdd, Int.reduceSub, Int.reduceMul, Int.reduceEq, Int.reduceNeg, reduceCtorEq, resV, resAll, ARes.ev, LV.flat, ite_true, ite_false, exists_eq_left', exists_eq_left, keyOf, implies_true, fillC, capOf]
  generalize N2.length = m4 at B4 ⊢
  generalize N2 ++ [some (Blk.row [.I D.x, .I D.y, .I D.z, .ref v4 0 D.cs.length] true 0)] = W2 at B4 U4 q2 eB3 ⊢
  refine callR_of (heapG_eq (h_sDropHeap (T.pre (q2)) hcn) eD bD) ?_
  rintro _ N3 ⟨v6, rfl, hv6, hp3⟩
  have B6 : Live (N3 ++ [some (.row [.I D.x, .I D.y, .I D.z, .ref v6 0 D.cs.length] true 0)]) N3.length (.row [.I D.x, .I D.y, .I D.z, .ref v6 0 D.cs.length] true 0) := Live.new
  have U6 := hv6.app (L := [some (.row [.I D.x, .I D.y, .I D.z, .ref v6 0 D.cs.length] true 0)])
  have q3 : Pre W2 (N3 ++ [some (.row [.I D.x, .I D.y, .I D.z, .ref v6 0 D.cs.length] true 0)]) := hp3.trans (Pre.app _ _)
  have eB3 := B3.pre ((q2).trans q3)
  simp (disch := omega) only [splice, eB3.cells, ↓SXd, SXu, slBounds, ↓sop, ↓aop, ↓reduceIte, LV.cells, AOp.dst, LV.I, LV.B, LV.U, LV.S, LV.nil, Nat.reduceEqDiff, Nat.reduceAdd, Nat.reduceMul, Nat.reduceSub, Nat.reduceLeDiff, Nat.reduceBEq, Nat.reduceDiv, Nat.reduceMod, Int.reduceToNat, Int.reduceLT, Int.reduceLE, Int.reduceAdd, Int.reduceSub, Int.reduceMul, Int.reduceEq, Int.reduceNeg, reduceCtorEq, resV, resAll, ARes.ev, LV.flat, ite_true, ite_false, exists_eq_left', exists_eq_left, keyOf, implies_true, fillC, capOf]
  generalize N3.length = m6 at B6 ⊢
  generalize N3 ++ [some (Blk.row [.I D.x, .I D.y, .I D.z, .ref v6 0 D.cs.length] true 0)] = W3 at B6 U6 q3 eB3 ⊢
  refine callR_of (g_FallSum (T.pre (q2.trans (q3))) hcn) ?_
  rintro _ W4 ⟨rfl, hp4⟩
  rw [es, bs']
  simp (disch := omega) only [(B3.pre (q2.trans (q3.trans (hp4)))).cells, ↓SXd, SXu, slBounds, ↓sop, ↓aop, ↓reduceIte, LV.cells, AOp.dst, LV.I, LV.B, LV.U, LV.S, LV.nil, Nat.reduceEqDiff, Nat.reduceAdd, Nat.reduceMul, Nat.reduceSub, Nat.reduceLeDiff, Nat.reduceBEq, Nat.reduceDiv, Nat.reduceMod, Int.reduceToNat, Int.reduceLT, Int.reduceLE, Int.reduceAdd, Int.reduceSub, Int.reduceMul, Int.reduceEq, Int.reduceNeg, reduceCtorEq, resV, resAll, ARes.ev, LV.flat, ite_true, ite_false, exists_eq_left', exists_eq_left, keyOf, implies_true, fillC, capOf]
  refine callR_of (h_sFallSum (T.pre (q2.trans (q3.trans (hp4)))) hcn) ?_
  rintro _ W5 ⟨rfl, hp5⟩
  rw [es, bs']
  simp (disch := omega) only [(B3.pre (q2.trans (q3.trans (hp4.trans (hp5))))).cells, ↓SXd, SXu, slBounds, ↓sop, ↓aop, ↓reduceIte, LV.cells, AOp.dst, LV.I, LV.B, LV.U, LV.S, LV.nil, Nat.reduceEqDiff, Nat.reduceAdd, Nat.reduceMul, Nat.reduceSub, Nat.reduceLeDiff, Nat.reduceBEq, Nat.reduceDiv, Nat.reduceMod, Int.reduceToNat, Int.reduceLT, Int.reduceLE, Int.reduceAdd, Int.reduceSub, Int.reduceMul, Int.reduceEq, Int.reduceNeg, reduceCtorEq, resV, resAll, ARes.ev, LV.flat, ite_true, ite_false, exists_eq_left', exists_eq_left, keyOf, implies_true, fillC, capOf]
  refine callR_of (cellsG_eq (g_StandingX (T.pre (q2.trans (q3.trans (hp4.trans (hp5))))) hcn) eS bS) ?_
  rintro _ W6 ⟨vS1, rfl, LS1, hp6⟩
  simp (disch := omega) only [(B3.pre (q2.trans (q3.trans (hp4.trans (hp5.trans (hp6)))))).cells, ↓SXd, SXu, slBounds, ↓sop, ↓aop, ↓reduceIte, LV.cells, AOp.dst, LV.I, LV.B, LV.U, LV.S, LV.nil, Nat.reduceEqDiff, Nat.reduceAdd, Nat.reduceMul, Nat.reduceSub, Nat.reduceLeDiff, Nat.reduceBEq, Nat.reduceDiv, Nat.reduceMod, Int.reduceToNat, Int.reduceLT, Int.reduceLE, Int.reduceAdd, Int.reduceSub, Int.reduceMul, Int.reduceEq, Int.reduceNeg, reduceCtorEq, resV, resAll, ARes.ev, LV.flat, ite_true, ite_false, exists_eq_left', exists_eq_left, keyOf, implies_true, fillC, capOf]
  refine callR_of (cellsG_eq (h_sStanding (T.pre (q2.trans (q3.trans (hp4.trans (hp5.trans (hp6)))))) hcn) eS bS) ?_
  rintro _ W7 ⟨vS2, rfl, LS2, hp7⟩
  simp (disch := omega) only [(B3.pre (q2.trans (q3.trans (hp4.trans (hp5.trans (hp6.trans (hp7))))))).cells, ↓SXd, SXu, slBounds, ↓sop, ↓aop, ↓reduceIte, LV.cells, AOp.dst, LV.I, LV.B, LV.U, LV.S, LV.nil, Nat.reduceEqDiff, Nat.reduceAdd, Nat.reduceMul, Nat.reduceSub, Nat.reduceLeDiff, Nat.reduceBEq, Nat.reduceDiv, Nat.reduceMod, Int.reduceToNat, Int.reduceLT, Int.reduceLE, Int.reduceAdd, Int.reduceSub, Int.reduceMul, Int.reduceEq, Int.reduceNeg, reduceCtorEq, resV, resAll, ARes.ev, LV.flat, ite_true, ite_false, exists_eq_left', exists_eq_left, keyOf, implies_true, fillC, capOf]
  refine callR_of (cellsG_eq (g_HangingX (T.pre (q2.trans (q3.trans (hp4.trans (hp5.trans (hp6.trans (hp7))))))) hcn) eH bH) ?_
  rintro _ W8 ⟨vH1, rfl, LH1, hp8⟩
  simp (disch := omega) only [(B3.pre (q2.trans (q3.trans (hp4.trans (hp5.trans (hp6.trans (hp7.trans (hp8)))))))).cells, ↓SXd, SXu, slBounds, ↓sop, ↓aop, ↓reduceIte, LV.cells, AOp.dst, LV.I, LV.B, LV.U, LV.S, LV.nil, Nat.reduceEqDiff, Nat.reduceAdd, Nat.reduceMul, Nat.reduceSub, Nat.reduceLeDiff, Nat.reduceBEq, Nat.reduceDiv, Nat.reduceMod, Int.reduceToNat, Int.reduceLT, Int.reduceLE, Int.reduceAdd, Int.reduceSub, Int.reduceMul, Int.reduceEq, Int.reduceNeg, reduceCtorEq, resV, resAll, ARes.ev, LV.flat, ite_true, ite_false, exists_eq_left', exists_eq_left, keyOf, implies_true, fillC, capOf]
  refine callR_of (cellsG_eq (h_sHanging (T.pre (q2.trans (q3.trans (hp4.trans (hp5.trans (hp6.trans (hp7.trans (hp8)))))))) hcn) eH bH) ?_
  rintro _ W9 ⟨vH2, rfl, LH2, hp9⟩
  simp (disch := omega) only [(B3.pre (q2.trans (q3.trans (hp4.trans (hp5.trans (hp6.trans (hp7.trans (hp8.trans (hp9))))))))).cells, ↓SXd, SXu, slBounds, ↓sop, ↓aop, ↓reduceIte, LV.cells, AOp.dst, LV.I, LV.B, LV.U, LV.S, LV.nil, Nat.reduceEqDiff, Nat.reduceAdd, Nat.reduceMul, Nat.reduceSub, Nat.reduceLeDiff, Nat.reduceBEq, Nat.reduceDiv, Nat.reduceMod, Int.reduceToNat, Int.reduceLT, Int.reduceLE, Int.reduceAdd, Int.reduceSub, Int.reduceMul, Int.reduceEq, Int.reduceNeg, reduceCtorEq, resV, resAll, ARes.ev, LV.flat, ite_true, ite_false, exists_eq_left', exists_eq_left, keyOf, implies_true, fillC, capOf]
  refine callR_of (sinkG_eq (g_SinkHeap (T.pre (q2.trans (q3.trans (hp4.trans (hp5.trans (hp6.trans (hp7.trans (hp8.trans (hp9))))))))) hcn) eK bK ek) ?_
  rintro _ N10 ⟨v20, rfl, hv20, hp10⟩
  have B20 : Live (N10 ++ [some (.row [.I K.x, .I K.y, .I K.z, .ref v20 0 K.cs.length] true 0)]) N10.length (.row [.I K.x, .I K.y, .I K.z, .ref v20 0 K.cs.length] true 0) := Live.new
  have U20 := hv20.app (L := [some (.row [.I K.x, .I K.y, .I K.z, .ref v20 0 K.cs.length] true 0)])
  have q10 : Pre W9 (N10 ++ [some (.row [.I K.x, .I K.y, .I K.z, .ref v20 0 K.cs.length] true 0)]) := hp10.trans (Pre.app _ _)
  have eB3 := B3.pre ((q2.trans (q3.trans (hp4.trans (hp5.trans (hp6.trans (hp7.trans (hp8.trans (hp9)))))))).trans q10)
  simp (disch := omega) only [splice, eB3.cells, ↓SXd, SXu, slBounds, ↓sop, ↓aop, ↓reduceIte, LV.cells, AOp.dst, LV.I, LV.B, LV.U, LV.S, LV.nil, Nat.reduceEqDiff, Nat.reduceAdd, Nat.reduceMul, Nat.reduceSub, Nat.reduceLeDiff, Nat.reduceBEq, Nat.reduceDiv, Nat.reduceMod, Int.reduceToNat, Int.reduceLT, Int.reduceLE, Int.reduceAdd, Int.reduceSub, Int.reduceMul, Int.reduceEq, Int.reduceNeg, reduceCtorEq, resV, resAll, ARes.ev, LV.flat, ite_true, ite_false, exists_eq_left', exists_eq_left, keyOf, implies_true, fillC, capOf]
  generalize N10.length = m20 at B20 ⊢
  generalize N10 ++ [some (Blk.row [.I K.x, .I K.y, .I K.z, .ref v20 0 K.cs.length] true 0)] = W10 at B20 U20 q10 eB3 ⊢
  refine callR_of (sinkG_eq (h_sSinkHeap (T.pre (q2.trans (q3.trans (hp4.trans (hp5.trans (hp6.trans (hp7.trans (hp8.trans (hp9.trans (q10)))))))))) hcn) eK bK ek) ?_
  rintro _ N11 ⟨v23, rfl, hv23, hp11⟩
  have B23 : Live (N11 ++ [some (.row [.I K.x, .I K.y, .I K.z, .ref v23 0 K.cs.length] true 0)]) N11.length (.row [.I K.x, .I K.y, .I K.z, .ref v23 0 K.cs.length] true 0) := Live.new
  have U23 := hv23.app (L := [some (.row [.I K.x, .I K.y, .I K.z, .ref v23 0 K.cs.length] true 0)])
  have q11 : Pre W10 (N11 ++ [some (.row [.I K.x, .I K.y, .I K.z, .ref v23 0 K.cs.length] true 0)]) := hp11.trans (Pre.app _ _)
  have eB3 := B3.pre ((q2.trans (q3.trans (hp4.trans (hp5.trans (hp6.trans (hp7.trans (hp8.trans (hp9.trans (q10))))))))).trans q11)
  simp (disch := omega) only [splice, eB3.cells, ↓SXd, SXu, slBounds, ↓sop, ↓aop, ↓reduceIte, LV.cells, AOp.dst, LV.I, LV.B, LV.U, LV.S, LV.nil, Nat.reduceEqDiff, Nat.reduceAdd, Nat.reduceMul, Nat.reduceSub, Nat.reduceLeDiff, Nat.reduceBEq, Nat.reduceDiv, Nat.reduceMod, Int.reduceToNat, Int.reduceLT, Int.reduceLE, Int.reduceAdd, Int.reduceSub, Int.reduceMul, Int.reduceEq, Int.reduceNeg, reduceCtorEq, resV, resAll, ARes.ev, LV.flat, ite_true, ite_false, exists_eq_left', exists_eq_left, keyOf, implies_true, fillC, capOf]
  generalize N11.length = m23 at B23 ⊢
  generalize N11 ++ [some (Blk.row [.I K.x, .I K.y, .I K.z, .ref v23 0 K.cs.length] true 0)] = W11 at B23 U23 q11 eB3 ⊢
  refine callR_of (g_LooseBottom (T.pre (q2.trans (q3.trans (hp4.trans (hp5.trans (hp6.trans (hp7.trans (hp8.trans (hp9.trans (q10.trans (q11))))))))))) hcn) ?_
  rintro _ W12 ⟨rfl, hp12⟩
  rw [el, bl]
  simp (disch := omega) only [(B3.pre (q2.trans (q3.trans (hp4.trans (hp5.trans (hp6.trans (hp7.trans (hp8.trans (hp9.trans (q10.trans (q11.trans (hp12)))))))))))).cells, ↓SXd, SXu, slBounds, ↓sop, ↓aop, ↓reduceIte, LV.cells, AOp.dst, LV.I, LV.B, LV.U, LV.S, LV.nil, Nat.reduceEqDiff, Nat.reduceAdd, Nat.reduceMul, Nat.reduceSub, Nat.reduceLeDiff, Nat.reduceBEq, Nat.reduceDiv, Nat.reduceMod, Int.reduceToNat, Int.reduceLT, Int.reduceLE, Int.reduceAdd, Int.reduceSub, Int.reduceMul, Int.reduceEq, Int.reduceNeg, reduceCtorEq, resV, resAll, ARes.ev, LV.flat, ite_true, ite_false, exists_eq_left', exists_eq_left, keyOf, implies_true, fillC, capOf]
  refine callK_of (h_sLooseBottom (T.pre (q2.trans (q3.trans (hp4.trans (hp5.trans (hp6.trans (hp7.trans (hp8.trans (hp9.trans (q10.trans (q11.trans (hp12)))))))))))) hcn) ?_
  rw [el, bl]
  simp (disch := omega) only [↓SXd, SXu, slBounds, ↓sop, ↓aop, ↓reduceIte, LV.cells, AOp.dst, LV.I, LV.B, LV.U, LV.S, LV.nil, Nat.reduceEqDiff, Nat.reduceAdd, Nat.reduceMul, Nat.reduceSub, Nat.reduceLeDiff, Nat.reduceBEq, Nat.reduceDiv, Nat.reduceMod, Int.reduceToNat, Int.reduceLT, Int.reduceLE, Int.reduceAdd, Int.reduceSub, Int.reduceMul, Int.reduceEq, Int.reduceNeg, reduceCtorEq, resV, resAll, ARes.ev, LV.flat, ite_true, ite_false, exists_eq_left', exists_eq_left, keyOf, implies_true, fillC, capOf]
  refine callR_of (k_vCut (n := 1) (h.pre (q1.trans (q2.trans (q3.trans (hp4.trans (hp5.trans (hp6.trans (hp7.trans (hp8.trans (hp9.trans (q10.trans (q11.trans (hp12))))))))))))) (esz_pref hesz htM (q1.trans (q2.trans (q3.trans (hp4.trans (hp5.trans (hp6.trans (hp7.trans (hp8.trans (hp9.trans (q10.trans (q11.trans (hp12))))))))))))) hn.2 hl6 (by omega)) ?_
  rintro _ W13 ⟨uc, ec, rfl, hec, hec255, hecl, hp13⟩
  simp (disch := omega) only [↓SXd, SXu, slBounds, ↓sop, ↓aop, ↓reduceIte, LV.cells, AOp.dst, LV.I, LV.B, LV.U, LV.S, LV.nil, Nat.reduceEqDiff, Nat.reduceAdd, Nat.reduceMul, Nat.reduceSub, Nat.reduceLeDiff, Nat.reduceBEq, Nat.reduceDiv, Nat.reduceMod, Int.reduceToNat, Int.reduceLT, Int.reduceLE, Int.reduceAdd, Int.reduceSub, Int.reduceMul, Int.reduceEq, Int.reduceNeg, reduceCtorEq, resV, resAll, ARes.ev, LV.flat, ite_true, ite_false, exists_eq_left', exists_eq_left, keyOf, implies_true, fillC, capOf]
  refine callR_of (d_DrawIsSettled hec hec255 (by omega)) ?_
  rintro _ N14 ⟨⟨x2, y2, z2, cs2, u2, rfl, hu2, hul2, hcl2⟩, hp14⟩
  have hcn2 : cs2.length ≤ 1000000000 := by omega
  have B30 : Live (N14 ++ [some (.row [.I x2, .I y2, .I z2, .ref u2 0 cs2.length] true 0)]) N14.length (.row [.I x2, .I y2, .I z2, .ref u2 0 cs2.length] true 0) := Live.new
  have T2 := hu2.app (L := [some (.row [.I x2, .I y2, .I z2, .ref u2 0 cs2.length] true 0)])
  have q14 : Pre W13 (N14 ++ [some (.row [.I x2, .I y2, .I z2, .ref u2 0 cs2.length] true 0)]) := hp14.trans (Pre.app _ _)
  simp (disch := omega) only [splice, ↓SXd, SXu, slBounds, ↓sop, ↓aop, ↓reduceIte, LV.cells, AOp.dst, LV.I, LV.B, LV.U, LV.S, LV.nil, Nat.reduceEqDiff, Nat.reduceAdd, Nat.reduceMul, Nat.reduceSub, Nat.reduceLeDiff, Nat.reduceBEq, Nat.reduceDiv, Nat.reduceMod, Int.reduceToNat, Int.reduceLT, Int.reduceLE, Int.reduceAdd, Int.reduceSub, Int.reduceMul, Int.reduceEq, Int.reduceNeg, reduceCtorEq, resV, resAll, ARes.ev, LV.flat, ite_true, ite_false, exists_eq_left', exists_eq_left, keyOf, implies_true, fillC, capOf]
  generalize N14.length = m30 at B30 ⊢
  generalize N14 ++ [some (Blk.row [.I x2, .I y2, .I z2, .ref u2 0 cs2.length] true 0)] = W14 at B30 T2 q14 ⊢
  refine callR_of (g_IsSettled T2 hcn2) ?_
  rintro _ W15 ⟨rfl, hp15⟩
  simp (disch := omega) only [(B30.pre (hp15)).cells, ↓SXd, SXu, slBounds, ↓sop, ↓aop, ↓reduceIte, LV.cells, AOp.dst, LV.I, LV.B, LV.U, LV.S, LV.nil, Nat.reduceEqDiff, Nat.reduceAdd, Nat.reduceMul, Nat.reduceSub, Nat.reduceLeDiff, Nat.reduceBEq, Nat.reduceDiv, Nat.reduceMod, Int.reduceToNat, Int.reduceLT, Int.reduceLE, Int.reduceAdd, Int.reduceSub, Int.reduceMul, Int.reduceEq, Int.reduceNeg, reduceCtorEq, resV, resAll, ARes.ev, LV.flat, ite_true, ite_false, exists_eq_left', exists_eq_left, keyOf, implies_true, fillC, capOf]
  refine callR_of (h_sIsSettled (T2.pre (hp15)) hcn2) ?_
  rintro _ W16 ⟨rfl, hp16⟩
  simp (disch := omega) only [(B4.pre (q3.trans (hp4.trans (hp5.trans (hp6.trans (hp7.trans (hp8.trans (hp9.trans (q10.trans (q11.trans (hp12.trans (hp13.trans (q14.trans (hp15.trans (hp16))))))))))))))).cells, (B6.pre (hp4.trans (hp5.trans (hp6.trans (hp7.trans (hp8.trans (hp9.trans (q10.trans (q11.trans (hp12.trans (hp13.trans (q14.trans (hp15.trans (hp16)))))))))))))).cells, beq_self_eq_true, Bool.not_true, ↓SXd, SXu, slBounds, ↓sop, ↓aop, ↓reduceIte, LV.cells, AOp.dst, LV.I, LV.B, LV.U, LV.S, LV.nil, Nat.reduceEqDiff, Nat.reduceAdd, Nat.reduceMul, Nat.reduceSub, Nat.reduceLeDiff, Nat.reduceBEq, Nat.reduceDiv, Nat.reduceMod, Int.reduceToNat, Int.reduceLT, Int.reduceLE, Int.reduceAdd, Int.reduceSub, Int.reduceMul, Int.reduceEq, Int.reduceNeg, reduceCtorEq, resV, resAll, ARes.ev, LV.flat, ite_true, ite_false, exists_eq_left', exists_eq_left, keyOf, implies_true, fillC, capOf]
  have rh := k_vHeap (g := D) (h := D) (CellsV.of (U4.pre (q3.trans (hp4.trans (hp5.trans (hp6.trans (hp7.trans (hp8.trans (hp9.trans (q10.trans (q11.trans (hp12.trans (hp13.trans (q14.trans (hp15.trans (hp16))))))))))))))).has) (CellsV.of (U6.pre (hp4.trans (hp5.trans (hp6.trans (hp7.trans (hp8.trans (hp9.trans (q10.trans (q11.trans (hp12.trans (hp13.trans (q14.trans (hp15.trans (hp16)))))))))))))).has) (by omega) (by omega)
  rw [decide_eq_true (⟨rfl, rfl⟩ : D.dims = D.dims ∧ D.cs = D.cs)] at rh
  refine callK_of rh ?_
  simp (disch := omega) only [beq_self_eq_true, Bool.not_true, ↓SXd, SXu, slBounds, ↓sop, ↓aop, ↓reduceIte, LV.cells, AOp.dst, LV.I, LV.B, LV.U, LV.S, LV.nil, Nat.reduceEqDiff, Nat.reduceAdd, Nat.reduceMul, Nat.reduceSub, Nat.reduceLeDiff, Nat.reduceBEq, Nat.reduceDiv, Nat.reduceMod, Int.reduceToNat, Int.reduceLT, Int.reduceLE, Int.reduceAdd, Int.reduceSub, Int.reduceMul, Int.reduceEq, Int.reduceNeg, reduceCtorEq, resV, resAll, ARes.ev, LV.flat, ite_true, ite_false, exists_eq_left', exists_eq_left, keyOf, implies_true, fillC, capOf]
  have rc := k_vCells (l := S) (l' := S) (CellsV.of (LS1.pre (hp7.trans (hp8.trans (hp9.trans (q10.trans (q11.trans (hp12.trans (hp13.trans (q14.trans (hp15.trans (hp16))))))))))).has) (CellsV.of (LS2.pre (hp8.trans (hp9.trans (q10.trans (q11.trans (hp12.trans (hp13.trans (q14.trans (hp15.trans (hp16)))))))))).has) (by omega) (by omega)
  rw [decide_eq_true rfl] at rc
  refine callK_of rc ?_
  simp (disch := omega) only [beq_self_eq_true, Bool.not_true, ↓SXd, SXu, slBounds, ↓sop, ↓aop, ↓reduceIte, LV.cells, AOp.dst, LV.I, LV.B, LV.U, LV.S, LV.nil, Nat.reduceEqDiff, Nat.reduceAdd, Nat.reduceMul, Nat.reduceSub, Nat.reduceLeDiff, Nat.reduceBEq, Nat.reduceDiv, Nat.reduceMod, Int.reduceToNat, Int.reduceLT, Int.reduceLE, Int.reduceAdd, Int.reduceSub, Int.reduceMul, Int.reduceEq, Int.reduceNeg, reduceCtorEq, resV, resAll, ARes.ev, LV.flat, ite_true, ite_false, exists_eq_left', exists_eq_left, keyOf, implies_true, fillC, capOf]
  have rc := k_vCells (l := H) (l' := H) (CellsV.of (LH1.pre (hp9.trans (q10.trans (q11.trans (hp12.trans (hp13.trans (q14.trans (hp15.trans (hp16))))))))).has) (CellsV.of (LH2.pre (q10.trans (q11.trans (hp12.trans (hp13.trans (q14.trans (hp15.trans (hp16)))))))).has) (by omega) (by omega)
  rw [decide_eq_true rfl] at rc
  refine callK_of rc ?_
  simp (disch := omega) only [beq_self_eq_true, Bool.not_true, (B20.pre (q11.trans (hp12.trans (hp13.trans (q14.trans (hp15.trans (hp16))))))).cells, (B23.pre (hp12.trans (hp13.trans (q14.trans (hp15.trans (hp16)))))).cells, ↓SXd, SXu, slBounds, ↓sop, ↓aop, ↓reduceIte, LV.cells, AOp.dst, LV.I, LV.B, LV.U, LV.S, LV.nil, Nat.reduceEqDiff, Nat.reduceAdd, Nat.reduceMul, Nat.reduceSub, Nat.reduceLeDiff, Nat.reduceBEq, Nat.reduceDiv, Nat.reduceMod, Int.reduceToNat, Int.reduceLT, Int.reduceLE, Int.reduceAdd, Int.reduceSub, Int.reduceMul, Int.reduceEq, Int.reduceNeg, reduceCtorEq, resV, resAll, ARes.ev, LV.flat, ite_true, ite_false, exists_eq_left', exists_eq_left, keyOf, implies_true, fillC, capOf]
  have rh := k_vHeap (g := K) (h := K) (CellsV.of (U20.pre (q11.trans (hp12.trans (hp13.trans (q14.trans (hp15.trans (hp16)))))))) (CellsV.of (U23.pre (hp12.trans (hp13.trans (q14.trans (hp15.trans (hp16))))))) (by omega) (by omega)
  rw [decide_eq_true (⟨rfl, rfl⟩ : K.dims = K.dims ∧ K.cs = K.cs)] at rh
  refine callK_of rh ?_
  simp (disch := omega) only [beq_self_eq_true, Bool.not_true, ↓SXd, SXu, slBounds, ↓sop, ↓aop, ↓reduceIte, LV.cells, AOp.dst, LV.I, LV.B, LV.U, LV.S, LV.nil, Nat.reduceEqDiff, Nat.reduceAdd, Nat.reduceMul, Nat.reduceSub, Nat.reduceLeDiff, Nat.reduceBEq, Nat.reduceDiv, Nat.reduceMod, Int.reduceToNat, Int.reduceLT, Int.reduceLE, Int.reduceAdd, Int.reduceSub, Int.reduceMul, Int.reduceEq, Int.reduceNeg, reduceCtorEq, resV, resAll, ARes.ev, LV.flat, ite_true, ite_false, exists_eq_left', exists_eq_left, keyOf, implies_true, fillC, capOf]
  refine cond_cut (fun fr' M' => M' = W16 ∧ b = true ∧ fr' 3 = .ptr m3 0 ∧ fr' 4 = .ptr m4 0 ∧ fr' 8 = .I s ∧ fr' 12 = .ref vS1 0 S.length ∧ fr' 16 = .ref vH1 0 H.length ∧ fr' 20 = .ptr m20 0 ∧ fr' 21 = .I k ∧ fr' 26 = .I l) ?_ ?_
  · cases b
    · simp (disch := omega) only [↓SXd, SXu, slBounds, ↓sop, ↓aop, ↓reduceIte, LV.cells, AOp.dst, LV.I, LV.B, LV.U, LV.S, LV.nil, Nat.reduceEqDiff, Nat.reduceAdd, Nat.reduceMul, Nat.reduceSub, Nat.reduceLeDiff, Nat.reduceBEq, Nat.reduceDiv, Nat.reduceMod, Int.reduceToNat, Int.reduceLT, Int.reduceLE, Int.reduceAdd, Int.reduceSub, Int.reduceMul, Int.reduceEq, Int.reduceNeg, reduceCtorEq, resV, resAll, ARes.ev, LV.flat, ite_true, ite_false, exists_eq_left', exists_eq_left, keyOf, implies_true, fillC, capOf]
      all_goals rfl
    · simp (disch := omega) only [↓SXd, SXu, slBounds, ↓sop, ↓aop, ↓reduceIte, LV.cells, AOp.dst, LV.I, LV.B, LV.U, LV.S, LV.nil, Nat.reduceEqDiff, Nat.reduceAdd, Nat.reduceMul, Nat.reduceSub, Nat.reduceLeDiff, Nat.reduceBEq, Nat.reduceDiv, Nat.reduceMod, Int.reduceToNat, Int.reduceLT, Int.reduceLE, Int.reduceAdd, Int.reduceSub, Int.reduceMul, Int.reduceEq, Int.reduceNeg, reduceCtorEq, resV, resAll, ARes.ev, LV.flat, ite_true, ite_false, exists_eq_left', exists_eq_left, keyOf, implies_true, fillC, capOf]
      all_goals exact ⟨rfl, rfl, rfl, rfl, rfl, rfl, rfl, rfl, rfl, rfl⟩
  rintro fr W16 ⟨rfl, hbt, f3, f4, f8, f12, f16, f20, f21, f26⟩
  obtain ⟨hH, hD, hK, hS, hHg, hs, hlb, hk⟩ := hV hbt
  obtain ⟨a1, a2, a3, a4, a5, a6, a7, a8, a9, a10, a11⟩ := fall_law hH
  have hDok : HeapOK x y z (drpX x y z cs) := pick_ok hH.1 _
  have hQok : HeapOK x y z (pick x y z (sink x y z 1000 fun c => decide (c ∈ cs)).1) := pick_ok hH.1 _
  have hvb := view_bound hH
  have hvl := vol_bound hH.1
  have B3f := (B3.pre (q2.trans (q3.trans (hp4.trans (hp5.trans (hp6.trans (hp7.trans (hp8.trans (hp9.trans (q10.trans (q11.trans (hp12.trans (hp13.trans (q14.trans (hp15.trans (hp16))))))))))))))))
  have Tf := (T.pre (q2.trans (q3.trans (hp4.trans (hp5.trans (hp6.trans (hp7.trans (hp8.trans (hp9.trans (q10.trans (q11.trans (hp12.trans (hp13.trans (q14.trans (hp15.trans (hp16))))))))))))))))
  have B4f := (B4.pre (q3.trans (hp4.trans (hp5.trans (hp6.trans (hp7.trans (hp8.trans (hp9.trans (q10.trans (q11.trans (hp12.trans (hp13.trans (q14.trans (hp15.trans (hp16)))))))))))))))
  have U4f := (U4.pre (q3.trans (hp4.trans (hp5.trans (hp6.trans (hp7.trans (hp8.trans (hp9.trans (q10.trans (q11.trans (hp12.trans (hp13.trans (q14.trans (hp15.trans (hp16)))))))))))))))
  have B20f := (B20.pre (q11.trans (hp12.trans (hp13.trans (q14.trans (hp15.trans (hp16)))))))
  have U20f := (U20.pre (q11.trans (hp12.trans (hp13.trans (q14.trans (hp15.trans (hp16)))))))
  have LSf := (LS1.pre (hp7.trans (hp8.trans (hp9.trans (q10.trans (q11.trans (hp12.trans (hp13.trans (q14.trans (hp15.trans (hp16)))))))))))
  have LHf := (LH1.pre (hp9.trans (q10.trans (q11.trans (hp12.trans (hp13.trans (q14.trans (hp15.trans (hp16)))))))))
  rw [hD] at B4f U4f
  rw [hK] at B20f U20f
  rw [hS] at LSf f12 lS
  rw [hHg] at LHf f16 lH
  have o1 : decide (s = 0) = decide (drpX x y z cs = cs) := decide_eq_decide.2 (by rw [a6, hs])
  have o2 : decide (l = 0) = decide (drpX x y z cs = cs) := decide_eq_decide.2 (by rw [a7, hlb])
  have o3 : decide (k = 0) = decide (((hngL x y z cs).length : Int) = 0) := decide_eq_decide.2 (by rw [hk]; omega)
  have o4 : ¬ k > 3 := by omega
  have o5 : (((stdL x y z cs).length : Nat) : Int) + ((hngL x y z cs).length : Nat) = (cs.length : Nat) := by omega
  generalize hQ : pick x y z (sink x y z 1000 fun c => decide (c ∈ cs)).1 = Q at a2 a4 a9 hQok B20f U20f
  generalize hE' : drpX x y z cs = E at a1 a3 a5 hDok B4f U4f o1 o2
  simp only at B4f U4f B20f U20f
  clear hD hK hV rh rc
  simp (disch := omega) only [f3, f4, f8, f12, f16, f20, f21, f26, B3f.cells, ↓SXd, SXu, slBounds, ↓sop, ↓aop, ↓reduceIte, LV.cells, AOp.dst, LV.I, LV.B, LV.U, LV.S, LV.nil, Nat.reduceEqDiff, Nat.reduceAdd, Nat.reduceMul, Nat.reduceSub, Nat.reduceLeDiff, Nat.reduceBEq, Nat.reduceDiv, Nat.reduceMod, Int.reduceToNat, Int.reduceLT, Int.reduceLE, Int.reduceAdd, Int.reduceSub, Int.reduceMul, Int.reduceEq, Int.reduceNeg, reduceCtorEq, resV, resAll, ARes.ev, LV.flat, ite_true, ite_false, exists_eq_left', exists_eq_left, keyOf, implies_true, fillC, capOf]
  have hcn1 := hH.len
  have hEn := hDok.len
  have hQn := hQok.len
  have hvl2 : (viewL x y z 2 cs).length ≤ 1000 := by omega
  refine callR_of (g_ViewOf2T Tf.has hH) ?_
  rintro _ X1 ⟨u35, rfl, V35, hx1⟩
  simp (disch := omega) only [f3, f4, f8, f12, f16, f20, f21, f26, (B4f.pre (hx1)).cells, ↓SXd, SXu, slBounds, ↓sop, ↓aop, ↓reduceIte, LV.cells, AOp.dst, LV.I, LV.B, LV.U, LV.S, LV.nil, Nat.reduceEqDiff, Nat.reduceAdd, Nat.reduceMul, Nat.reduceSub, Nat.reduceLeDiff, Nat.reduceBEq, Nat.reduceDiv, Nat.reduceMod, Int.reduceToNat, Int.reduceLT, Int.reduceLE, Int.reduceAdd, Int.reduceSub, Int.reduceMul, Int.reduceEq, Int.reduceNeg, reduceCtorEq, resV, resAll, ARes.ev, LV.flat, ite_true, ite_false, exists_eq_left', exists_eq_left, keyOf, implies_true, fillC, capOf]
  refine callR_of (g_ViewOf2T (U4f.pre (hx1)).has hDok) ?_
  rintro _ X2 ⟨u37, rfl, V37, hx2⟩
  rw [a1] at V37 ⊢
  simp (disch := omega) only [f3, f4, f8, f12, f16, f20, f21, f26, (B20f.pre (hx1.trans (hx2))).cells, ↓SXd, SXu, slBounds, ↓sop, ↓aop, ↓reduceIte, LV.cells, AOp.dst, LV.I, LV.B, LV.U, LV.S, LV.nil, Nat.reduceEqDiff, Nat.reduceAdd, Nat.reduceMul, Nat.reduceSub, Nat.reduceLeDiff, Nat.reduceBEq, Nat.reduceDiv, Nat.reduceMod, Int.reduceToNat, Int.reduceLT, Int.reduceLE, Int.reduceAdd, Int.reduceSub, Int.reduceMul, Int.reduceEq, Int.reduceNeg, reduceCtorEq, resV, resAll, ARes.ev, LV.flat, ite_true, ite_false, exists_eq_left', exists_eq_left, keyOf, implies_true, fillC, capOf]
  refine callR_of (g_ViewOf2T (U20f.pre (hx1.trans (hx2))) hQok) ?_
  rintro _ X3 ⟨u39, rfl, V39, hx3⟩
  rw [a2] at V39 ⊢
  simp (disch := omega) only [f3, f4, f8, f12, f16, f20, f21, f26, (B4f.pre (hx1.trans (hx2.trans (hx3)))).cells, ↓SXd, SXu, slBounds, ↓sop, ↓aop, ↓reduceIte, LV.cells, AOp.dst, LV.I, LV.B, LV.U, LV.S, LV.nil, Nat.reduceEqDiff, Nat.reduceAdd, Nat.reduceMul, Nat.reduceSub, Nat.reduceLeDiff, Nat.reduceBEq, Nat.reduceDiv, Nat.reduceMod, Int.reduceToNat, Int.reduceLT, Int.reduceLE, Int.reduceAdd, Int.reduceSub, Int.reduceMul, Int.reduceEq, Int.reduceNeg, reduceCtorEq, resV, resAll, ARes.ev, LV.flat, ite_true, ite_false, exists_eq_left', exists_eq_left, keyOf, implies_true, fillC, capOf]
  refine callR_of (g_IsSettled (U4f.pre (hx1.trans (hx2.trans (hx3)))) (by omega)) ?_
  rintro _ X4 ⟨rfl, hx4⟩
  have hse : setOf x y z E = some true := (show setOf x y z E = some (decide (drpX x y z E = E)) from if_pos hDok).trans (by rw [a3]; simp)
  rw [hse]
  simp (disch := omega) only [f3, f4, f8, f12, f16, f20, f21, f26, (B20f.pre (hx1.trans (hx2.trans (hx3.trans (hx4))))).cells, Option.getD_some, Option.isSome_some, ↓SXd, SXu, slBounds, ↓sop, ↓aop, ↓reduceIte, LV.cells, AOp.dst, LV.I, LV.B, LV.U, LV.S, LV.nil, Nat.reduceEqDiff, Nat.reduceAdd, Nat.reduceMul, Nat.reduceSub, Nat.reduceLeDiff, Nat.reduceBEq, Nat.reduceDiv, Nat.reduceMod, Int.reduceToNat, Int.reduceLT, Int.reduceLE, Int.reduceAdd, Int.reduceSub, Int.reduceMul, Int.reduceEq, Int.reduceNeg, reduceCtorEq, resV, resAll, ARes.ev, LV.flat, ite_true, ite_false, exists_eq_left', exists_eq_left, keyOf, implies_true, fillC, capOf]
  refine callR_of (g_HangingT (U20f.pre (hx1.trans (hx2.trans (hx3.trans (hx4))))) hQok) ?_
  rintro _ X5 ⟨u43, rfl, V43, hx5⟩
  rw [a4]
  simp (disch := omega) only [f3, f4, f8, f12, f16, f20, f21, f26, (B4f.pre (hx1.trans (hx2.trans (hx3.trans (hx4.trans (hx5)))))).cells, ↓SXd, SXu, slBounds, ↓sop, ↓aop, ↓reduceIte, LV.cells, AOp.dst, LV.I, LV.B, LV.U, LV.S, LV.nil, Nat.reduceEqDiff, Nat.reduceAdd, Nat.reduceMul, Nat.reduceSub, Nat.reduceLeDiff, Nat.reduceBEq, Nat.reduceDiv, Nat.reduceMod, Int.reduceToNat, Int.reduceLT, Int.reduceLE, Int.reduceAdd, Int.reduceSub, Int.reduceMul, Int.reduceEq, Int.reduceNeg, reduceCtorEq, resV, resAll, ARes.ev, LV.flat, ite_true, ite_false, exists_eq_left', exists_eq_left, keyOf, implies_true, fillC, capOf]
  refine callR_of (g_HangingT (U4f.pre (hx1.trans (hx2.trans (hx3.trans (hx4.trans (hx5)))))).has hDok) ?_
  rintro _ X6 ⟨u45, rfl, V45, hx6⟩
  rw [a5]
  simp (disch := omega) only [f3, f4, f8, f12, f16, f20, f21, f26, (B3f.pre (hx1.trans (hx2.trans (hx3.trans (hx4.trans (hx5.trans (hx6))))))).cells, ↓SXd, SXu, slBounds, ↓sop, ↓aop, ↓reduceIte, LV.cells, AOp.dst, LV.I, LV.B, LV.U, LV.S, LV.nil, Nat.reduceEqDiff, Nat.reduceAdd, Nat.reduceMul, Nat.reduceSub, Nat.reduceLeDiff, Nat.reduceBEq, Nat.reduceDiv, Nat.reduceMod, Int.reduceToNat, Int.reduceLT, Int.reduceLE, Int.reduceAdd, Int.reduceSub, Int.reduceMul, Int.reduceEq, Int.reduceNeg, reduceCtorEq, resV, resAll, ARes.ev, LV.flat, ite_true, ite_false, exists_eq_left', exists_eq_left, keyOf, implies_true, fillC, capOf]
  refine callR_of (g_IsSettled (Tf.pre (hx1.trans (hx2.trans (hx3.trans (hx4.trans (hx5.trans (hx6))))))) (by omega)) ?_
  rintro _ X7 ⟨rfl, hx7⟩
  have hsc : setOf x y z cs = some (decide (E = cs)) := by rw [← hE']; exact if_pos hH
  rw [hsc]
  simp (disch := omega) only [f3, f4, f8, f12, f16, f20, f21, f26, Option.getD_some, Option.isSome_some, Bool.not_true, ↓SXd, SXu, slBounds, ↓sop, ↓aop, ↓reduceIte, LV.cells, AOp.dst, LV.I, LV.B, LV.U, LV.S, LV.nil, Nat.reduceEqDiff, Nat.reduceAdd, Nat.reduceMul, Nat.reduceSub, Nat.reduceLeDiff, Nat.reduceBEq, Nat.reduceDiv, Nat.reduceMod, Int.reduceToNat, Int.reduceLT, Int.reduceLE, Int.reduceAdd, Int.reduceSub, Int.reduceMul, Int.reduceEq, Int.reduceNeg, reduceCtorEq, resV, resAll, ARes.ev, LV.flat, ite_true, ite_false, exists_eq_left', exists_eq_left, keyOf, implies_true, fillC, capOf]
  refine callK_of (k_vInts (l := viewL x y z 2 cs) (.inr ⟨_, _, rfl, (V35.pre (hx2.trans (hx3.trans (hx4.trans (hx5.trans (hx6.trans (hx7))))))).has⟩) (.inr ⟨_, _, rfl, (V37.pre (hx3.trans (hx4.trans (hx5.trans (hx6.trans (hx7)))))).has⟩) (by omega)) ?_
  simp (disch := omega) only [f3, f4, f8, f12, f16, f20, f21, f26, Bool.not_true, ↓SXd, SXu, slBounds, ↓sop, ↓aop, ↓reduceIte, LV.cells, AOp.dst, LV.I, LV.B, LV.U, LV.S, LV.nil, Nat.reduceEqDiff, Nat.reduceAdd, Nat.reduceMul, Nat.reduceSub, Nat.reduceLeDiff, Nat.reduceBEq, Nat.reduceDiv, Nat.reduceMod, Int.reduceToNat, Int.reduceLT, Int.reduceLE, Int.reduceAdd, Int.reduceSub, Int.reduceMul, Int.reduceEq, Int.reduceNeg, reduceCtorEq, resV, resAll, ARes.ev, LV.flat, ite_true, ite_false, exists_eq_left', exists_eq_left, keyOf, implies_true, fillC, capOf]
  refine callK_of (k_vInts (l := viewL x y z 2 cs) (.inr ⟨_, _, rfl, (V35.pre (hx2.trans (hx3.trans (hx4.trans (hx5.trans (hx6.trans (hx7))))))).has⟩) (.inr ⟨_, _, rfl, (V39.pre (hx4.trans (hx5.trans (hx6.trans (hx7))))).has⟩) (by omega)) ?_
  have o6 : (((0 : Nat) : Int) = 0) = True := eq_true rfl
  simp (disch := omega) only [f3, f4, f8, f12, f16, f20, f21, f26, Bool.not_true, List.length_nil, o6, decide_true, o1, o2, o5, beq_self_eq_true, (B3f.pre (hx1.trans (hx2.trans (hx3.trans (hx4.trans (hx5.trans (hx6.trans (hx7)))))))).cell, (B20f.pre (hx1.trans (hx2.trans (hx3.trans (hx4.trans (hx5.trans (hx6.trans (hx7)))))))).cell, ↓SXd, SXu, slBounds, ↓sop, ↓aop, ↓reduceIte, LV.cells, AOp.dst, LV.I, LV.B, LV.U, LV.S, LV.nil, Nat.reduceEqDiff, Nat.reduceAdd, Nat.reduceMul, Nat.reduceSub, Nat.reduceLeDiff, Nat.reduceBEq, Nat.reduceDiv, Nat.reduceMod, Int.reduceToNat, Int.reduceLT, Int.reduceLE, Int.reduceAdd, Int.reduceSub, Int.reduceMul, Int.reduceEq, Int.reduceNeg, reduceCtorEq, resV, resAll, ARes.ev, LV.flat, ite_true, ite_false, exists_eq_left', exists_eq_left, keyOf, implies_true, fillC, capOf]
  refine callK_of (k_vWithin (l := stdL x y z cs) (l' := Q) (CellsV.of (LSf.pre (hx1.trans (hx2.trans (hx3.trans (hx4.trans (hx5.trans (hx6.trans (hx7)))))))).has) (CellsV.of (U20f.pre (hx1.trans (hx2.trans (hx3.trans (hx4.trans (hx5.trans (hx6.trans (hx7))))))))) (by omega) (by omega) a9) ?_
  simp (disch := omega) only [f3, f4, f8, f12, f16, f20, f21, f26, Bool.not_true, o3, o4, beq_self_eq_true, (B3f.pre (hx1.trans (hx2.trans (hx3.trans (hx4.trans (hx5.trans (hx6.trans (hx7)))))))).cells, ↓SXd, SXu, slBounds, ↓sop, ↓aop, ↓reduceIte, LV.cells, AOp.dst, LV.I, LV.B, LV.U, LV.S, LV.nil, Nat.reduceEqDiff, Nat.reduceAdd, Nat.reduceMul, Nat.reduceSub, Nat.reduceLeDiff, Nat.reduceBEq, Nat.reduceDiv, Nat.reduceMod, Int.reduceToNat, Int.reduceLT, Int.reduceLE, Int.reduceAdd, Int.reduceSub, Int.reduceMul, Int.reduceEq, Int.reduceNeg, reduceCtorEq, resV, resAll, ARes.ev, LV.flat, ite_true, ite_false, exists_eq_left', exists_eq_left, keyOf, implies_true, fillC, capOf]
  have LSg := (LSf.pre (hx1.trans (hx2.trans (hx3.trans (hx4.trans (hx5.trans (hx6.trans (hx7))))))))
  refine callR_of (g_PartsOfV (Tf.pre (hx1.trans (hx2.trans (hx3.trans (hx4.trans (hx5.trans (hx6.trans (hx7)))))))) hH) ?_
  rintro _ X8 ⟨⟨u49, refs, rfl, hr, hrs⟩, hx8⟩
  have LSh := LSg.pre hx8
  have hfac : ∀ l ∈ parts x y z 65 (fun c => decide (c ∈ cs)), l.length ≤ 64 ∧ ∀ d ∈ l, decide (d ∈ stdL x y z cs) = floorOf l := fun l hl => by
    refine ⟨by rw [parts_pick hH.1 l hl]; exact pick_len hH.1 _, fun d hd => ?_⟩
    obtain ⟨q1, q2, q3⟩ := stand_part hH.1 (f := 65) (q := fun c => decide (c ∈ cs)) (by have := pick_len hH.1 fun c => decide (c ∈ cs); omega) hl hd
    unfold floorOf stdL
    rw [Bool.eq_iff_iff, decide_eq_true_iff, mem_pick hH.1, List.any_eq_true]
    constructor
    · rintro ⟨_, e2⟩
      obtain ⟨e, he, he0⟩ := q3.1 e2
      exact ⟨e, he, decide_eq_true he0⟩
    · rintro ⟨e, he, he0⟩
      exact ⟨q1, q3.2 ⟨e, he, of_decide_eq_true he0⟩⟩
  have hL65 := parts_len (x := x) (y := y) (z := z) 65 (fun c => decide (c ∈ cs))
  generalize parts x y z 65 (fun c => decide (c ∈ cs)) = L at hrs hfac hL65 ⊢
  simp (disch := omega) only [f3, f4, f8, f12, f16, f20, f21, f26, ↓SXd, SXu, slBounds, ↓sop, ↓aop, ↓reduceIte, LV.cells, AOp.dst, LV.I, LV.B, LV.U, LV.S, LV.nil, Nat.reduceEqDiff, Nat.reduceAdd, Nat.reduceMul, Nat.reduceSub, Nat.reduceLeDiff, Nat.reduceBEq, Nat.reduceDiv, Nat.reduceMod, Int.reduceToNat, Int.reduceLT, Int.reduceLE, Int.reduceAdd, Int.reduceSub, Int.reduceMul, Int.reduceEq, Int.reduceNeg, reduceCtorEq, resV, resAll, ARes.ev, LV.flat, ite_true, ite_false, exists_eq_left', exists_eq_left, keyOf, implies_true, fillC, capOf]
  refine ev_loop (fun m fr M' => ∃ i : Nat, i + m = L.length ∧ M' = X8 ∧ fr 12 = .ref vS1 0 (stdL x y z cs).length ∧ fr 49 = .ref u49 0 L.length ∧ fr 50 = .B true ∧ fr 51 = .I i) L.length
    ⟨0, by omega, rfl, f12, rfl, rfl, rfl⟩ ?_
  clear f3 f4 f8 f12 f16 f20 f21 f26
  rintro m fr X8 ⟨i, hi, rfl, f12, f49, f50, f51⟩
  simp (disch := omega) only [f12, f49, f50, f51, ↓SXd, SXu, slBounds, ↓sop, ↓aop, ↓reduceIte, LV.cells, AOp.dst, LV.I, LV.B, LV.U, LV.S, LV.nil, Nat.reduceEqDiff, Nat.reduceAdd, Nat.reduceMul, Nat.reduceSub, Nat.reduceLeDiff, Nat.reduceBEq, Nat.reduceDiv, Nat.reduceMod, Int.reduceToNat, Int.reduceLT, Int.reduceLE, Int.reduceAdd, Int.reduceSub, Int.reduceMul, Int.reduceEq, Int.reduceNeg, reduceCtorEq, resV, resAll, ARes.ev, LV.flat, ite_true, ite_false, exists_eq_left', exists_eq_left, keyOf, implies_true, fillC, capOf]
  refine condC_dec (fun hlt => ?_) (fun hlt => ?_)
  · have hil : i < L.length := by omega
    obtain ⟨q, hq, hql⟩ := hrs i hil
    obtain ⟨hl64, hfl⟩ := hfac _ (getD_mem' (d := []) hil)
    have hrc := hr.cell (o := i)
    rw [hq] at hrc
    generalize L.getD i [] = pl at hrc hql hl64 hfl
    simp (disch := omega) only [f12, f49, f50, f51, ↓SXd, SXu, slBounds, ↓sop, ↓aop, ↓reduceIte, LV.cells, AOp.dst, LV.I, LV.B, LV.U, LV.S, LV.nil, Nat.reduceEqDiff, Nat.reduceAdd, Nat.reduceMul, Nat.reduceSub, Nat.reduceLeDiff, Nat.reduceBEq, Nat.reduceDiv, Nat.reduceMod, Int.reduceToNat, Int.reduceLT, Int.reduceLE, Int.reduceAdd, Int.reduceSub, Int.reduceMul, Int.reduceEq, Int.reduceNeg, reduceCtorEq, resV, resAll, ARes.ev, LV.flat, ite_true, ite_false, exists_eq_left', exists_eq_left, keyOf, implies_true, fillC, capOf]
    refine ev_loop (fun m2 fr M' => ∃ j : Nat, j + m2 = pl.length ∧ M' = X8 ∧ fr 12 = .ref vS1 0 (stdL x y z cs).length ∧ fr 49 = .ref u49 0 L.length ∧ fr 50 = .B true ∧ fr 51 = .I i ∧ fr 52 = .B (floorOf (pl.take j)) ∧ fr 53 = .I j) pl.length
      ⟨0, by omega, rfl, f12, f49, f50, f51, rfl, rfl⟩ ?_
    clear f12 f49 f50 f51
    rintro m2 fr X8 ⟨j, hj, rfl, f12, f49, f50, f51, f52, f53⟩
    simp (disch := omega) only [f12, f49, f50, f51, f52, f53, hrc, Nat.mul_one, Nat.zero_add, ↓SXd, SXu, slBounds, ↓sop, ↓aop, ↓reduceIte, LV.cells, AOp.dst, LV.I, LV.B, LV.U, LV.S, LV.nil, Nat.reduceEqDiff, Nat.reduceAdd, Nat.reduceMul, Nat.reduceSub, Nat.reduceLeDiff, Nat.reduceBEq, Nat.reduceDiv, Nat.reduceMod, Int.reduceToNat, Int.reduceLT, Int.reduceLE, Int.reduceAdd, Int.reduceSub, Int.reduceMul, Int.reduceEq, Int.reduceNeg, reduceCtorEq, resV, resAll, ARes.ev, LV.flat, ite_true, ite_false, exists_eq_left', exists_eq_left, keyOf, implies_true, fillC, capOf]
    refine condC_dec (fun hlt2 => ?_) (fun hlt2 => ?_)
    · have hjl : j < pl.length := by omega
      have hft := floor_take hjl
      have hgc := Tri.get_c hql.has hjl
      rw [Nat.zero_add] at hgc
      cases hfj : floorOf (pl.take j) with
      | true =>
        rw [hfj] at f52 hft
        simp (disch := omega) only [f12, f49, f50, f51, f52, f53, hrc, ↓SXd, SXu, slBounds, ↓sop, ↓aop, ↓reduceIte, LV.cells, AOp.dst, LV.I, LV.B, LV.U, LV.S, LV.nil, Nat.reduceEqDiff, Nat.reduceAdd, Nat.reduceMul, Nat.reduceSub, Nat.reduceLeDiff, Nat.reduceBEq, Nat.reduceDiv, Nat.reduceMod, Int.reduceToNat, Int.reduceLT, Int.reduceLE, Int.reduceAdd, Int.reduceSub, Int.reduceMul, Int.reduceEq, Int.reduceNeg, reduceCtorEq, resV, resAll, ARes.ev, LV.flat, ite_true, ite_false, exists_eq_left', exists_eq_left, keyOf, implies_true, fillC, capOf]
        exact ⟨m2 - 1, by omega, j + 1, by omega, rfl, f12, f49, f50, f51, by rw [hft]; rfl, eqI (natI _)⟩
      | false =>
        rw [hfj] at f52 hft
        simp (disch := omega) only [f12, f49, f50, f51, f52, f53, hrc, hgc, Nat.mul_one, Nat.zero_add, ↓SXd, SXu, slBounds, ↓sop, ↓aop, ↓reduceIte, LV.cells, AOp.dst, LV.I, LV.B, LV.U, LV.S, LV.nil, Nat.reduceEqDiff, Nat.reduceAdd, Nat.reduceMul, Nat.reduceSub, Nat.reduceLeDiff, Nat.reduceBEq, Nat.reduceDiv, Nat.reduceMod, Int.reduceToNat, Int.reduceLT, Int.reduceLE, Int.reduceAdd, Int.reduceSub, Int.reduceMul, Int.reduceEq, Int.reduceNeg, reduceCtorEq, resV, resAll, ARes.ev, LV.flat, ite_true, ite_false, exists_eq_left', exists_eq_left, keyOf, implies_true, fillC, capOf]
        exact ⟨m2 - 1, by omega, j + 1, by omega, rfl, f12, f49, f50, f51, by rw [hft]; rfl, eqI (natI _)⟩
    · have hjl : j = pl.length := by omega
      subst hjl
      rw [List.take_length] at f52
      simp (disch := omega) only [f12, f49, f50, f51, f52, f53, ↓SXd, SXu, slBounds, ↓sop, ↓aop, ↓reduceIte, LV.cells, AOp.dst, LV.I, LV.B, LV.U, LV.S, LV.nil, Nat.reduceEqDiff, Nat.reduceAdd, Nat.reduceMul, Nat.reduceSub, Nat.reduceLeDiff, Nat.reduceBEq, Nat.reduceDiv, Nat.reduceMod, Int.reduceToNat, Int.reduceLT, Int.reduceLE, Int.reduceAdd, Int.reduceSub, Int.reduceMul, Int.reduceEq, Int.reduceNeg, reduceCtorEq, resV, resAll, ARes.ev, LV.flat, ite_true, ite_false, exists_eq_left', exists_eq_left, keyOf, implies_true, fillC, capOf]
      refine ev_loop (fun m3 fr M' => ∃ j : Nat, j + m3 = pl.length ∧ M' = X8 ∧ fr 12 = .ref vS1 0 (stdL x y z cs).length ∧ fr 49 = .ref u49 0 L.length ∧ fr 50 = .B true ∧ fr 51 = .I i ∧ fr 52 = .B (floorOf pl) ∧ fr 54 = .I j) pl.length
        ⟨0, by omega, rfl, f12, f49, f50, f51, f52, rfl⟩ ?_
      clear f12 f49 f50 f51 f52 f53
      rintro m3 fr X8 ⟨j, hj2, rfl, f12, f49, f50, f51, f52, f54⟩
      simp (disch := omega) only [f12, f49, f50, f51, f52, f54, hrc, Nat.mul_one, Nat.zero_add, ↓SXd, SXu, slBounds, ↓sop, ↓aop, ↓reduceIte, LV.cells, AOp.dst, LV.I, LV.B, LV.U, LV.S, LV.nil, Nat.reduceEqDiff, Nat.reduceAdd, Nat.reduceMul, Nat.reduceSub, Nat.reduceLeDiff, Nat.reduceBEq, Nat.reduceDiv, Nat.reduceMod, Int.reduceToNat, Int.reduceLT, Int.reduceLE, Int.reduceAdd, Int.reduceSub, Int.reduceMul, Int.reduceEq, Int.reduceNeg, reduceCtorEq, resV, resAll, ARes.ev, LV.flat, ite_true, ite_false, exists_eq_left', exists_eq_left, keyOf, implies_true, fillC, capOf]
      refine condC_dec (fun hlt3 => ?_) (fun hlt3 => ?_)
      · have hjl : j < pl.length := by omega
        have hg := hql.tri0 hjl
        have hfd := hfl _ (getD_mem' (d := default) hjl)
        generalize pl.getD j default = c at hg hfd
        simp (disch := omega) only [f12, f49, f50, f51, f52, f54, hrc, hg, Cell.row, Nat.mul_one, Nat.zero_add, ↓SXd, SXu, slBounds, ↓sop, ↓aop, ↓reduceIte, LV.cells, AOp.dst, LV.I, LV.B, LV.U, LV.S, LV.nil, Nat.reduceEqDiff, Nat.reduceAdd, Nat.reduceMul, Nat.reduceSub, Nat.reduceLeDiff, Nat.reduceBEq, Nat.reduceDiv, Nat.reduceMod, Int.reduceToNat, Int.reduceLT, Int.reduceLE, Int.reduceAdd, Int.reduceSub, Int.reduceMul, Int.reduceEq, Int.reduceNeg, reduceCtorEq, resV, resAll, ARes.ev, LV.flat, ite_true, ite_false, exists_eq_left', exists_eq_left, keyOf, implies_true, fillC, capOf]
        refine callK_of (k_vIn (c := c) (CellsV.of LSh.has) (by omega)) ?_
        rw [hfd]
        simp (disch := omega) only [f12, f49, f50, f51, f52, f54, beq_self_eq_true, Bool.not_true, ↓SXd, SXu, slBounds, ↓sop, ↓aop, ↓reduceIte, LV.cells, AOp.dst, LV.I, LV.B, LV.U, LV.S, LV.nil, Nat.reduceEqDiff, Nat.reduceAdd, Nat.reduceMul, Nat.reduceSub, Nat.reduceLeDiff, Nat.reduceBEq, Nat.reduceDiv, Nat.reduceMod, Int.reduceToNat, Int.reduceLT, Int.reduceLE, Int.reduceAdd, Int.reduceSub, Int.reduceMul, Int.reduceEq, Int.reduceNeg, reduceCtorEq, resV, resAll, ARes.ev, LV.flat, ite_true, ite_false, exists_eq_left', exists_eq_left, keyOf, implies_true, fillC, capOf]
        exact ⟨m3 - 1, by omega, j + 1, by omega, rfl, f12, f49, f50, f51, f52, eqI (natI _)⟩
      · simp (disch := omega) only [f12, f49, f50, f51, f52, f54, ↓SXd, SXu, slBounds, ↓sop, ↓aop, ↓reduceIte, LV.cells, AOp.dst, LV.I, LV.B, LV.U, LV.S, LV.nil, Nat.reduceEqDiff, Nat.reduceAdd, Nat.reduceMul, Nat.reduceSub, Nat.reduceLeDiff, Nat.reduceBEq, Nat.reduceDiv, Nat.reduceMod, Int.reduceToNat, Int.reduceLT, Int.reduceLE, Int.reduceAdd, Int.reduceSub, Int.reduceMul, Int.reduceEq, Int.reduceNeg, reduceCtorEq, resV, resAll, ARes.ev, LV.flat, ite_true, ite_false, exists_eq_left', exists_eq_left, keyOf, implies_true, fillC, capOf]
        exact ⟨m - 1, by omega, i + 1, by omega, rfl, f12, f49, f50, eqI (natI _)⟩
  · simp (disch := omega) only [f12, f49, f50, f51, ↓SXd, SXu, slBounds, ↓sop, ↓aop, ↓reduceIte, LV.cells, AOp.dst, LV.I, LV.B, LV.U, LV.S, LV.nil, Nat.reduceEqDiff, Nat.reduceAdd, Nat.reduceMul, Nat.reduceSub, Nat.reduceLeDiff, Nat.reduceBEq, Nat.reduceDiv, Nat.reduceMod, Int.reduceToNat, Int.reduceLT, Int.reduceLE, Int.reduceAdd, Int.reduceSub, Int.reduceMul, Int.reduceEq, Int.reduceNeg, reduceCtorEq, resV, resAll, ARes.ev, LV.flat, ite_true, ite_false, exists_eq_left', exists_eq_left, keyOf, implies_true, fillC, capOf]
    rfl
end Go.Ab

/- Bytes that came in, opened. -/
namespace Go.Ab
open Go Go.RowKit Go.Joins Go.ChangeShapes Go.WideShapes Go.Deep Go.WideElems Go.Maps

/-- What the abstract machine is told of a slice of bytes that came in. -/
def RowOfB (w : World) (a : Option Addr) (len cap : Nat) (xs : List Nat) : Prop :=
  xs.length = len ∧ len ≤ cap ∧ cap ≤ maxLen ∧ (∀ b ∈ xs, b ≤ 255) ∧ (cap = 0 ∨ ∃ b o c e fz, a = some ⟨b, o, none⟩ ∧ w.heap[b]? = some (.cells c e fz) ∧ ∀ i, i < len → c[o + i]? = some (.int .u8 ((xs.getD i 0 : Nat) : Int)))

section
variable {H : Type} {enc : TypeId × Value → H} {P : Program} {w : World} {held : Bool}
theorem open_bytesB {ts ti : TypeId} {fuel : Nat} {cs : List Value} {x : DataW H × List MemPlace} (hts : P.underlying ts = some (.slice ti)) (hti : P.underlying ti = some (.int .u8)) (hci : P.cellsOf ti = 1)
    (h : DataW.trod enc P w 0 (fun _ => true) held fuel ts cs = some x) : ∃ a len cap xs, cs = [.slice a len cap] ∧ RowOfB w a len cap xs := by
  rcases Go.ChangeShapes.open_ints hts hti hci h with ⟨rfl, _⟩ | ⟨a, len, cap, zs, rfl, _, hl, hm, hz, _, hel, hwf⟩
  · exact ⟨none, 0, 0, [], rfl, rfl, Nat.le_refl _, Nat.zero_le _, by simp, .inl rfl⟩
  · have hzl : zs.length = cap := by simpa using hz
    have hby : ∀ n ∈ zs, 0 ≤ n ∧ n ≤ 255 := fun n hn => by
      have h1 := hwf n hn
      unfold Lit.wf at h1
      rw [Bool.and_eq_true, decide_eq_true_iff, decide_eq_true_iff] at h1
      exact h1
    refine ⟨some a, len, cap, (zs.take len).map Int.toNat, rfl, by simp; omega, hl, hm, fun b hb => ?_, ?_⟩
    · obtain ⟨n, hn, rfl⟩ := List.mem_map.1 hb
      have := hby n (List.mem_of_mem_take hn)
      omega
    rcases Nat.eq_zero_or_pos cap with h0 | h0
    · exact .inl h0
    · refine .inr ?_
      have hc0 := hel 0 (by omega)
      obtain ⟨b, o, c, e, fz, ha, hh, _⟩ := cell_heap hc0
      have ha' : a = ⟨b, o, none⟩ := by simpa [Addr.add] using ha
      subst ha'
      refine ⟨b, o, c, e, fz, rfl, hh, fun i hi => ?_⟩
      have hcell := hel i (by omega)
      have hadd : (⟨b, o, none⟩ : Addr).add i = ⟨b, o + i, none⟩ := addr_add _ _ _
      rw [hadd] at hcell
      unfold World.cell? at hcell
      simp only [hh] at hcell
      have hil : i < zs.length := by omega
      have hbi := hby _ (getD_mem' (d := 0) hil)
      have hg : ((((zs.take len).map Int.toNat).getD i 0 : Nat) : Int) = zs.getD i 0 := by
        have e1 : ((zs.take len).map Int.toNat).getD i 0 = (zs.getD i 0).toNat := by simp [hi, hil]
        rw [e1]; omega
      rw [hg]
      simpa using hcell
end
theorem byL_get {bs : List Nat} {i : Nat} (h : i < bs.length) : (byL bs)[i]? = some (.val (.int .u8 ((bs.getD i 0 : Nat) : Int))) := by simp [byL, h]
/-- Bytes whose block has elements of one cell. -/
def BytesZ (M : Mem) (t o : Nat) (bs : List Nat) : Prop := Bytes M t o bs ∧ getEsz M t = some 1
theorem Inv.addBytesZ {G : Gh} {M : Mem} {w : World} (hi : Inv G M w) (hno : NoOwn M) {a : Option Addr} {len cap : Nat} {xs : List Nat} (h : RowOfB w a len cap xs) :
    ∃ (G' : Gh) (N : Mem) (t : Nat), Ext G G' ∧ Inv G' N w ∧ NoOwn N ∧ Pre M N ∧ VR1 G' (.ref t 0 len) (.slice a len cap) ∧ BytesZ N t 0 xs := by
  obtain ⟨h1, h2, h3, _, h4⟩ := h
  have key : ∃ G', Ext G G' ∧ Inv G' (M ++ [some (.row (byL xs) false 1)]) w ∧ NoOwn (M ++ [some (.row (byL xs) false 1)]) ∧ VR1 G' (.ref M.length 0 len) (.slice a len cap) := by
    refine hi.addRow hno h2 (by rw [byL_len]; omega) ?_
    rcases h4 with h0 | ⟨b, o, c, e, fz, ha, hh, hc⟩
    · refine .inl ⟨h0, ?_⟩
      have : xs = [] := List.eq_nil_of_length_eq_zero (by omega)
      rw [this]; rfl
    · refine .inr ⟨b, o, c, e, fz, ha, hh, fun j l hj => ?_⟩
      have hjl : j < xs.length := by
        rw [← byL_len]
        rcases Nat.lt_or_ge j (byL xs).length with h | h
        · exact h
        · rw [List.getElem?_eq_none h] at hj; cases hj
      rw [byL_get hjl] at hj
      cases hj
      exact ⟨_, hc j (by omega), rfl, rfl⟩
  obtain ⟨G', k1, k2, k3, k4⟩ := key
  exact ⟨G', _, _, k1, k2, k3, Pre.app _ _, k4, Has.new, by simp [getEsz]⟩
theorem RowOfB.le {w : World} {a : Option Addr} {len cap : Nat} {xs : List Nat} (h : RowOfB w a len cap xs) : xs.length ≤ 9223372036854775807 ∧ ∀ b ∈ xs, b ≤ 255 := by
  obtain ⟨h0, h1, h2, h3, _⟩ := h
  have := max63
  exact ⟨by omega, h3⟩
end Go.Ab
