/- Parts of the proof of FnTurnsSaid: Hk C_Tw K_Tw C_Tv K_Tv Tu Tv Tw C_Ty K_Ty Tx Ty. -/
import Derived.Test.YthgljdbfkojpeaaA8
import Derived.Test.YthgljdbfkojpeaaA4
import Derived.Test.YthgljdbfkojpeaaA3
import Derived.Test.YthgljdbfkojpeaaProg
import Derived.KernelRfl
import Derived.Test.YthgljdbfkojpeaaA7
set_option linter.all false
/- Contracts: the laws' helpers that compare cells and heaps; the program's turned, mirrored, cropped heaps and forms, exactly. -/
namespace Go.Ab
open Go
set_option linter.unusedSimpArgs false
set_option linter.unusedVariables false
set_option maxRecDepth 20000

theorem CellsV.lenV {N : Mem} {v : LV} {l : List Cell} (h : CellsV N v l) : lenV v = some (l.length : Int) := by
  rcases h with ⟨rfl, rfl⟩ | ⟨t, o, rfl, _⟩ <;> rfl
theorem CellsV.at {N : Mem} {v : LV} {l : List Cell} {k : Nat} (h : CellsV N v l) (hk : k < l.length) : ∃ t o, v = .ref t o l.length ∧ getCells N t (o + k * 3) 3 = some (l.getD k default).row := by
  rcases h with ⟨rfl, rfl⟩ | ⟨t, o, rfl, h⟩
  · simp at hk
  · exact ⟨t, o, rfl, Tri.get h hk⟩
theorem list_ext {α : Type} {l l' : List α} {d : α} (hl : l.length = l'.length) (h : ∀ j, j < l.length → l.getD j d = l'.getD j d) : l = l' := by
  apply List.ext_getElem hl
  intro i h2 h3
  have := h i h2
  simpa [h2, h3] using this
theorem k_rCells {l l' : List Cell} {v v' : LV} {M : Mem} (h : CellsV M v l) (h' : CellsV M v' l') (hn : l.length ≤ 1000000000) (hn' : l'.length ≤ 1000000000) : CallsTo PG F.laws_rCells [v, v'] M (.B (decide (l = l'))) M := by
  refine calls_run K.laws_rCells rfl ?_
  have hv := h.lenV
  have hv' := h'.lenV
  by_cases hl : (l.length : Int) = l'.length
  rotate_left
  · rw [decide_eq_false (fun e => hl (by rw [e]))]
    simp (disch := omega) only [C.laws_rCells, hv, hv', hl, ↓SXd, SXu, slBounds, ↓sop, ↓aop, ↓reduceIte, LV.cells, AOp.dst, LV.I, LV.B, LV.U, LV.S, LV.nil, Nat.reduceEqDiff, Nat.reduceAdd, Nat.reduceMul, Nat.reduceSub, Nat.reduceLeDiff, Nat.reduceBEq, Nat.reduceDiv, Nat.reduceMod, Int.reduceToNat, Int.reduceLT, Int.reduceLE, Int.reduceAdd, Int.reduceSub, Int.reduceMul, Int.reduceEq, Int.reduceNeg, reduceCtorEq, resV, resAll, ARes.ev, LV.flat, ite_true, ite_false, exists_eq_left', exists_eq_left, keyOf, implies_true, fillC, capOf]
    exact cmp_drop0 rfl
  have hln : l.length = l'.length := by omega
  simp (disch := omega) only [C.laws_rCells, hv, hv', hl, ↓SXd, SXu, slBounds, ↓sop, ↓aop, ↓reduceIte, LV.cells, AOp.dst, LV.I, LV.B, LV.U, LV.S, LV.nil, Nat.reduceEqDiff, Nat.reduceAdd, Nat.reduceMul, Nat.reduceSub, Nat.reduceLeDiff, Nat.reduceBEq, Nat.reduceDiv, Nat.reduceMod, Int.reduceToNat, Int.reduceLT, Int.reduceLE, Int.reduceAdd, Int.reduceSub, Int.reduceMul, Int.reduceEq, Int.reduceNeg, reduceCtorEq, resV, resAll, ARes.ev, LV.flat, ite_true, ite_false, exists_eq_left', exists_eq_left, keyOf, implies_true, fillC, capOf]
  refine ev_loop (fun m fr M' => ∃ k : Nat, k + m = l.length ∧ M' = M ∧ fr 0 = v ∧ fr 1 = v' ∧ fr 5 = .I k ∧ ∀ j, j < k → l.getD j default = l'.getD j default) l.length ⟨0, by omega, rfl, rfl, rfl, rfl, by omega⟩ ?_
  rintro m fr M' ⟨k, hk, rfl, h0, h1, h5, hj⟩
  simp (disch := omega) only [h0, h1, h5, hv, ↓SXd, SXu, slBounds, ↓sop, ↓aop, ↓reduceIte, LV.cells, AOp.dst, LV.I, LV.B, LV.U, LV.S, LV.nil, Nat.reduceEqDiff, Nat.reduceAdd, Nat.reduceMul, Nat.reduceSub, Nat.reduceLeDiff, Nat.reduceBEq, Nat.reduceDiv, Nat.reduceMod, Int.reduceToNat, Int.reduceLT, Int.reduceLE, Int.reduceAdd, Int.reduceSub, Int.reduceMul, Int.reduceEq, Int.reduceNeg, reduceCtorEq, resV, resAll, ARes.ev, LV.flat, ite_true, ite_false, exists_eq_left', exists_eq_left, keyOf, implies_true, fillC, capOf]
  refine condC_dec (fun hlt => ?_) (fun hlt => ?_)
  · obtain ⟨t, o, rfl, hg⟩ := h.at (k := k) (by omega)
    obtain ⟨t', o', rfl, hg'⟩ := h'.at (k := k) (by omega)
    simp (disch := omega) only [h0, h1, h5, hg, hg', Cell.row, eqV, eqC, if_true, ite_true, Bool.and_true, ↓SXd, SXu, slBounds, ↓sop, ↓aop, ↓reduceIte, LV.cells, AOp.dst, LV.I, LV.B, LV.U, LV.S, LV.nil, Nat.reduceEqDiff, Nat.reduceAdd, Nat.reduceMul, Nat.reduceSub, Nat.reduceLeDiff, Nat.reduceBEq, Nat.reduceDiv, Nat.reduceMod, Int.reduceToNat, Int.reduceLT, Int.reduceLE, Int.reduceAdd, Int.reduceSub, Int.reduceMul, Int.reduceEq, Int.reduceNeg, reduceCtorEq, resV, resAll, ARes.ev, LV.flat, ite_true, ite_false, exists_eq_left', exists_eq_left, keyOf, implies_true, fillC, capOf]
    rw [beq3]
    by_cases he : l.getD k default = l'.getD k default
    · simp (disch := omega) only [h0, h1, h5, he, ↓SXd, SXu, slBounds, ↓sop, ↓aop, ↓reduceIte, LV.cells, AOp.dst, LV.I, LV.B, LV.U, LV.S, LV.nil, Nat.reduceEqDiff, Nat.reduceAdd, Nat.reduceMul, Nat.reduceSub, Nat.reduceLeDiff, Nat.reduceBEq, Nat.reduceDiv, Nat.reduceMod, Int.reduceToNat, Int.reduceLT, Int.reduceLE, Int.reduceAdd, Int.reduceSub, Int.reduceMul, Int.reduceEq, Int.reduceNeg, reduceCtorEq, resV, resAll, ARes.ev, LV.flat, ite_true, ite_false, exists_eq_left', exists_eq_left, keyOf, implies_true, fillC, capOf]
      exact ⟨m - 1, by omega, k + 1, by omega, rfl, h0, h1, eqI (natI _), fun j hj1 => by
        rcases Nat.lt_or_ge j k with h2 | h2
        · exact hj j h2
        · rw [show j = k by omega]; exact he⟩
    · simp (disch := omega) only [h0, h1, h5, he, ↓SXd, SXu, slBounds, ↓sop, ↓aop, ↓reduceIte, LV.cells, AOp.dst, LV.I, LV.B, LV.U, LV.S, LV.nil, Nat.reduceEqDiff, Nat.reduceAdd, Nat.reduceMul, Nat.reduceSub, Nat.reduceLeDiff, Nat.reduceBEq, Nat.reduceDiv, Nat.reduceMod, Int.reduceToNat, Int.reduceLT, Int.reduceLE, Int.reduceAdd, Int.reduceSub, Int.reduceMul, Int.reduceEq, Int.reduceNeg, reduceCtorEq, resV, resAll, ARes.ev, LV.flat, ite_true, ite_false, exists_eq_left', exists_eq_left, keyOf, implies_true, fillC, capOf]
      rw [decide_eq_false (fun e => he (by rw [e]))]
      exact cmp_drop0 rfl
  · simp (disch := omega) only [h0, h1, h5, ↓SXd, SXu, slBounds, ↓sop, ↓aop, ↓reduceIte, LV.cells, AOp.dst, LV.I, LV.B, LV.U, LV.S, LV.nil, Nat.reduceEqDiff, Nat.reduceAdd, Nat.reduceMul, Nat.reduceSub, Nat.reduceLeDiff, Nat.reduceBEq, Nat.reduceDiv, Nat.reduceMod, Int.reduceToNat, Int.reduceLT, Int.reduceLE, Int.reduceAdd, Int.reduceSub, Int.reduceMul, Int.reduceEq, Int.reduceNeg, reduceCtorEq, resV, resAll, ARes.ev, LV.flat, ite_true, ite_false, exists_eq_left', exists_eq_left, keyOf, implies_true, fillC, capOf]
    rw [decide_eq_true (list_ext hln fun j hj1 => hj j (by omega))]
    exact cmp_drop0 rfl
theorem k_rHeap {g h : Hp} {v v' : LV} {M : Mem} (hg : CellsV M v g.cs) (hh : CellsV M v' h.cs) (hn : g.cs.length ≤ 1000000000) (hn' : h.cs.length ≤ 1000000000) :
    CallsTo PG F.laws_rHeap [.agg [.I g.x, .I g.y, .I g.z, v], .agg [.I h.x, .I h.y, .I h.z, v']] M (.B (decide (g.dims = h.dims ∧ g.cs = h.cs))) M := by
  refine calls_run K.laws_rHeap rfl ?_
  by_cases h1 : g.x = h.x
  rotate_left
  · rw [decide_eq_false (fun e => h1 (congrArg Cell.a e.1))]
    simp (disch := omega) only [C.laws_rHeap, h1, ↓SXd, SXu, slBounds, ↓sop, ↓aop, ↓reduceIte, LV.cells, AOp.dst, LV.I, LV.B, LV.U, LV.S, LV.nil, Nat.reduceEqDiff, Nat.reduceAdd, Nat.reduceMul, Nat.reduceSub, Nat.reduceLeDiff, Nat.reduceBEq, Nat.reduceDiv, Nat.reduceMod, Int.reduceToNat, Int.reduceLT, Int.reduceLE, Int.reduceAdd, Int.reduceSub, Int.reduceMul, Int.reduceEq, Int.reduceNeg, reduceCtorEq, resV, resAll, ARes.ev, LV.flat, ite_true, ite_false, exists_eq_left', exists_eq_left, keyOf, implies_true, fillC, capOf]
    exact cmp_drop rfl
  by_cases h2 : g.y = h.y
  rotate_left
  · rw [decide_eq_false (fun e => h2 (congrArg Cell.b e.1))]
    simp (disch := omega) only [C.laws_rHeap, h1, h2, ↓SXd, SXu, slBounds, ↓sop, ↓aop, ↓reduceIte, LV.cells, AOp.dst, LV.I, LV.B, LV.U, LV.S, LV.nil, Nat.reduceEqDiff, Nat.reduceAdd, Nat.reduceMul, Nat.reduceSub, Nat.reduceLeDiff, Nat.reduceBEq, Nat.reduceDiv, Nat.reduceMod, Int.reduceToNat, Int.reduceLT, Int.reduceLE, Int.reduceAdd, Int.reduceSub, Int.reduceMul, Int.reduceEq, Int.reduceNeg, reduceCtorEq, resV, resAll, ARes.ev, LV.flat, ite_true, ite_false, exists_eq_left', exists_eq_left, keyOf, implies_true, fillC, capOf]
    exact cmp_drop rfl
  by_cases h3 : g.z = h.z
  rotate_left
  · rw [decide_eq_false (fun e => h3 (congrArg Cell.c e.1))]
    simp (disch := omega) only [C.laws_rHeap, h1, h2, h3, ↓SXd, SXu, slBounds, ↓sop, ↓aop, ↓reduceIte, LV.cells, AOp.dst, LV.I, LV.B, LV.U, LV.S, LV.nil, Nat.reduceEqDiff, Nat.reduceAdd, Nat.reduceMul, Nat.reduceSub, Nat.reduceLeDiff, Nat.reduceBEq, Nat.reduceDiv, Nat.reduceMod, Int.reduceToNat, Int.reduceLT, Int.reduceLE, Int.reduceAdd, Int.reduceSub, Int.reduceMul, Int.reduceEq, Int.reduceNeg, reduceCtorEq, resV, resAll, ARes.ev, LV.flat, ite_true, ite_false, exists_eq_left', exists_eq_left, keyOf, implies_true, fillC, capOf]
    exact cmp_drop rfl
  have hd : g.dims = h.dims := by unfold Hp.dims; rw [h1, h2, h3]
  simp (disch := omega) only [C.laws_rHeap, h1, h2, h3, ↓SXd, SXu, slBounds, ↓sop, ↓aop, ↓reduceIte, LV.cells, AOp.dst, LV.I, LV.B, LV.U, LV.S, LV.nil, Nat.reduceEqDiff, Nat.reduceAdd, Nat.reduceMul, Nat.reduceSub, Nat.reduceLeDiff, Nat.reduceBEq, Nat.reduceDiv, Nat.reduceMod, Int.reduceToNat, Int.reduceLT, Int.reduceLE, Int.reduceAdd, Int.reduceSub, Int.reduceMul, Int.reduceEq, Int.reduceNeg, reduceCtorEq, resV, resAll, ARes.ev, LV.flat, ite_true, ite_false, exists_eq_left', exists_eq_left, keyOf, implies_true, fillC, capOf]
  refine callK_of (k_rCells (hg.pre (Pre.app _ _)) (hh.pre (Pre.app _ _)) hn hn') ?_
  simp (disch := omega) only [↓SXd, SXu, slBounds, ↓sop, ↓aop, ↓reduceIte, LV.cells, AOp.dst, LV.I, LV.B, LV.U, LV.S, LV.nil, Nat.reduceEqDiff, Nat.reduceAdd, Nat.reduceMul, Nat.reduceSub, Nat.reduceLeDiff, Nat.reduceBEq, Nat.reduceDiv, Nat.reduceMod, Int.reduceToNat, Int.reduceLT, Int.reduceLE, Int.reduceAdd, Int.reduceSub, Int.reduceMul, Int.reduceEq, Int.reduceNeg, reduceCtorEq, resV, resAll, ARes.ev, LV.flat, ite_true, ite_false, exists_eq_left', exists_eq_left, keyOf, implies_true, fillC, capOf]
  rw [show decide (g.dims = h.dims ∧ g.cs = h.cs) = decide (g.cs = h.cs) from decide_eq_decide.2 ⟨fun e => e.2, fun e => ⟨hd, e⟩⟩]
  exact cmp_drop rfl
section
variable {x y z : Int} {t : Nat} {w : Bool} {cs : List Cell} {M : Mem} (h : Live M t (.row (triL cs) w 3)) (hH : HeapOK x y z cs)
include h hH
theorem g_TurnHeapV {k : Int} (hk : 0 ≤ k ∧ k ≤ 23) : CallsR PG F.impl_TurnHeap [.agg [.I x, .I y, .I z, .ref t 0 cs.length], .I k] M fun v N => HeapT M (turnHp x y z (turns.getD k.toNat oneT) cs) v N ∧ Pre M N := by
  have hn := hH.len
  refine callsR_run K.impl_TurnHeap rfl ?_
  simp (disch := omega) only [C.impl_TurnHeap, ↓SXd, SXu, slBounds, ↓sop, ↓aop, ↓reduceIte, LV.cells, AOp.dst, LV.I, LV.B, LV.U, LV.S, LV.nil, Nat.reduceEqDiff, Nat.reduceAdd, Nat.reduceMul, Nat.reduceSub, Nat.reduceLeDiff, Nat.reduceBEq, Nat.reduceDiv, Nat.reduceMod, Int.reduceToNat, Int.reduceLT, Int.reduceLE, Int.reduceAdd, Int.reduceSub, Int.reduceMul, Int.reduceEq, Int.reduceNeg, reduceCtorEq, resV, resAll, ARes.ev, LV.flat, ite_true, ite_false, exists_eq_left', exists_eq_left, keyOf, implies_true, fillC, capOf]
  refine callK_of (g_IsHeap (Has.app h.has) (by omega)) ?_
  simp (disch := omega) only [↓SXd, SXu, slBounds, ↓sop, ↓aop, ↓reduceIte, LV.cells, AOp.dst, LV.I, LV.B, LV.U, LV.S, LV.nil, Nat.reduceEqDiff, Nat.reduceAdd, Nat.reduceMul, Nat.reduceSub, Nat.reduceLeDiff, Nat.reduceBEq, Nat.reduceDiv, Nat.reduceMod, Int.reduceToNat, Int.reduceLT, Int.reduceLE, Int.reduceAdd, Int.reduceSub, Int.reduceMul, Int.reduceEq, Int.reduceNeg, reduceCtorEq, resV, resAll, ARes.ev, LV.flat, ite_true, ite_false, exists_eq_left', exists_eq_left, keyOf, implies_true, fillC, capOf]
  simp (disch := omega) only [hH, ↓SXd, SXu, slBounds, ↓sop, ↓aop, ↓reduceIte, LV.cells, AOp.dst, LV.I, LV.B, LV.U, LV.S, LV.nil, Nat.reduceEqDiff, Nat.reduceAdd, Nat.reduceMul, Nat.reduceSub, Nat.reduceLeDiff, Nat.reduceBEq, Nat.reduceDiv, Nat.reduceMod, Int.reduceToNat, Int.reduceLT, Int.reduceLE, Int.reduceAdd, Int.reduceSub, Int.reduceMul, Int.reduceEq, Int.reduceNeg, reduceCtorEq, resV, resAll, ARes.ev, LV.flat, ite_true, ite_false, exists_eq_left', exists_eq_left, keyOf, implies_true, fillC, capOf]
  have hit : ∀ {M : Mem}, CallsTo PG F.impl_isTurn [.I k] M (.B true) M := fun {M} => by
    refine calls_run K.impl_isTurn rfl ?_
    simp (disch := omega) only [C.impl_isTurn, ↓SXd, SXu, slBounds, ↓sop, ↓aop, ↓reduceIte, LV.cells, AOp.dst, LV.I, LV.B, LV.U, LV.S, LV.nil, Nat.reduceEqDiff, Nat.reduceAdd, Nat.reduceMul, Nat.reduceSub, Nat.reduceLeDiff, Nat.reduceBEq, Nat.reduceDiv, Nat.reduceMod, Int.reduceToNat, Int.reduceLT, Int.reduceLE, Int.reduceAdd, Int.reduceSub, Int.reduceMul, Int.reduceEq, Int.reduceNeg, reduceCtorEq, resV, resAll, ARes.ev, LV.flat, ite_true, ite_false, exists_eq_left', exists_eq_left, keyOf, implies_true, fillC, capOf]
    refine callK_of (g_within) ?_
    simp (disch := omega) only [↓SXd, SXu, slBounds, ↓sop, ↓aop, ↓reduceIte, LV.cells, AOp.dst, LV.I, LV.B, LV.U, LV.S, LV.nil, Nat.reduceEqDiff, Nat.reduceAdd, Nat.reduceMul, Nat.reduceSub, Nat.reduceLeDiff, Nat.reduceBEq, Nat.reduceDiv, Nat.reduceMod, Int.reduceToNat, Int.reduceLT, Int.reduceLE, Int.reduceAdd, Int.reduceSub, Int.reduceMul, Int.reduceEq, Int.reduceNeg, reduceCtorEq, resV, resAll, ARes.ev, LV.flat, ite_true, ite_false, exists_eq_left', exists_eq_left, keyOf, implies_true, fillC, capOf]
    rw [decide_eq_true hk]
    exact cmp_drop0 rfl
  refine callK_of (hit) ?_
  simp (disch := omega) only [↓SXd, SXu, slBounds, ↓sop, ↓aop, ↓reduceIte, LV.cells, AOp.dst, LV.I, LV.B, LV.U, LV.S, LV.nil, Nat.reduceEqDiff, Nat.reduceAdd, Nat.reduceMul, Nat.reduceSub, Nat.reduceLeDiff, Nat.reduceBEq, Nat.reduceDiv, Nat.reduceMod, Int.reduceToNat, Int.reduceLT, Int.reduceLE, Int.reduceAdd, Int.reduceSub, Int.reduceMul, Int.reduceEq, Int.reduceNeg, reduceCtorEq, resV, resAll, ARes.ev, LV.flat, ite_true, ite_false, exists_eq_left', exists_eq_left, keyOf, implies_true, fillC, capOf]
  have h24 := turns_len
  have hkl : k.toNat < turns.length := by omega
  have hT := turns_ok _ (getD_mem' (d := oneT) hkl)
  have hki : k = (k.toNat : Int) := by omega
  refine callK_of (g_turnings) ?_
  simp (disch := omega) only [↓SXd, SXu, slBounds, ↓sop, ↓aop, ↓reduceIte, LV.cells, AOp.dst, LV.I, LV.B, LV.U, LV.S, LV.nil, Nat.reduceEqDiff, Nat.reduceAdd, Nat.reduceMul, Nat.reduceSub, Nat.reduceLeDiff, Nat.reduceBEq, Nat.reduceDiv, Nat.reduceMod, Int.reduceToNat, Int.reduceLT, Int.reduceLE, Int.reduceAdd, Int.reduceSub, Int.reduceMul, Int.reduceEq, Int.reduceNeg, reduceCtorEq, resV, resAll, ARes.ev, LV.flat, ite_true, ite_false, exists_eq_left', exists_eq_left, keyOf, implies_true, fillC, capOf]
  have e1 : List.take 6 (List.drop (k.toNat * 6) (sixL turns)) = (turns.getD k.toNat oneT).row := by
    rw [sixL_at hkl]; simp [hkl]
  have e2 : k.toNat * 6 + 6 ≤ (sixL turns).length := by rw [sixL_len]; omega
  generalize turns.getD k.toNat oneT = T at hT e1 ⊢
  simp (disch := omega) only [e1, e2, if_true, Turn.row, Cell.row, ↓SXd, SXu, slBounds, ↓sop, ↓aop, ↓reduceIte, LV.cells, AOp.dst, LV.I, LV.B, LV.U, LV.S, LV.nil, Nat.reduceEqDiff, Nat.reduceAdd, Nat.reduceMul, Nat.reduceSub, Nat.reduceLeDiff, Nat.reduceBEq, Nat.reduceDiv, Nat.reduceMod, Int.reduceToNat, Int.reduceLT, Int.reduceLE, Int.reduceAdd, Int.reduceSub, Int.reduceMul, Int.reduceEq, Int.reduceNeg, reduceCtorEq, resV, resAll, ARes.ev, LV.flat, ite_true, ite_false, exists_eq_left', exists_eq_left, keyOf, implies_true, fillC, capOf]
  refine callH_of (g_turning_of h.app hH hT) ?_
  intro u N hu hp hb
  have c4 : Live N (M.length + 1) (.row [.I 0, .I 0, .I 0, .nil] true 0) := (Live.newj (j := 1) rfl).pre hp
  simp only [List.length_append, List.length_cons, List.length_nil] at hu
  have hpM : Pre M N := (Pre.app _ _).trans hp
  simp (disch := omega) only [↓SXd, SXu, slBounds, ↓sop, ↓aop, ↓reduceIte, LV.cells, AOp.dst, LV.I, LV.B, LV.U, LV.S, LV.nil, Nat.reduceEqDiff, Nat.reduceAdd, Nat.reduceMul, Nat.reduceSub, Nat.reduceLeDiff, Nat.reduceBEq, Nat.reduceDiv, Nat.reduceMod, Int.reduceToNat, Int.reduceLT, Int.reduceLE, Int.reduceAdd, Int.reduceSub, Int.reduceMul, Int.reduceEq, Int.reduceNeg, reduceCtorEq, resV, resAll, ARes.ev, LV.flat, ite_true, ite_false, exists_eq_left', exists_eq_left, keyOf, implies_true, fillC, capOf]
  refine memK_box c4 (by simp) fun N3 k1 k2 k3 => ?_
  simp (disch := omega) only [k2.cells, ↓SXd, SXu, slBounds, ↓sop, ↓aop, ↓reduceIte, LV.cells, AOp.dst, LV.I, LV.B, LV.U, LV.S, LV.nil, Nat.reduceEqDiff, Nat.reduceAdd, Nat.reduceMul, Nat.reduceSub, Nat.reduceLeDiff, Nat.reduceBEq, Nat.reduceDiv, Nat.reduceMod, Int.reduceToNat, Int.reduceLT, Int.reduceLE, Int.reduceAdd, Int.reduceSub, Int.reduceMul, Int.reduceEq, Int.reduceNeg, reduceCtorEq, resV, resAll, ARes.ev, LV.flat, ite_true, ite_false, exists_eq_left', exists_eq_left, keyOf, implies_true, fillC, capOf]
  exact ⟨⟨u, rfl, live_step hb (by omega) k3, by omega⟩, pre_step hpM (by omega) (j := 0) k1 k3⟩
end
end Go.Ab

/- The abstract code of some functions (written by a program of mine from the translation, by way of prepF). -/
namespace Go.Ab.C
open Go.Ab
def slices_Index_Simpl_turning_impl_turning : AFn :=
  ⟨2, 19, [.tmp 4],
    .seq (.ops [(none, .box 3 (.t 1)),
       (none, .mv 4 (.c (.I 0)))])
    (.seq (.seq (.ops [(none, .mv 6 (.t 0)),
         (none, .len 7 (.t 6)),
         (none, .mv 8 (.c (.I 0)))])
      (.block 0 (.loop (.seq (.ops [(none, .bin 9 .lss (.t 8) (.t 7))])
         (.seq (.cond (.t 9) (.skip)
           (.exit 0))
          (.seq (.block 1 (.seq (.ops [(none, .mv 10 (.t 8)),
                (none, .mv 5 (.t 10))])
             (.seq (.draw [⟨(none, .loadN 11 6 (.t 3)), [], []⟩,
                 ⟨(none, .mv 12 (.t 0)), [], []⟩,
                 ⟨(none, .mv 13 (.t 5)), [], []⟩,
                 ⟨(none, .idxS 14 6 (.t 12) (.t 13)), [], []⟩,
                 ⟨(none, .loadN 15 6 (.t 14)), [], []⟩,
                 ⟨(none, .eqs 16 false 6 (.t 11) (.t 15)), [], []⟩])
              (.cond (.t 16) (.seq (.ops [(none, .mv 17 (.t 5)),
                   (none, .mv 4 (.t 17))])
                (.ret))
               (.skip)))))
           (.ops [(none, .bin 18 .add (.t 8) (.c (.I 1))),
              (none, .mv 8 (.t 18))])))))))
     (.seq (.ops [(none, .mv 4 (.c (.I (-1))))])
      (.ret)))⟩
def impl_turnBehind : AFn :=
  ⟨2, 50, [.tmp 4],
    .seq (.ops [(none, .mv 4 (.c (.I 0)))])
    (.seq (.ops [(none, .call (some 11) F.impl_turnings []),
        (none, .mv 5 (.t 11))])
     (.seq (.draw [⟨(none, .mv 12 (.t 5)), [], []⟩,
         ⟨(none, .mv 13 (.t 0)), [], []⟩,
         ⟨(none, .idxS 14 6 (.t 12) (.t 13)), [], []⟩,
         ⟨(none, .loadN 15 6 (.t 14)), [], []⟩,
         ⟨(none, .mv 16 (.t 5)), [], []⟩,
         ⟨(none, .mv 17 (.t 1)), [], []⟩,
         ⟨(none, .idxS 18 6 (.t 16) (.t 17)), [], []⟩,
         ⟨(none, .loadN 19 6 (.t 18)), [], []⟩,
         ⟨(none, .build 20 [(.I 0), (.I 0), (.I 0), (.I 0), (.I 0), (.I 0)] []), [], []⟩,
         ⟨(none, .alloc 6 [(.I 0), (.I 0), (.I 0), (.I 0), (.I 0), (.I 0)]), [], []⟩,
         ⟨(none, .alloc 7 [(.I 0), (.I 0), (.I 0), (.I 0), (.I 0), (.I 0)]), [], []⟩,
         ⟨(none, .alloc 8 [(.I 0), (.I 0), (.I 0), (.I 0), (.I 0), (.I 0)]), [], []⟩,
         ⟨(none, .store 6 (.t 6) (.t 15)), [], [4, 5, 6, 7, 8]⟩,
         ⟨(none, .store 6 (.t 7) (.t 19)), [], [8]⟩,
         ⟨(none, .store 6 (.t 8) (.t 20)), [], []⟩])
      (.seq (.seq (.ops [(none, .fieldAddr 21 (.t 7) 0),
           (none, .loadN 22 3 (.t 21)),
           (none, .mv 23 (.c (.I 0)))])
        (.block 0 (.loop (.seq (.ops [(none, .bin 24 .lss (.t 23) (.c (.I 3)))])
           (.seq (.cond (.t 24) (.skip)
             (.exit 0))
            (.seq (.block 1 (.seq (.ops [(none, .mv 25 (.t 23)),
                  (none, .index 26 3 1 false (.t 22) (.t 23)),
                  (none, .mv 9 (.t 25)),
                  (none, .mv 10 (.t 26))])
               (.seq (.ops [(none, .mv 27 (.t 9)),
                   (none, .mv 28 (.t 10)),
                   (none, .fieldAddr 29 (.t 6) 0),
                   (none, .idxA 30 3 1 (.t 29) (.t 28)),
                   (none, .load1 31 (.t 30)),
                   (none, .fieldAddr 32 (.t 8) 0),
                   (none, .idxA 33 3 1 (.t 32) (.t 27)),
                   (none, .store 1 (.t 33) (.t 31))])
                (.draw [⟨(none, .mv 34 (.t 9)), [], []⟩,
                   ⟨(none, .mv 35 (.t 9)), [], []⟩,
                   ⟨(none, .fieldAddr 36 (.t 7) 3), [], []⟩,
                   ⟨(none, .idxA 37 3 1 (.t 36) (.t 35)), [], []⟩,
                   ⟨(none, .load1 38 (.t 37)), [], []⟩,
                   ⟨(none, .mv 39 (.t 10)), [], []⟩,
                   ⟨(none, .fieldAddr 40 (.t 6) 3), [], []⟩,
                   ⟨(none, .idxA 41 3 1 (.t 40) (.t 39)), [], []⟩,
                   ⟨(none, .load1 42 (.t 41)), [], []⟩,
                   ⟨(none, .bin 43 .xor (.t 38) (.t 42)), [], []⟩,
                   ⟨(none, .fieldAddr 44 (.t 8) 3), [], []⟩,
                   ⟨(none, .idxA 45 3 1 (.t 44) (.t 34)), [], []⟩,
                   ⟨(none, .store 1 (.t 45) (.t 43)), [], []⟩]))))
             (.ops [(none, .bin 46 .add (.t 23) (.c (.I 1))),
                (none, .mv 23 (.t 46))])))))))
       (.seq (.ops [(none, .mv 47 (.t 5)),
           (none, .loadN 48 6 (.t 8)),
           (none, .call (some 49) F.slices_Index_Simpl_turning_impl_turning [(.t 47), (.t 48)]),
           (none, .mv 4 (.t 49))])
        (.ret)))))⟩
def impl_TurnBehind : AFn :=
  ⟨2, 17, [.tmp 4, .tmp 5],
    .seq (.ops [(none, .mv 4 (.c (.I 0))),
       (none, .mv 5 (.c (.B false)))])
    (.seq (.seq (.ops [(none, .mv 6 (.t 0)),
         (none, .call (some 7) F.impl_isTurn [(.t 6)]),
         (none, .un 8 .not (.t 7)),
         (none, .mv 9 (.t 8)),
         (some (9, false), .mv 10 (.t 1)),
         (some (9, false), .call (some 11) F.impl_isTurn [(.t 10)]),
         (some (9, false), .un 12 .not (.t 11)),
         (none, .pick 13 (.t 9) (.c (.B true)) (.t 12))])
      (.cond (.t 13) (.seq (.ops [(none, .mv 4 (.c (.I 0))),
           (none, .mv 5 (.c (.B false)))])
        (.ret))
       (.skip)))
     (.seq (.ops [(none, .mv 14 (.t 0)),
         (none, .mv 15 (.t 1)),
         (none, .call (some 16) F.impl_turnBehind [(.t 14), (.t 15)]),
         (none, .mv 4 (.t 16)),
         (none, .mv 5 (.c (.B true)))])
      (.ret)))⟩
def impl_TurnBack : AFn :=
  ⟨1, 15, [.tmp 2, .tmp 3],
    .seq (.ops [(none, .mv 2 (.c (.I 0))),
       (none, .mv 3 (.c (.B false)))])
    (.seq (.seq (.ops [(none, .mv 5 (.t 0)),
         (none, .call (some 6) F.impl_isTurn [(.t 5)]),
         (none, .un 7 .not (.t 6))])
      (.cond (.t 7) (.seq (.ops [(none, .mv 2 (.c (.I 0))),
           (none, .mv 3 (.c (.B false)))])
        (.ret))
       (.skip)))
     (.seq (.ops [(none, .mv 4 (.c (.I 0)))])
      (.seq (.block 0 (.loop (.seq (.seq (.ops [(none, .mv 8 (.t 0)),
              (none, .mv 9 (.t 4)),
              (none, .call (some 10) F.impl_turnBehind [(.t 8), (.t 9)]),
              (none, .bin 11 .neq (.t 10) (.c (.I 0)))])
           (.cond (.t 11) (.skip)
            (.exit 0)))
          (.block 1 (.ops [(none, .mv 12 (.t 4)),
              (none, .bin 13 .add (.t 12) (.c (.I 1))),
              (none, .mv 4 (.t 13))])))))
       (.seq (.ops [(none, .mv 14 (.t 4)),
           (none, .mv 2 (.t 14)),
           (none, .mv 3 (.c (.B true)))])
        (.ret)))))⟩
def impl_TurnOrder : AFn :=
  ⟨1, 18, [.tmp 2, .tmp 3],
    .seq (.ops [(none, .mv 2 (.c (.I 0))),
       (none, .mv 3 (.c (.B false)))])
    (.seq (.seq (.ops [(none, .mv 6 (.t 0)),
         (none, .call (some 7) F.impl_isTurn [(.t 6)]),
         (none, .un 8 .not (.t 7))])
      (.cond (.t 8) (.seq (.ops [(none, .mv 2 (.c (.I 0))),
           (none, .mv 3 (.c (.B false)))])
        (.ret))
       (.skip)))
     (.seq (.ops [(none, .mv 4 (.c (.I 1)))])
      (.seq (.seq (.ops [(none, .mv 9 (.t 0)),
           (none, .mv 5 (.t 9))])
        (.block 0 (.loop (.seq (.seq (.ops [(none, .mv 10 (.t 5)),
               (none, .bin 11 .neq (.t 10) (.c (.I 0)))])
            (.cond (.t 11) (.skip)
             (.exit 0)))
           (.seq (.block 1 (.ops [(none, .mv 15 (.t 4)),
                (none, .bin 16 .add (.t 15) (.c (.I 1))),
                (none, .mv 4 (.t 16))]))
            (.ops [(none, .mv 12 (.t 5)),
               (none, .mv 13 (.t 0)),
               (none, .call (some 14) F.impl_turnBehind [(.t 12), (.t 13)]),
               (none, .mv 5 (.t 14))]))))))
       (.seq (.ops [(none, .mv 17 (.t 4)),
           (none, .mv 2 (.t 17)),
           (none, .mv 3 (.c (.B true)))])
        (.ret)))))⟩
end Go.Ab.C

/- That the program has this code. -/
namespace Go.Ab.K
open Go Go.Ab
theorem slices_Index_Simpl_turning_impl_turning : prepF Go.Proofs.Try.prog F.slices_Index_Simpl_turning_impl_turning = some C.slices_Index_Simpl_turning_impl_turning := by kernel_rfl
theorem impl_turnBehind : prepF Go.Proofs.Try.prog F.impl_turnBehind = some C.impl_turnBehind := by kernel_rfl
theorem impl_TurnBehind : prepF Go.Proofs.Try.prog F.impl_TurnBehind = some C.impl_TurnBehind := by kernel_rfl
theorem impl_TurnBack : prepF Go.Proofs.Try.prog F.impl_TurnBack = some C.impl_TurnBack := by kernel_rfl
theorem impl_TurnOrder : prepF Go.Proofs.Try.prog F.impl_TurnOrder = some C.impl_TurnOrder := by kernel_rfl
end Go.Ab.K

/- The abstract code of some functions (written by a program of mine from the translation, by way of prepF). -/
namespace Go.Ab.C
open Go.Ab
def spec_l8Behind : AFn :=
  ⟨2, 38, [.cellN 4 6],
    .seq (.ops [(none, .box 2 (.t 0)),
       (none, .box 3 (.t 1)),
       (none, .alloc 4 [(.I 0), (.I 0), (.I 0), (.I 0), (.I 0), (.I 0)])])
    (.seq (.ops [(none, .build 7 [(.I 0), (.I 0), (.I 0), (.I 0), (.I 0), (.I 0)] []),
        (none, .alloc 5 [(.I 0), (.I 0), (.I 0), (.I 0), (.I 0), (.I 0)]),
        (none, .store 6 (.t 5) (.t 7))])
     (.seq (.seq (.ops [(none, .mv 6 (.c (.I 0)))])
       (.block 0 (.loop (.seq (.seq (.ops [(none, .mv 8 (.t 6)),
              (none, .bin 9 .lss (.t 8) (.c (.I 3)))])
           (.cond (.t 9) (.skip)
            (.exit 0)))
          (.seq (.block 1 (.seq (.ops [(none, .mv 12 (.t 6)),
                (none, .mv 13 (.t 6)),
                (none, .fieldAddr 14 (.t 3) 0),
                (none, .idxA 15 3 1 (.t 14) (.t 13)),
                (none, .load1 16 (.t 15)),
                (none, .fieldAddr 17 (.t 2) 0),
                (none, .idxA 18 3 1 (.t 17) (.t 16)),
                (none, .load1 19 (.t 18)),
                (none, .fieldAddr 20 (.t 5) 0),
                (none, .idxA 21 3 1 (.t 20) (.t 12)),
                (none, .store 1 (.t 21) (.t 19))])
             (.draw [⟨(none, .mv 22 (.t 6)), [], []⟩,
                ⟨(none, .mv 23 (.t 6)), [], []⟩,
                ⟨(none, .fieldAddr 24 (.t 3) 0), [], []⟩,
                ⟨(none, .idxA 25 3 1 (.t 24) (.t 23)), [], []⟩,
                ⟨(none, .load1 26 (.t 25)), [], []⟩,
                ⟨(none, .fieldAddr 27 (.t 2) 3), [], []⟩,
                ⟨(none, .idxA 28 3 1 (.t 27) (.t 26)), [], []⟩,
                ⟨(none, .load1 29 (.t 28)), [], []⟩,
                ⟨(none, .mv 30 (.t 6)), [], []⟩,
                ⟨(none, .fieldAddr 31 (.t 3) 3), [], []⟩,
                ⟨(none, .idxA 32 3 1 (.t 31) (.t 30)), [], []⟩,
                ⟨(none, .load1 33 (.t 32)), [], []⟩,
                ⟨(none, .bin 34 .xor (.t 29) (.t 33)), [], []⟩,
                ⟨(none, .fieldAddr 35 (.t 5) 3), [], []⟩,
                ⟨(none, .idxA 36 3 1 (.t 35) (.t 22)), [], []⟩,
                ⟨(none, .store 1 (.t 36) (.t 34)), [], []⟩])))
           (.ops [(none, .mv 10 (.t 6)),
              (none, .bin 11 .add (.t 10) (.c (.I 1))),
              (none, .mv 6 (.t 11))]))))))
      (.seq (.ops [(none, .loadN 37 6 (.t 5)),
          (none, .store 6 (.t 4) (.t 37))])
       (.ret))))⟩
def spec_l8At : AFn :=
  ⟨1, 15, [.tmp 2],
    .seq (.ops [(none, .box 1 (.t 0)),
       (none, .mv 2 (.c (.I 0)))])
    (.seq (.ops [(none, .call (some 5) F.spec_l8Turns []),
        (none, .mv 3 (.t 5)),
        (none, .mv 4 (.c (.I 0)))])
     (.seq (.block 0 (.loop (.seq (.seq (.draw [⟨(none, .mv 6 (.t 3)), [], []⟩,
             ⟨(none, .mv 7 (.t 4)), [], []⟩,
             ⟨(none, .idxS 8 6 (.t 6) (.t 7)), [], []⟩,
             ⟨(none, .loadN 9 6 (.t 8)), [], []⟩,
             ⟨(none, .loadN 10 6 (.t 1)), [], []⟩,
             ⟨(none, .eqs 11 true 6 (.t 9) (.t 10)), [], []⟩])
          (.cond (.t 11) (.skip)
           (.exit 0)))
         (.block 1 (.ops [(none, .mv 12 (.t 4)),
             (none, .bin 13 .add (.t 12) (.c (.I 1))),
             (none, .mv 4 (.t 13))])))))
      (.seq (.ops [(none, .mv 14 (.t 4)),
          (none, .mv 2 (.t 14))])
       (.ret))))⟩
def spec_TurnBehind : AFn :=
  ⟨2, 26, [.tmp 4, .tmp 5],
    .seq (.ops [(none, .mv 4 (.c (.I 0))),
       (none, .mv 5 (.c (.B false)))])
    (.seq (.seq (.ops [(none, .mv 7 (.t 0)),
         (none, .call (some 8) F.spec_l8Number [(.t 7)]),
         (none, .un 9 .not (.t 8)),
         (none, .mv 10 (.t 9)),
         (some (10, false), .mv 11 (.t 1)),
         (some (10, false), .call (some 12) F.spec_l8Number [(.t 11)]),
         (some (10, false), .un 13 .not (.t 12)),
         (none, .pick 14 (.t 10) (.c (.B true)) (.t 13))])
      (.cond (.t 14) (.seq (.ops [(none, .mv 4 (.c (.I 0))),
           (none, .mv 5 (.c (.B false)))])
        (.ret))
       (.skip)))
     (.seq (.ops [(none, .call (some 15) F.spec_l8Turns []),
         (none, .mv 6 (.t 15))])
      (.seq (.draw [⟨(none, .mv 16 (.t 6)), [], []⟩,
          ⟨(none, .mv 17 (.t 0)), [], []⟩,
          ⟨(none, .idxS 18 6 (.t 16) (.t 17)), [], []⟩,
          ⟨(none, .loadN 19 6 (.t 18)), [], []⟩,
          ⟨(none, .mv 20 (.t 6)), [], []⟩,
          ⟨(none, .mv 21 (.t 1)), [], []⟩,
          ⟨(none, .idxS 22 6 (.t 20) (.t 21)), [], []⟩,
          ⟨(none, .loadN 23 6 (.t 22)), [], []⟩,
          ⟨(none, .call (some 24) F.spec_l8Behind [(.t 19), (.t 23)]), [], []⟩,
          ⟨(none, .call (some 25) F.spec_l8At [(.t 24)]), [], []⟩,
          ⟨(none, .mv 4 (.t 25)), [], []⟩,
          ⟨(none, .mv 5 (.c (.B true))), [], []⟩])
       (.ret))))⟩
def spec_TurnBack : AFn :=
  ⟨1, 26, [.tmp 2, .tmp 3],
    .seq (.ops [(none, .mv 2 (.c (.I 0))),
       (none, .mv 3 (.c (.B false)))])
    (.seq (.seq (.ops [(none, .mv 6 (.t 0)),
         (none, .call (some 7) F.spec_l8Number [(.t 6)]),
         (none, .un 8 .not (.t 7))])
      (.cond (.t 8) (.seq (.ops [(none, .mv 2 (.c (.I 0))),
           (none, .mv 3 (.c (.B false)))])
        (.ret))
       (.skip)))
     (.seq (.ops [(none, .call (some 9) F.spec_l8Turns []),
         (none, .mv 4 (.t 9)),
         (none, .mv 5 (.c (.I 0)))])
      (.seq (.block 0 (.loop (.seq (.seq (.draw [⟨(none, .mv 10 (.t 4)), [], []⟩,
              ⟨(none, .mv 11 (.t 0)), [], []⟩,
              ⟨(none, .idxS 12 6 (.t 10) (.t 11)), [], []⟩,
              ⟨(none, .loadN 13 6 (.t 12)), [], []⟩,
              ⟨(none, .mv 14 (.t 4)), [], []⟩,
              ⟨(none, .mv 15 (.t 5)), [], []⟩,
              ⟨(none, .idxS 16 6 (.t 14) (.t 15)), [], []⟩,
              ⟨(none, .loadN 17 6 (.t 16)), [], []⟩,
              ⟨(none, .mv 19 (.t 4)), [], []⟩,
              ⟨(none, .idxS 20 6 (.t 19) (.c (.I 0))), [], []⟩,
              ⟨(none, .loadN 21 6 (.t 20)), [], []⟩,
              ⟨(none, .call (some 18) F.spec_l8Behind [(.t 13), (.t 17)]), [], [8, 9, 10]⟩,
              ⟨(none, .eqs 22 true 6 (.t 18) (.t 21)), [], []⟩])
           (.cond (.t 22) (.skip)
            (.exit 0)))
          (.block 1 (.ops [(none, .mv 23 (.t 5)),
              (none, .bin 24 .add (.t 23) (.c (.I 1))),
              (none, .mv 5 (.t 24))])))))
       (.seq (.ops [(none, .mv 25 (.t 5)),
           (none, .mv 2 (.t 25)),
           (none, .mv 3 (.c (.B true)))])
        (.ret)))))⟩
def spec_TurnOrder : AFn :=
  ⟨1, 29, [.tmp 2, .tmp 3],
    .seq (.ops [(none, .mv 2 (.c (.I 0))),
       (none, .mv 3 (.c (.B false)))])
    (.seq (.seq (.ops [(none, .mv 7 (.t 0)),
         (none, .call (some 8) F.spec_l8Number [(.t 7)]),
         (none, .un 9 .not (.t 8))])
      (.cond (.t 9) (.seq (.ops [(none, .mv 2 (.c (.I 0))),
           (none, .mv 3 (.c (.B false)))])
        (.ret))
       (.skip)))
     (.seq (.ops [(none, .call (some 10) F.spec_l8Turns []),
         (none, .mv 4 (.t 10)),
         (none, .mv 5 (.c (.I 1)))])
      (.seq (.ops [(none, .mv 11 (.t 4)),
          (none, .mv 12 (.t 0)),
          (none, .idxS 13 6 (.t 11) (.t 12)),
          (none, .loadN 14 6 (.t 13)),
          (none, .alloc 6 [(.I 0), (.I 0), (.I 0), (.I 0), (.I 0), (.I 0)]),
          (none, .store 6 (.t 6) (.t 14))])
       (.seq (.block 0 (.loop (.seq (.seq (.draw [⟨(none, .loadN 15 6 (.t 6)), [], []⟩,
               ⟨(none, .mv 16 (.t 4)), [], []⟩,
               ⟨(none, .idxS 17 6 (.t 16) (.c (.I 0))), [], []⟩,
               ⟨(none, .loadN 18 6 (.t 17)), [], []⟩,
               ⟨(none, .eqs 19 true 6 (.t 15) (.t 18)), [], []⟩])
            (.cond (.t 19) (.skip)
             (.exit 0)))
           (.block 1 (.seq (.draw [⟨(none, .loadN 20 6 (.t 6)), [], []⟩,
                ⟨(none, .mv 21 (.t 4)), [], []⟩,
                ⟨(none, .mv 22 (.t 0)), [], []⟩,
                ⟨(none, .idxS 23 6 (.t 21) (.t 22)), [], []⟩,
                ⟨(none, .loadN 24 6 (.t 23)), [], []⟩,
                ⟨(none, .call (some 25) F.spec_l8Behind [(.t 20), (.t 24)]), [], []⟩,
                ⟨(none, .store 6 (.t 6) (.t 25)), [], []⟩])
             (.ops [(none, .mv 26 (.t 5)),
                (none, .bin 27 .add (.t 26) (.c (.I 1))),
                (none, .mv 5 (.t 27))]))))))
        (.seq (.ops [(none, .mv 28 (.t 5)),
            (none, .mv 2 (.t 28)),
            (none, .mv 3 (.c (.B true)))])
         (.ret))))))⟩
end Go.Ab.C

/- That the program has this code. -/
namespace Go.Ab.K
open Go Go.Ab
theorem spec_l8Behind : prepF Go.Proofs.Try.prog F.spec_l8Behind = some C.spec_l8Behind := by kernel_rfl
theorem spec_l8At : prepF Go.Proofs.Try.prog F.spec_l8At = some C.spec_l8At := by kernel_rfl
theorem spec_TurnBehind : prepF Go.Proofs.Try.prog F.spec_TurnBehind = some C.spec_TurnBehind := by kernel_rfl
theorem spec_TurnBack : prepF Go.Proofs.Try.prog F.spec_TurnBack = some C.spec_TurnBack := by kernel_rfl
theorem spec_TurnOrder : prepF Go.Proofs.Try.prog F.spec_TurnOrder = some C.spec_TurnOrder := by kernel_rfl
end Go.Ab.K

/- Plain words: the numbers of turns. -/
namespace Go.Ab
open Go
set_option linter.unusedVariables false
set_option maxRecDepth 20000

def turnN (k : Nat) : Turn := turns.getD k oneT
/-- The number of the turn that is as one and then another one. -/
def tbN (k m : Nat) : Nat := turns.findIdx fun t => decide (t = behind (turnN k) (turnN m))
def backN (k : Nat) : Nat := (List.range 24).findIdx fun m => decide (tbN k m = 0)
def powN (k : Nat) : Nat → Nat
  | 0 => k
  | i + 1 => tbN (powN k i) k
def ordN (k : Nat) : Nat := (List.range 24).findIdx (fun i => decide (powN k i = 0)) + 1
theorem tbN_table : ∀ k : Fin 24, ∀ m : Fin 24, tbN k.val m.val < 24 ∧ turnN (tbN k.val m.val) = behind (turnN k.val) (turnN m.val) := by decide +kernel
theorem tbN_ok {k m : Nat} (hk : k < 24) (hm : m < 24) : tbN k m < 24 ∧ turnN (tbN k m) = behind (turnN k) (turnN m) := tbN_table ⟨k, hk⟩ ⟨m, hm⟩
theorem turnN_table : ∀ k : Fin 24, ∀ m : Fin 24, turnN k.val = turnN m.val → k = m := by decide +kernel
theorem turnN_inj {k m : Nat} (hk : k < 24) (hm : m < 24) (h : turnN k = turnN m) : k = m := congrArg Fin.val (turnN_table ⟨k, hk⟩ ⟨m, hm⟩ h)
theorem turnN_mem {k : Nat} (hk : k < 24) : turnN k ∈ turns := by
  unfold turnN
  rw [List.getD_eq_getElem?_getD, List.getElem?_eq_getElem (by rw [turns_len]; exact hk)]
  exact List.getElem_mem _
theorem turnN_zero : turnN 0 = oneT := by decide +kernel
theorem tb_zero {k m : Nat} (hk : k < 24) (hm : m < 24) : tbN k m = 0 ↔ behind (turnN k) (turnN m) = oneT := by
  obtain ⟨h1, h2⟩ := tbN_ok hk hm
  rw [← h2, ← turnN_zero]
  exact ⟨fun h => by rw [h], fun h => turnN_inj h1 (by omega) h⟩
theorem back_table : ∀ k : Fin 24, backN k.val < 24 ∧ tbN k.val (backN k.val) = 0 ∧ ∀ m : Fin 24, m.val < backN k.val → tbN k.val m.val ≠ 0 := by decide +kernel
theorem back_ok {k : Nat} (hk : k < 24) : backN k < 24 ∧ tbN k (backN k) = 0 ∧ ∀ m, m < backN k → tbN k m ≠ 0 := by
  obtain ⟨h1, h2, h3⟩ := back_table ⟨k, hk⟩
  have h1' : backN k < 24 := h1
  exact ⟨h1, h2, fun m hm => h3 ⟨m, by omega⟩ hm⟩
theorem ord_table : ∀ k : Fin 24, 1 ≤ ordN k.val ∧ ordN k.val ≤ 4 ∧ powN k.val (ordN k.val - 1) = 0 ∧ ∀ i : Fin 4, i.val < ordN k.val - 1 → powN k.val i.val ≠ 0 := by decide +kernel
theorem ord_ok {k : Nat} (hk : k < 24) : 1 ≤ ordN k ∧ ordN k ≤ 4 ∧ powN k (ordN k - 1) = 0 ∧ ∀ i, i < ordN k - 1 → powN k i ≠ 0 := by
  obtain ⟨h1, h2, h3, h4⟩ := ord_table ⟨k, hk⟩
  have h2' : ordN k ≤ 4 := h2
  exact ⟨h1, h2, h3, fun i hi => h4 ⟨i, by omega⟩ hi⟩
theorem powN_lt {k : Nat} (hk : k < 24) : ∀ i, powN k i < 24
  | 0 => hk
  | i + 1 => (tbN_ok (powN_lt hk i) hk).1
end Go.Ab

/- Contracts: turns one behind the other, turns back, orders: the reference's side. -/
namespace Go.Ab
open Go
set_option linter.unusedSimpArgs false
set_option linter.unusedVariables false
set_option maxRecDepth 20000

theorem xor_bit {a b : Int} (ha : Bit a) (hb : Bit b) : binV .xor (.val (.int .i64 a)) (.val (.int .i64 b)) = some (.val (.int .i64 (xorI a b)), True) := by
  rcases ha with rfl | rfl <;> rcases hb with rfl | rfl <;> rfl
theorem Turn.row_frI {T : Turn} {s : Int} (hs : Dir s) : T.row[s.toNat]? = some (.I (T.fr.at s)) := by rcases hs with rfl | rfl | rfl <;> rfl
theorem Turn.row_flI {T : Turn} {s : Int} (hs : Dir s) : T.row[3 + s.toNat]? = some (.I (T.fl.at s)) := by rcases hs with rfl | rfl | rfl <;> rfl
def partT (R : Turn) (d e : Nat) : List LV := (partC R.fr d).row ++ (partC R.fl e).row
theorem partT_fr {R : Turn} {d : Nat} (hd : d < 3) : (partT R d d).set d (.I (R.fr.at d)) = partT R (d + 1) d := by
  rcases (show d = 0 ∨ d = 1 ∨ d = 2 by omega) with rfl | rfl | rfl <;> rfl
theorem partT_fl {R : Turn} {d : Nat} (hd : d < 3) : (partT R (d + 1) d).set (3 + d) (.I (R.fl.at d)) = partT R (d + 1) (d + 1) := by
  rcases (show d = 0 ∨ d = 1 ∨ d = 2 by omega) with rfl | rfl | rfl <;> rfl
theorem BitT.at {T : Turn} (h : BitT T) {s : Int} (hs : Dir s) : Bit (T.fl.at s) := by
  rcases hs with rfl | rfl | rfl
  · exact h.1
  · exact h.2.1
  · exact h.2.2
theorem OkT.at {T : Turn} (h : OkT T) {s : Int} (hs : Dir s) : Dir (T.fr.at s) := by
  rcases hs with rfl | rfl | rfl
  · exact h.1
  · exact h.2.1
  · exact h.2.2
theorem dirN {d : Nat} (hd : d < 3) : Dir (d : Int) := by unfold Dir; omega
theorem behind_fr {T U : Turn} {d : Nat} (hd : d < 3) : (behind T U).fr.at d = T.fr.at (U.fr.at d) := by
  rcases (show d = 0 ∨ d = 1 ∨ d = 2 by omega) with rfl | rfl | rfl <;> rfl
theorem behind_fl {T U : Turn} {d : Nat} (hd : d < 3) : (behind T U).fl.at d = xorI (T.fl.at (U.fr.at d)) (U.fl.at d) := by
  rcases (show d = 0 ∨ d = 1 ∨ d = 2 by omega) with rfl | rfl | rfl <;> rfl
abbrev Turn.agg (T : Turn) : LV := .agg [.I T.fr.a, .I T.fr.b, .I T.fr.c, .I T.fl.a, .I T.fl.b, .I T.fl.c]
theorem h_l8Behind {T U : Turn} {M : Mem} (hT : OkT T) (hTb : BitT T) (hU : OkT U) (hUb : BitT U) :
    CallsTo PG F.spec_l8Behind [T.agg, U.agg] M (behind T U).agg M := by
  refine calls_run K.spec_l8Behind rfl ?_
  simp (disch := omega) only [C.spec_l8Behind, splice, ↓SXd, SXu, slBounds, ↓sop, ↓aop, ↓reduceIte, LV.cells, AOp.dst, LV.I, LV.B, LV.U, LV.S, LV.nil, Nat.reduceEqDiff, Nat.reduceAdd, Nat.reduceMul, Nat.reduceSub, Nat.reduceLeDiff, Nat.reduceBEq, Nat.reduceDiv, Nat.reduceMod, Int.reduceToNat, Int.reduceLT, Int.reduceLE, Int.reduceAdd, Int.reduceSub, Int.reduceMul, Int.reduceEq, Int.reduceNeg, reduceCtorEq, resV, resAll, ARes.ev, LV.flat, ite_true, ite_false, exists_eq_left', exists_eq_left, keyOf, implies_true, fillC, capOf]
  refine ev_loop (fun m fr M' => ∃ d : Nat, d + m = 3 ∧ M'.length = M.length + 4 ∧ Pre M M' ∧ Live M' M.length (.row T.row true 0) ∧ Live M' (M.length + 1) (.row U.row true 0) ∧ Live M' (M.length + 2) (.row [.I 0, .I 0, .I 0, .I 0, .I 0, .I 0] true 0) ∧ Live M' (M.length + 3) (.row (partT (behind T U) d d) true 0) ∧
    fr 2 = .ptr M.length 0 ∧ fr 3 = .ptr (M.length + 1) 0 ∧ fr 4 = .ptr (M.length + 2) 0 ∧ fr 5 = .ptr (M.length + 3) 0 ∧ fr 6 = .I d) 3
    ⟨0, rfl, by simp, Pre.app _ _, Live.new, Live.newj rfl, Live.newj rfl, Live.newj rfl, rfl, rfl, rfl, rfl, rfl⟩ ?_
  rintro m fr M' ⟨d, hd, hM', hpre, b2, b3, b4, b5, f2, f3, f4, f5, f6⟩
  simp (disch := omega) only [f2, f3, f4, f5, f6, ↓SXd, SXu, slBounds, ↓sop, ↓aop, ↓reduceIte, LV.cells, AOp.dst, LV.I, LV.B, LV.U, LV.S, LV.nil, Nat.reduceEqDiff, Nat.reduceAdd, Nat.reduceMul, Nat.reduceSub, Nat.reduceLeDiff, Nat.reduceBEq, Nat.reduceDiv, Nat.reduceMod, Int.reduceToNat, Int.reduceLT, Int.reduceLE, Int.reduceAdd, Int.reduceSub, Int.reduceMul, Int.reduceEq, Int.reduceNeg, reduceCtorEq, resV, resAll, ARes.ev, LV.flat, ite_true, ite_false, exists_eq_left', exists_eq_left, keyOf, implies_true, fillC, capOf]
  refine condC_dec (fun hlt => ?_) (fun hlt => ?_)
  · have hd3 : d < 3 := by omega
    have hs := OkT.at hU (dirN hd3)
    have hxb := xor_bit (hTb.at hs) (hUb.at (dirN hd3))
    rw [← behind_fl hd3] at hxb
    have e1 := b3.cell (o := d)
    rw [Turn.row_fr hd3] at e1
    have e2 := b2.cell (o := (U.fr.at d).toNat)
    rw [Turn.row_frI hs, ← behind_fr hd3] at e2
    have e3 := b3.cell (o := 3 + d)
    rw [Turn.row_fl hd3] at e3
    have e4 := b2.cell (o := 3 + (U.fr.at d).toNat)
    rw [Turn.row_flI hs] at e4
    have q1 : 0 ≤ U.fr.at d := by rcases hs with h | h | h <;> omega
    have q2 : U.fr.at d < 3 := by rcases hs with h | h | h <;> omega
    simp (disch := omega) only [f2, f3, f4, f5, f6, e1, e2, q1, q2, Nat.mul_one, Nat.zero_add, ↓SXd, SXu, slBounds, ↓sop, ↓aop, ↓reduceIte, LV.cells, AOp.dst, LV.I, LV.B, LV.U, LV.S, LV.nil, Nat.reduceEqDiff, Nat.reduceAdd, Nat.reduceMul, Nat.reduceSub, Nat.reduceLeDiff, Nat.reduceBEq, Nat.reduceDiv, Nat.reduceMod, Int.reduceToNat, Int.reduceLT, Int.reduceLE, Int.reduceAdd, Int.reduceSub, Int.reduceMul, Int.reduceEq, Int.reduceNeg, reduceCtorEq, resV, resAll, ARes.ev, LV.flat, ite_true, ite_false, exists_eq_left', exists_eq_left, keyOf, implies_true, fillC, capOf]
    refine memK_at b5 (show d < 6 by omega) fun N1 k1 k2 k3 => ?_
    rw [partT_fr hd3] at k2
    have c2 := live_step b2 (by omega) k3
    have c3 := live_step b3 (by omega) k3
    have c4 := live_step b4 (by omega) k3
    have g1 := c3.cell (o := d)
    rw [Turn.row_fr hd3] at g1
    have g3 := c3.cell (o := 3 + d)
    rw [Turn.row_fl hd3] at g3
    have g4 := c2.cell (o := 3 + (U.fr.at d).toNat)
    rw [Turn.row_flI hs] at g4
    simp (disch := omega) only [f2, f3, f4, f5, f6, g1, g3, g4, q1, q2, Nat.mul_one, Nat.zero_add, hxb, ↓SXd, SXu, slBounds, ↓sop, ↓aop, ↓reduceIte, LV.cells, AOp.dst, LV.I, LV.B, LV.U, LV.S, LV.nil, Nat.reduceEqDiff, Nat.reduceAdd, Nat.reduceMul, Nat.reduceSub, Nat.reduceLeDiff, Nat.reduceBEq, Nat.reduceDiv, Nat.reduceMod, Int.reduceToNat, Int.reduceLT, Int.reduceLE, Int.reduceAdd, Int.reduceSub, Int.reduceMul, Int.reduceEq, Int.reduceNeg, reduceCtorEq, resV, resAll, ARes.ev, LV.flat, ite_true, ite_false, exists_eq_left', exists_eq_left, keyOf, implies_true, fillC, capOf]
    refine memK_at k2 (show 3 + d < 6 by omega) fun N2 r1 r2 r3 => ?_
    rw [partT_fl hd3] at r2
    simp (disch := omega) only [f2, f3, f4, f5, f6, ↓SXd, SXu, slBounds, ↓sop, ↓aop, ↓reduceIte, LV.cells, AOp.dst, LV.I, LV.B, LV.U, LV.S, LV.nil, Nat.reduceEqDiff, Nat.reduceAdd, Nat.reduceMul, Nat.reduceSub, Nat.reduceLeDiff, Nat.reduceBEq, Nat.reduceDiv, Nat.reduceMod, Int.reduceToNat, Int.reduceLT, Int.reduceLE, Int.reduceAdd, Int.reduceSub, Int.reduceMul, Int.reduceEq, Int.reduceNeg, reduceCtorEq, resV, resAll, ARes.ev, LV.flat, ite_true, ite_false, exists_eq_left', exists_eq_left, keyOf, implies_true, fillC, capOf]
    exact ⟨m - 1, by omega, d + 1, by omega, by omega, pre_step (pre_step hpre (by omega) (j := 0) k1 k3) (by omega) (j := 0) r1 r3, live_step c2 (by omega) r3, live_step c3 (by omega) r3, live_step c4 (by omega) r3, r2, f2, f3, f4, f5, eqI (natI _)⟩
  · have hd3 : d = 3 := by omega
    subst hd3
    have b5' : Live M' (M.length + 3) (.row (behind T U).row true 0) := b5
    simp (disch := omega) only [f2, f3, f4, f5, f6, b5'.cells, Turn.row, Cell.row, ↓SXd, SXu, slBounds, ↓sop, ↓aop, ↓reduceIte, LV.cells, AOp.dst, LV.I, LV.B, LV.U, LV.S, LV.nil, Nat.reduceEqDiff, Nat.reduceAdd, Nat.reduceMul, Nat.reduceSub, Nat.reduceLeDiff, Nat.reduceBEq, Nat.reduceDiv, Nat.reduceMod, Int.reduceToNat, Int.reduceLT, Int.reduceLE, Int.reduceAdd, Int.reduceSub, Int.reduceMul, Int.reduceEq, Int.reduceNeg, reduceCtorEq, resV, resAll, ARes.ev, LV.flat, ite_true, ite_false, exists_eq_left', exists_eq_left, keyOf, implies_true, fillC, capOf]
    refine memK_box b4 (by simp) fun N2 r1 r2 r3 => ?_
    simp (disch := omega) only [f2, f3, f4, f5, f6, r2.cells, ↓SXd, SXu, slBounds, ↓sop, ↓aop, ↓reduceIte, LV.cells, AOp.dst, LV.I, LV.B, LV.U, LV.S, LV.nil, Nat.reduceEqDiff, Nat.reduceAdd, Nat.reduceMul, Nat.reduceSub, Nat.reduceLeDiff, Nat.reduceBEq, Nat.reduceDiv, Nat.reduceMod, Int.reduceToNat, Int.reduceLT, Int.reduceLE, Int.reduceAdd, Int.reduceSub, Int.reduceMul, Int.reduceEq, Int.reduceNeg, reduceCtorEq, resV, resAll, ARes.ev, LV.flat, ite_true, ite_false, exists_eq_left', exists_eq_left, keyOf, implies_true, fillC, capOf]
    exact cmp_pre (pre_step hpre (by omega) (j := 0) r1 r3) rfl
theorem beq6 {T U : Turn} : (T.fr.a == U.fr.a && (T.fr.b == U.fr.b && (T.fr.c == U.fr.c && (T.fl.a == U.fl.a && (T.fl.b == U.fl.b && T.fl.c == U.fl.c))))) = decide (T = U) := by
  obtain ⟨⟨a, b, c⟩, ⟨d, e, f⟩⟩ := T
  obtain ⟨⟨a', b', c'⟩, ⟨d', e', f'⟩⟩ := U
  rw [Bool.eq_iff_iff, decide_eq_true_iff]
  simp only [Bool.and_eq_true, beq_iff_eq, Turn.mk.injEq, Cell.mk.injEq]
  exact ⟨fun h => ⟨⟨h.1, h.2.1, h.2.2.1⟩, h.2.2.2⟩, fun h => ⟨h.1.1, h.1.2.1, h.1.2.2, h.2⟩⟩
def idxT (R : Turn) : Nat := turns.findIdx fun t => decide (t = R)
theorem idxT_ok {R : Turn} (h : R ∈ turns) : idxT R < 24 ∧ turnN (idxT R) = R ∧ ∀ j, j < idxT R → turnN j ≠ R := by
  have h1 : idxT R < turns.length := List.findIdx_lt_length_of_exists ⟨R, h, by simp⟩
  rw [turns_len] at h1
  refine ⟨h1, ?_, fun j hj => ?_⟩
  · have := List.findIdx_getElem (xs := turns) (p := fun t => decide (t = R)) (w := by rw [turns_len]; exact h1)
    simp only [decide_eq_true_iff] at this
    unfold turnN
    rw [List.getD_eq_getElem?_getD, List.getElem?_eq_getElem (by rw [turns_len]; exact h1)]
    exact this
  · have := List.not_of_lt_findIdx (xs := turns) (p := fun t => decide (t = R)) hj
    have hjl : j < turns.length := by rw [turns_len]; omega
    unfold turnN
    rw [List.getD_eq_getElem?_getD, List.getElem?_eq_getElem hjl]
    simpa using this
theorem six_at {N : Mem} {t e : Nat} {w : Bool} {k : Nat} (h : Live N t (.row (sixL turns) w e)) (hk : k < 24) : getCells N t (k * 6) 6 = some (turnN k).row := h.sixI (by rw [turns_len]; exact hk)
theorem h_l8At {R : Turn} {M : Mem} (hR : R ∈ turns) : CallsTo PG F.spec_l8At [R.agg] M (.I (idxT R : Nat)) M := by
  obtain ⟨i1, i2, i3⟩ := idxT_ok hR
  have h24 := turns_len
  refine calls_run K.spec_l8At rfl ?_
  simp (disch := omega) only [C.spec_l8At, ↓SXd, SXu, slBounds, ↓sop, ↓aop, ↓reduceIte, LV.cells, AOp.dst, LV.I, LV.B, LV.U, LV.S, LV.nil, Nat.reduceEqDiff, Nat.reduceAdd, Nat.reduceMul, Nat.reduceSub, Nat.reduceLeDiff, Nat.reduceBEq, Nat.reduceDiv, Nat.reduceMod, Int.reduceToNat, Int.reduceLT, Int.reduceLE, Int.reduceAdd, Int.reduceSub, Int.reduceMul, Int.reduceEq, Int.reduceNeg, reduceCtorEq, resV, resAll, ARes.ev, LV.flat, ite_true, ite_false, exists_eq_left', exists_eq_left, keyOf, implies_true, fillC, capOf]
  refine callK_of (h_l8Turns) ?_
  simp (disch := omega) only [↓SXd, SXu, slBounds, ↓sop, ↓aop, ↓reduceIte, LV.cells, AOp.dst, LV.I, LV.B, LV.U, LV.S, LV.nil, Nat.reduceEqDiff, Nat.reduceAdd, Nat.reduceMul, Nat.reduceSub, Nat.reduceLeDiff, Nat.reduceBEq, Nat.reduceDiv, Nat.reduceMod, Int.reduceToNat, Int.reduceLT, Int.reduceLE, Int.reduceAdd, Int.reduceSub, Int.reduceMul, Int.reduceEq, Int.reduceNeg, reduceCtorEq, resV, resAll, ARes.ev, LV.flat, ite_true, ite_false, exists_eq_left', exists_eq_left, keyOf, implies_true, fillC, capOf]
  refine ev_loop (fun m fr M' => ∃ k : Nat, k + m = idxT R ∧ Pre M M' ∧ Live M' M.length (.row R.row true 0) ∧ Live M' (M.length + 1) (.row (sixL turns) true 6) ∧ fr 1 = .ptr M.length 0 ∧ fr 3 = .ref (M.length + 1) 0 turns.length ∧ fr 4 = .I k) (idxT R)
    ⟨0, by omega, Pre.app _ _, Live.new, Live.newj rfl, rfl, rfl, rfl⟩ ?_
  rintro m fr M' ⟨k, hk, hpre, b1, b3, f1, f3, f4⟩
  have hg := six_at b3 (k := k) (by omega)
  simp (disch := omega) only [f1, f3, f4, h24, hg, b1.cells, Turn.row, Cell.row, eqV, eqC, if_true, ite_true, Bool.and_true, Nat.zero_add, ↓SXd, SXu, slBounds, ↓sop, ↓aop, ↓reduceIte, LV.cells, AOp.dst, LV.I, LV.B, LV.U, LV.S, LV.nil, Nat.reduceEqDiff, Nat.reduceAdd, Nat.reduceMul, Nat.reduceSub, Nat.reduceLeDiff, Nat.reduceBEq, Nat.reduceDiv, Nat.reduceMod, Int.reduceToNat, Int.reduceLT, Int.reduceLE, Int.reduceAdd, Int.reduceSub, Int.reduceMul, Int.reduceEq, Int.reduceNeg, reduceCtorEq, resV, resAll, ARes.ev, LV.flat, ite_true, ite_false, exists_eq_left', exists_eq_left, keyOf, implies_true, fillC, capOf]
  rw [beq6]
  by_cases he : k = idxT R
  · have e : turnN k = R := by rw [he]; exact i2
    simp (disch := omega) only [f1, f3, f4, e, ↓SXd, SXu, slBounds, ↓sop, ↓aop, ↓reduceIte, LV.cells, AOp.dst, LV.I, LV.B, LV.U, LV.S, LV.nil, Nat.reduceEqDiff, Nat.reduceAdd, Nat.reduceMul, Nat.reduceSub, Nat.reduceLeDiff, Nat.reduceBEq, Nat.reduceDiv, Nat.reduceMod, Int.reduceToNat, Int.reduceLT, Int.reduceLE, Int.reduceAdd, Int.reduceSub, Int.reduceMul, Int.reduceEq, Int.reduceNeg, reduceCtorEq, resV, resAll, ARes.ev, LV.flat, ite_true, ite_false, exists_eq_left', exists_eq_left, keyOf, implies_true, fillC, capOf]
    rw [he]
    exact cmp_pre hpre rfl
  · have e : ¬ (turnN k = R) := i3 k (by omega)
    simp (disch := omega) only [f1, f3, f4, e, ↓SXd, SXu, slBounds, ↓sop, ↓aop, ↓reduceIte, LV.cells, AOp.dst, LV.I, LV.B, LV.U, LV.S, LV.nil, Nat.reduceEqDiff, Nat.reduceAdd, Nat.reduceMul, Nat.reduceSub, Nat.reduceLeDiff, Nat.reduceBEq, Nat.reduceDiv, Nat.reduceMod, Int.reduceToNat, Int.reduceLT, Int.reduceLE, Int.reduceAdd, Int.reduceSub, Int.reduceMul, Int.reduceEq, Int.reduceNeg, reduceCtorEq, resV, resAll, ARes.ev, LV.flat, ite_true, ite_false, exists_eq_left', exists_eq_left, keyOf, implies_true, fillC, capOf]
    exact ⟨m - 1, by omega, k + 1, by omega, hpre, b1, b3, f1, f3, eqI (natI _)⟩
theorem six_take {k : Nat} (hk : k < 24) : List.take 6 (List.drop (k * 6) (sixL turns)) = (turnN k).row ∧ k * 6 + 6 ≤ (sixL turns).length := by
  have hkl : k < turns.length := by rw [turns_len]; exact hk
  refine ⟨?_, by rw [sixL_len]; omega⟩
  rw [sixL_at hkl]
  unfold turnN
  simp [hkl]
theorem tbN_idx {k m : Nat} : tbN k m = idxT (behind (turnN k) (turnN m)) := rfl
def tbOf (k m : Int) : Option Nat := if In24 k ∧ In24 m then some (tbN k.toNat m.toNat) else none
def backOf (k : Int) : Option Nat := if In24 k then some (backN k.toNat) else none
def ordOf (k : Int) : Option Nat := if In24 k then some (ordN k.toNat) else none
theorem turnN_ok {k : Nat} (hk : k < 24) : OkT (turnN k) ∧ BitT (turnN k) := ⟨turns_ok _ (turnN_mem hk), turns_bit _ (turnN_mem hk)⟩
theorem h_sTurnBehind {k m : Int} {M : Mem} : CallsTo PG F.spec_TurnBehind [.I k, .I m] M (.tup [.I ((tbOf k m).getD 0 : Nat), .B (tbOf k m).isSome]) M := by
  refine calls_run K.spec_TurnBehind rfl ?_
  simp (disch := omega) only [C.spec_TurnBehind, ↓SXd, SXu, slBounds, ↓sop, ↓aop, ↓reduceIte, LV.cells, AOp.dst, LV.I, LV.B, LV.U, LV.S, LV.nil, Nat.reduceEqDiff, Nat.reduceAdd, Nat.reduceMul, Nat.reduceSub, Nat.reduceLeDiff, Nat.reduceBEq, Nat.reduceDiv, Nat.reduceMod, Int.reduceToNat, Int.reduceLT, Int.reduceLE, Int.reduceAdd, Int.reduceSub, Int.reduceMul, Int.reduceEq, Int.reduceNeg, reduceCtorEq, resV, resAll, ARes.ev, LV.flat, ite_true, ite_false, exists_eq_left', exists_eq_left, keyOf, implies_true, fillC, capOf]
  refine callK_of (h_l8Number) ?_
  simp (disch := omega) only [↓SXd, SXu, slBounds, ↓sop, ↓aop, ↓reduceIte, LV.cells, AOp.dst, LV.I, LV.B, LV.U, LV.S, LV.nil, Nat.reduceEqDiff, Nat.reduceAdd, Nat.reduceMul, Nat.reduceSub, Nat.reduceLeDiff, Nat.reduceBEq, Nat.reduceDiv, Nat.reduceMod, Int.reduceToNat, Int.reduceLT, Int.reduceLE, Int.reduceAdd, Int.reduceSub, Int.reduceMul, Int.reduceEq, Int.reduceNeg, reduceCtorEq, resV, resAll, ARes.ev, LV.flat, ite_true, ite_false, exists_eq_left', exists_eq_left, keyOf, implies_true, fillC, capOf]
  by_cases hk : 0 ≤ k ∧ k ≤ 23
  rotate_left
  · rw [show tbOf k m = none from if_neg fun e => hk e.1]
    simp (disch := omega) only [hk, ↓SXd, SXu, slBounds, ↓sop, ↓aop, ↓reduceIte, LV.cells, AOp.dst, LV.I, LV.B, LV.U, LV.S, LV.nil, Nat.reduceEqDiff, Nat.reduceAdd, Nat.reduceMul, Nat.reduceSub, Nat.reduceLeDiff, Nat.reduceBEq, Nat.reduceDiv, Nat.reduceMod, Int.reduceToNat, Int.reduceLT, Int.reduceLE, Int.reduceAdd, Int.reduceSub, Int.reduceMul, Int.reduceEq, Int.reduceNeg, reduceCtorEq, resV, resAll, ARes.ev, LV.flat, ite_true, ite_false, exists_eq_left', exists_eq_left, keyOf, implies_true, fillC, capOf]
    exact cmp_drop0 rfl
  simp (disch := omega) only [hk, ↓SXd, SXu, slBounds, ↓sop, ↓aop, ↓reduceIte, LV.cells, AOp.dst, LV.I, LV.B, LV.U, LV.S, LV.nil, Nat.reduceEqDiff, Nat.reduceAdd, Nat.reduceMul, Nat.reduceSub, Nat.reduceLeDiff, Nat.reduceBEq, Nat.reduceDiv, Nat.reduceMod, Int.reduceToNat, Int.reduceLT, Int.reduceLE, Int.reduceAdd, Int.reduceSub, Int.reduceMul, Int.reduceEq, Int.reduceNeg, reduceCtorEq, resV, resAll, ARes.ev, LV.flat, ite_true, ite_false, exists_eq_left', exists_eq_left, keyOf, implies_true, fillC, capOf]
  refine callK_of (h_l8Number) ?_
  simp (disch := omega) only [↓SXd, SXu, slBounds, ↓sop, ↓aop, ↓reduceIte, LV.cells, AOp.dst, LV.I, LV.B, LV.U, LV.S, LV.nil, Nat.reduceEqDiff, Nat.reduceAdd, Nat.reduceMul, Nat.reduceSub, Nat.reduceLeDiff, Nat.reduceBEq, Nat.reduceDiv, Nat.reduceMod, Int.reduceToNat, Int.reduceLT, Int.reduceLE, Int.reduceAdd, Int.reduceSub, Int.reduceMul, Int.reduceEq, Int.reduceNeg, reduceCtorEq, resV, resAll, ARes.ev, LV.flat, ite_true, ite_false, exists_eq_left', exists_eq_left, keyOf, implies_true, fillC, capOf]
  by_cases hm : 0 ≤ m ∧ m ≤ 23
  rotate_left
  · rw [show tbOf k m = none from if_neg fun e => hm e.2]
    simp (disch := omega) only [hm, ↓SXd, SXu, slBounds, ↓sop, ↓aop, ↓reduceIte, LV.cells, AOp.dst, LV.I, LV.B, LV.U, LV.S, LV.nil, Nat.reduceEqDiff, Nat.reduceAdd, Nat.reduceMul, Nat.reduceSub, Nat.reduceLeDiff, Nat.reduceBEq, Nat.reduceDiv, Nat.reduceMod, Int.reduceToNat, Int.reduceLT, Int.reduceLE, Int.reduceAdd, Int.reduceSub, Int.reduceMul, Int.reduceEq, Int.reduceNeg, reduceCtorEq, resV, resAll, ARes.ev, LV.flat, ite_true, ite_false, exists_eq_left', exists_eq_left, keyOf, implies_true, fillC, capOf]
    exact cmp_drop0 rfl
  rw [show tbOf k m = some (tbN k.toNat m.toNat) from if_pos ⟨hk, hm⟩]
  have h24 := turns_len
  simp (disch := omega) only [hm, ↓SXd, SXu, slBounds, ↓sop, ↓aop, ↓reduceIte, LV.cells, AOp.dst, LV.I, LV.B, LV.U, LV.S, LV.nil, Nat.reduceEqDiff, Nat.reduceAdd, Nat.reduceMul, Nat.reduceSub, Nat.reduceLeDiff, Nat.reduceBEq, Nat.reduceDiv, Nat.reduceMod, Int.reduceToNat, Int.reduceLT, Int.reduceLE, Int.reduceAdd, Int.reduceSub, Int.reduceMul, Int.reduceEq, Int.reduceNeg, reduceCtorEq, resV, resAll, ARes.ev, LV.flat, ite_true, ite_false, exists_eq_left', exists_eq_left, keyOf, implies_true, fillC, capOf]
  refine callK_of (h_l8Turns) ?_
  simp (disch := omega) only [↓SXd, SXu, slBounds, ↓sop, ↓aop, ↓reduceIte, LV.cells, AOp.dst, LV.I, LV.B, LV.U, LV.S, LV.nil, Nat.reduceEqDiff, Nat.reduceAdd, Nat.reduceMul, Nat.reduceSub, Nat.reduceLeDiff, Nat.reduceBEq, Nat.reduceDiv, Nat.reduceMod, Int.reduceToNat, Int.reduceLT, Int.reduceLE, Int.reduceAdd, Int.reduceSub, Int.reduceMul, Int.reduceEq, Int.reduceNeg, reduceCtorEq, resV, resAll, ARes.ev, LV.flat, ite_true, ite_false, exists_eq_left', exists_eq_left, keyOf, implies_true, fillC, capOf]
  obtain ⟨e1, e2⟩ := six_take (k := k.toNat) (by omega)
  obtain ⟨e3, e4⟩ := six_take (k := m.toNat) (by omega)
  have hk' := turnN_ok (k := k.toNat) (by omega)
  have hm' := turnN_ok (k := m.toNat) (by omega)
  have hmem := behind_mem _ (turnN_mem (k := k.toNat) (by omega)) _ (turnN_mem (k := m.toNat) (by omega))
  rw [tbN_idx]
  generalize turnN k.toNat = T at e1 hk' hmem ⊢
  generalize turnN m.toNat = U at e3 hm' hmem ⊢
  simp (disch := omega) only [e1, e2, e3, e4, if_true, Turn.row, Cell.row, ↓SXd, SXu, slBounds, ↓sop, ↓aop, ↓reduceIte, LV.cells, AOp.dst, LV.I, LV.B, LV.U, LV.S, LV.nil, Nat.reduceEqDiff, Nat.reduceAdd, Nat.reduceMul, Nat.reduceSub, Nat.reduceLeDiff, Nat.reduceBEq, Nat.reduceDiv, Nat.reduceMod, Int.reduceToNat, Int.reduceLT, Int.reduceLE, Int.reduceAdd, Int.reduceSub, Int.reduceMul, Int.reduceEq, Int.reduceNeg, reduceCtorEq, resV, resAll, ARes.ev, LV.flat, ite_true, ite_false, exists_eq_left', exists_eq_left, keyOf, implies_true, fillC, capOf]
  refine callK_of (h_l8Behind hk'.1 hk'.2 hm'.1 hm'.2) ?_
  simp (disch := omega) only [↓SXd, SXu, slBounds, ↓sop, ↓aop, ↓reduceIte, LV.cells, AOp.dst, LV.I, LV.B, LV.U, LV.S, LV.nil, Nat.reduceEqDiff, Nat.reduceAdd, Nat.reduceMul, Nat.reduceSub, Nat.reduceLeDiff, Nat.reduceBEq, Nat.reduceDiv, Nat.reduceMod, Int.reduceToNat, Int.reduceLT, Int.reduceLE, Int.reduceAdd, Int.reduceSub, Int.reduceMul, Int.reduceEq, Int.reduceNeg, reduceCtorEq, resV, resAll, ARes.ev, LV.flat, ite_true, ite_false, exists_eq_left', exists_eq_left, keyOf, implies_true, fillC, capOf]
  refine callK_of (h_l8At hmem) ?_
  simp (disch := omega) only [↓SXd, SXu, slBounds, ↓sop, ↓aop, ↓reduceIte, LV.cells, AOp.dst, LV.I, LV.B, LV.U, LV.S, LV.nil, Nat.reduceEqDiff, Nat.reduceAdd, Nat.reduceMul, Nat.reduceSub, Nat.reduceLeDiff, Nat.reduceBEq, Nat.reduceDiv, Nat.reduceMod, Int.reduceToNat, Int.reduceLT, Int.reduceLE, Int.reduceAdd, Int.reduceSub, Int.reduceMul, Int.reduceEq, Int.reduceNeg, reduceCtorEq, resV, resAll, ARes.ev, LV.flat, ite_true, ite_false, exists_eq_left', exists_eq_left, keyOf, implies_true, fillC, capOf]
  exact cmp_drop rfl
theorem h_sTurnBack {k : Int} {M : Mem} : CallsTo PG F.spec_TurnBack [.I k] M (.tup [.I ((backOf k).getD 0 : Nat), .B (backOf k).isSome]) M := by
  refine calls_run K.spec_TurnBack rfl ?_
  simp (disch := omega) only [C.spec_TurnBack, ↓SXd, SXu, slBounds, ↓sop, ↓aop, ↓reduceIte, LV.cells, AOp.dst, LV.I, LV.B, LV.U, LV.S, LV.nil, Nat.reduceEqDiff, Nat.reduceAdd, Nat.reduceMul, Nat.reduceSub, Nat.reduceLeDiff, Nat.reduceBEq, Nat.reduceDiv, Nat.reduceMod, Int.reduceToNat, Int.reduceLT, Int.reduceLE, Int.reduceAdd, Int.reduceSub, Int.reduceMul, Int.reduceEq, Int.reduceNeg, reduceCtorEq, resV, resAll, ARes.ev, LV.flat, ite_true, ite_false, exists_eq_left', exists_eq_left, keyOf, implies_true, fillC, capOf]
  refine callK_of (h_l8Number) ?_
  simp (disch := omega) only [↓SXd, SXu, slBounds, ↓sop, ↓aop, ↓reduceIte, LV.cells, AOp.dst, LV.I, LV.B, LV.U, LV.S, LV.nil, Nat.reduceEqDiff, Nat.reduceAdd, Nat.reduceMul, Nat.reduceSub, Nat.reduceLeDiff, Nat.reduceBEq, Nat.reduceDiv, Nat.reduceMod, Int.reduceToNat, Int.reduceLT, Int.reduceLE, Int.reduceAdd, Int.reduceSub, Int.reduceMul, Int.reduceEq, Int.reduceNeg, reduceCtorEq, resV, resAll, ARes.ev, LV.flat, ite_true, ite_false, exists_eq_left', exists_eq_left, keyOf, implies_true, fillC, capOf]
  by_cases hk : 0 ≤ k ∧ k ≤ 23
  rotate_left
  · rw [show backOf k = none from if_neg hk]
    simp (disch := omega) only [hk, ↓SXd, SXu, slBounds, ↓sop, ↓aop, ↓reduceIte, LV.cells, AOp.dst, LV.I, LV.B, LV.U, LV.S, LV.nil, Nat.reduceEqDiff, Nat.reduceAdd, Nat.reduceMul, Nat.reduceSub, Nat.reduceLeDiff, Nat.reduceBEq, Nat.reduceDiv, Nat.reduceMod, Int.reduceToNat, Int.reduceLT, Int.reduceLE, Int.reduceAdd, Int.reduceSub, Int.reduceMul, Int.reduceEq, Int.reduceNeg, reduceCtorEq, resV, resAll, ARes.ev, LV.flat, ite_true, ite_false, exists_eq_left', exists_eq_left, keyOf, implies_true, fillC, capOf]
    exact cmp_drop0 rfl
  rw [show backOf k = some (backN k.toNat) from if_pos hk]
  have h24 := turns_len
  simp (disch := omega) only [hk, ↓SXd, SXu, slBounds, ↓sop, ↓aop, ↓reduceIte, LV.cells, AOp.dst, LV.I, LV.B, LV.U, LV.S, LV.nil, Nat.reduceEqDiff, Nat.reduceAdd, Nat.reduceMul, Nat.reduceSub, Nat.reduceLeDiff, Nat.reduceBEq, Nat.reduceDiv, Nat.reduceMod, Int.reduceToNat, Int.reduceLT, Int.reduceLE, Int.reduceAdd, Int.reduceSub, Int.reduceMul, Int.reduceEq, Int.reduceNeg, reduceCtorEq, resV, resAll, ARes.ev, LV.flat, ite_true, ite_false, exists_eq_left', exists_eq_left, keyOf, implies_true, fillC, capOf]
  refine callK_of (h_l8Turns) ?_
  simp (disch := omega) only [↓SXd, SXu, slBounds, ↓sop, ↓aop, ↓reduceIte, LV.cells, AOp.dst, LV.I, LV.B, LV.U, LV.S, LV.nil, Nat.reduceEqDiff, Nat.reduceAdd, Nat.reduceMul, Nat.reduceSub, Nat.reduceLeDiff, Nat.reduceBEq, Nat.reduceDiv, Nat.reduceMod, Int.reduceToNat, Int.reduceLT, Int.reduceLE, Int.reduceAdd, Int.reduceSub, Int.reduceMul, Int.reduceEq, Int.reduceNeg, reduceCtorEq, resV, resAll, ARes.ev, LV.flat, ite_true, ite_false, exists_eq_left', exists_eq_left, keyOf, implies_true, fillC, capOf]
  obtain ⟨e1, e2⟩ := six_take (k := k.toNat) (by omega)
  have hkN : k.toNat < 24 := by omega
  obtain ⟨b1, b2, b3⟩ := back_ok hkN
  have hk' := turnN_ok hkN
  refine ev_loop (fun m fr M' => ∃ j : Nat, j + m = backN k.toNat ∧ Pre M M' ∧ Live M' M.length (.row (sixL turns) true 6) ∧ fr 0 = .I k ∧ fr 4 = .ref M.length 0 turns.length ∧ fr 5 = .I j) (backN k.toNat)
    ⟨0, by omega, Pre.app _ _, Live.new, rfl, rfl, rfl⟩ ?_
  rintro m fr M' ⟨j, hj, hpre, b4, f0, f4, f5⟩
  have hj24 : j < 24 := by omega
  have g1 := six_at b4 hkN
  have g2 := six_at b4 hj24
  have g3 := six_at b4 (k := 0) (by omega)
  have hj' := turnN_ok hj24
  have hz := tb_zero hkN hj24
  rw [Nat.zero_mul] at g3
  simp (disch := omega) only [f0, f4, f5, h24, g1, g2, g3, Turn.row, Cell.row, Nat.zero_add, Nat.zero_mul, ↓SXd, SXu, slBounds, ↓sop, ↓aop, ↓reduceIte, LV.cells, AOp.dst, LV.I, LV.B, LV.U, LV.S, LV.nil, Nat.reduceEqDiff, Nat.reduceAdd, Nat.reduceMul, Nat.reduceSub, Nat.reduceLeDiff, Nat.reduceBEq, Nat.reduceDiv, Nat.reduceMod, Int.reduceToNat, Int.reduceLT, Int.reduceLE, Int.reduceAdd, Int.reduceSub, Int.reduceMul, Int.reduceEq, Int.reduceNeg, reduceCtorEq, resV, resAll, ARes.ev, LV.flat, ite_true, ite_false, exists_eq_left', exists_eq_left, keyOf, implies_true, fillC, capOf]
  refine callK_of (h_l8Behind hk'.1 hk'.2 hj'.1 hj'.2) ?_
  simp (disch := omega) only [f0, f4, f5, eqV, eqC, if_true, ite_true, Bool.and_true, ↓SXd, SXu, slBounds, ↓sop, ↓aop, ↓reduceIte, LV.cells, AOp.dst, LV.I, LV.B, LV.U, LV.S, LV.nil, Nat.reduceEqDiff, Nat.reduceAdd, Nat.reduceMul, Nat.reduceSub, Nat.reduceLeDiff, Nat.reduceBEq, Nat.reduceDiv, Nat.reduceMod, Int.reduceToNat, Int.reduceLT, Int.reduceLE, Int.reduceAdd, Int.reduceSub, Int.reduceMul, Int.reduceEq, Int.reduceNeg, reduceCtorEq, resV, resAll, ARes.ev, LV.flat, ite_true, ite_false, exists_eq_left', exists_eq_left, keyOf, implies_true, fillC, capOf]
  rw [beq6, turnN_zero]
  by_cases he : j = backN k.toNat
  · have e : behind (turnN k.toNat) (turnN j) = oneT := hz.1 (by rw [he]; exact b2)
    simp (disch := omega) only [f0, f4, f5, e, ↓SXd, SXu, slBounds, ↓sop, ↓aop, ↓reduceIte, LV.cells, AOp.dst, LV.I, LV.B, LV.U, LV.S, LV.nil, Nat.reduceEqDiff, Nat.reduceAdd, Nat.reduceMul, Nat.reduceSub, Nat.reduceLeDiff, Nat.reduceBEq, Nat.reduceDiv, Nat.reduceMod, Int.reduceToNat, Int.reduceLT, Int.reduceLE, Int.reduceAdd, Int.reduceSub, Int.reduceMul, Int.reduceEq, Int.reduceNeg, reduceCtorEq, resV, resAll, ARes.ev, LV.flat, ite_true, ite_false, exists_eq_left', exists_eq_left, keyOf, implies_true, fillC, capOf]
    rw [he]
    exact cmp_pre hpre rfl
  · have e : ¬ (behind (turnN k.toNat) (turnN j) = oneT) := fun e => b3 j (by omega) (hz.2 e)
    simp (disch := omega) only [f0, f4, f5, e, ↓SXd, SXu, slBounds, ↓sop, ↓aop, ↓reduceIte, LV.cells, AOp.dst, LV.I, LV.B, LV.U, LV.S, LV.nil, Nat.reduceEqDiff, Nat.reduceAdd, Nat.reduceMul, Nat.reduceSub, Nat.reduceLeDiff, Nat.reduceBEq, Nat.reduceDiv, Nat.reduceMod, Int.reduceToNat, Int.reduceLT, Int.reduceLE, Int.reduceAdd, Int.reduceSub, Int.reduceMul, Int.reduceEq, Int.reduceNeg, reduceCtorEq, resV, resAll, ARes.ev, LV.flat, ite_true, ite_false, exists_eq_left', exists_eq_left, keyOf, implies_true, fillC, capOf]
    exact ⟨m - 1, by omega, j + 1, by omega, hpre, b4, f0, f4, eqI (natI _)⟩
theorem h_sTurnOrder {k : Int} {M : Mem} : CallsTo PG F.spec_TurnOrder [.I k] M (.tup [.I ((ordOf k).getD 0 : Nat), .B (ordOf k).isSome]) M := by
  refine calls_run K.spec_TurnOrder rfl ?_
  simp (disch := omega) only [C.spec_TurnOrder, ↓SXd, SXu, slBounds, ↓sop, ↓aop, ↓reduceIte, LV.cells, AOp.dst, LV.I, LV.B, LV.U, LV.S, LV.nil, Nat.reduceEqDiff, Nat.reduceAdd, Nat.reduceMul, Nat.reduceSub, Nat.reduceLeDiff, Nat.reduceBEq, Nat.reduceDiv, Nat.reduceMod, Int.reduceToNat, Int.reduceLT, Int.reduceLE, Int.reduceAdd, Int.reduceSub, Int.reduceMul, Int.reduceEq, Int.reduceNeg, reduceCtorEq, resV, resAll, ARes.ev, LV.flat, ite_true, ite_false, exists_eq_left', exists_eq_left, keyOf, implies_true, fillC, capOf]
  refine callK_of (h_l8Number) ?_
  simp (disch := omega) only [↓SXd, SXu, slBounds, ↓sop, ↓aop, ↓reduceIte, LV.cells, AOp.dst, LV.I, LV.B, LV.U, LV.S, LV.nil, Nat.reduceEqDiff, Nat.reduceAdd, Nat.reduceMul, Nat.reduceSub, Nat.reduceLeDiff, Nat.reduceBEq, Nat.reduceDiv, Nat.reduceMod, Int.reduceToNat, Int.reduceLT, Int.reduceLE, Int.reduceAdd, Int.reduceSub, Int.reduceMul, Int.reduceEq, Int.reduceNeg, reduceCtorEq, resV, resAll, ARes.ev, LV.flat, ite_true, ite_false, exists_eq_left', exists_eq_left, keyOf, implies_true, fillC, capOf]
  by_cases hk : 0 ≤ k ∧ k ≤ 23
  rotate_left
  · rw [show ordOf k = none from if_neg hk]
    simp (disch := omega) only [hk, ↓SXd, SXu, slBounds, ↓sop, ↓aop, ↓reduceIte, LV.cells, AOp.dst, LV.I, LV.B, LV.U, LV.S, LV.nil, Nat.reduceEqDiff, Nat.reduceAdd, Nat.reduceMul, Nat.reduceSub, Nat.reduceLeDiff, Nat.reduceBEq, Nat.reduceDiv, Nat.reduceMod, Int.reduceToNat, Int.reduceLT, Int.reduceLE, Int.reduceAdd, Int.reduceSub, Int.reduceMul, Int.reduceEq, Int.reduceNeg, reduceCtorEq, resV, resAll, ARes.ev, LV.flat, ite_true, ite_false, exists_eq_left', exists_eq_left, keyOf, implies_true, fillC, capOf]
    exact cmp_drop0 rfl
  rw [show ordOf k = some (ordN k.toNat) from if_pos hk]
  have h24 := turns_len
  simp (disch := omega) only [hk, ↓SXd, SXu, slBounds, ↓sop, ↓aop, ↓reduceIte, LV.cells, AOp.dst, LV.I, LV.B, LV.U, LV.S, LV.nil, Nat.reduceEqDiff, Nat.reduceAdd, Nat.reduceMul, Nat.reduceSub, Nat.reduceLeDiff, Nat.reduceBEq, Nat.reduceDiv, Nat.reduceMod, Int.reduceToNat, Int.reduceLT, Int.reduceLE, Int.reduceAdd, Int.reduceSub, Int.reduceMul, Int.reduceEq, Int.reduceNeg, reduceCtorEq, resV, resAll, ARes.ev, LV.flat, ite_true, ite_false, exists_eq_left', exists_eq_left, keyOf, implies_true, fillC, capOf]
  refine callK_of (h_l8Turns) ?_
  simp (disch := omega) only [↓SXd, SXu, slBounds, ↓sop, ↓aop, ↓reduceIte, LV.cells, AOp.dst, LV.I, LV.B, LV.U, LV.S, LV.nil, Nat.reduceEqDiff, Nat.reduceAdd, Nat.reduceMul, Nat.reduceSub, Nat.reduceLeDiff, Nat.reduceBEq, Nat.reduceDiv, Nat.reduceMod, Int.reduceToNat, Int.reduceLT, Int.reduceLE, Int.reduceAdd, Int.reduceSub, Int.reduceMul, Int.reduceEq, Int.reduceNeg, reduceCtorEq, resV, resAll, ARes.ev, LV.flat, ite_true, ite_false, exists_eq_left', exists_eq_left, keyOf, implies_true, fillC, capOf]
  obtain ⟨e1, e2⟩ := six_take (k := k.toNat) (by omega)
  have hkN : k.toNat < 24 := by omega
  obtain ⟨o1, o2, o3, o4⟩ := ord_ok hkN
  have hk' := turnN_ok hkN
  simp (disch := omega) only [e1, e2, if_true, Turn.row, Cell.row, splice, ↓SXd, SXu, slBounds, ↓sop, ↓aop, ↓reduceIte, LV.cells, AOp.dst, LV.I, LV.B, LV.U, LV.S, LV.nil, Nat.reduceEqDiff, Nat.reduceAdd, Nat.reduceMul, Nat.reduceSub, Nat.reduceLeDiff, Nat.reduceBEq, Nat.reduceDiv, Nat.reduceMod, Int.reduceToNat, Int.reduceLT, Int.reduceLE, Int.reduceAdd, Int.reduceSub, Int.reduceMul, Int.reduceEq, Int.reduceNeg, reduceCtorEq, resV, resAll, ARes.ev, LV.flat, ite_true, ite_false, exists_eq_left', exists_eq_left, keyOf, implies_true, fillC, capOf]
  refine ev_loop (fun m fr M' => ∃ i : Nat, i + m = ordN k.toNat - 1 ∧ Pre M M' ∧ Live M' M.length (.row (sixL turns) true 6) ∧ Live M' (M.length + 1) (.row (turnN (powN k.toNat i)).row true 0) ∧ fr 0 = .I k ∧ fr 4 = .ref M.length 0 turns.length ∧ fr 5 = .I (i + 1 : Nat) ∧ fr 6 = .ptr (M.length + 1) 0) (ordN k.toNat - 1)
    ⟨0, by omega, Pre.app _ _, Live.new, Live.newj rfl, rfl, by rw [h24]; rfl, rfl, rfl⟩ ?_
  rintro m fr M' ⟨i, hi, hpre, b4, b6, f0, f4, f5, f6⟩
  have hp24 := powN_lt hkN i
  have g1 := six_at b4 hkN
  have g3 := six_at b4 (k := 0) (by omega)
  have hj' := turnN_ok hp24
  rw [Nat.zero_mul] at g3
  simp (disch := omega) only [f0, f4, f5, f6, h24, g3, b6.cells, Turn.row, Cell.row, Nat.zero_add, Nat.zero_mul, eqV, eqC, if_true, ite_true, Bool.and_true, ↓SXd, SXu, slBounds, ↓sop, ↓aop, ↓reduceIte, LV.cells, AOp.dst, LV.I, LV.B, LV.U, LV.S, LV.nil, Nat.reduceEqDiff, Nat.reduceAdd, Nat.reduceMul, Nat.reduceSub, Nat.reduceLeDiff, Nat.reduceBEq, Nat.reduceDiv, Nat.reduceMod, Int.reduceToNat, Int.reduceLT, Int.reduceLE, Int.reduceAdd, Int.reduceSub, Int.reduceMul, Int.reduceEq, Int.reduceNeg, reduceCtorEq, resV, resAll, ARes.ev, LV.flat, ite_true, ite_false, exists_eq_left', exists_eq_left, keyOf, implies_true, fillC, capOf]
  rw [beq6, turnN_zero]
  by_cases he : i = ordN k.toNat - 1
  · have e : turnN (powN k.toNat i) = oneT := by rw [he, o3, turnN_zero]
    simp (disch := omega) only [f0, f4, f5, f6, e, ↓SXd, SXu, slBounds, ↓sop, ↓aop, ↓reduceIte, LV.cells, AOp.dst, LV.I, LV.B, LV.U, LV.S, LV.nil, Nat.reduceEqDiff, Nat.reduceAdd, Nat.reduceMul, Nat.reduceSub, Nat.reduceLeDiff, Nat.reduceBEq, Nat.reduceDiv, Nat.reduceMod, Int.reduceToNat, Int.reduceLT, Int.reduceLE, Int.reduceAdd, Int.reduceSub, Int.reduceMul, Int.reduceEq, Int.reduceNeg, reduceCtorEq, resV, resAll, ARes.ev, LV.flat, ite_true, ite_false, exists_eq_left', exists_eq_left, keyOf, implies_true, fillC, capOf]
    rw [show ordN k.toNat = i + 1 by omega]
    exact cmp_pre hpre rfl
  · have e : ¬ (turnN (powN k.toNat i) = oneT) := fun e => o4 i (by omega) (turnN_inj hp24 (by omega) (by rw [e, turnN_zero]))
    have hbm := (tbN_ok hp24 hkN).2
    simp (disch := omega) only [f0, f4, f5, f6, h24, e, b6.cells, g1, Turn.row, Cell.row, ↓SXd, SXu, slBounds, ↓sop, ↓aop, ↓reduceIte, LV.cells, AOp.dst, LV.I, LV.B, LV.U, LV.S, LV.nil, Nat.reduceEqDiff, Nat.reduceAdd, Nat.reduceMul, Nat.reduceSub, Nat.reduceLeDiff, Nat.reduceBEq, Nat.reduceDiv, Nat.reduceMod, Int.reduceToNat, Int.reduceLT, Int.reduceLE, Int.reduceAdd, Int.reduceSub, Int.reduceMul, Int.reduceEq, Int.reduceNeg, reduceCtorEq, resV, resAll, ARes.ev, LV.flat, ite_true, ite_false, exists_eq_left', exists_eq_left, keyOf, implies_true, fillC, capOf]
    refine callK_of (h_l8Behind hj'.1 hj'.2 hk'.1 hk'.2) ?_
    rw [← hbm]
    simp (disch := omega) only [f0, f4, f5, f6, ↓SXd, SXu, slBounds, ↓sop, ↓aop, ↓reduceIte, LV.cells, AOp.dst, LV.I, LV.B, LV.U, LV.S, LV.nil, Nat.reduceEqDiff, Nat.reduceAdd, Nat.reduceMul, Nat.reduceSub, Nat.reduceLeDiff, Nat.reduceBEq, Nat.reduceDiv, Nat.reduceMod, Int.reduceToNat, Int.reduceLT, Int.reduceLE, Int.reduceAdd, Int.reduceSub, Int.reduceMul, Int.reduceEq, Int.reduceNeg, reduceCtorEq, resV, resAll, ARes.ev, LV.flat, ite_true, ite_false, exists_eq_left', exists_eq_left, keyOf, implies_true, fillC, capOf]
    refine memK_box b6 (by simp [Turn.row, Cell.row]) fun N2 r1 r2 r3 => ?_
    simp (disch := omega) only [f0, f4, f5, f6, ↓SXd, SXu, slBounds, ↓sop, ↓aop, ↓reduceIte, LV.cells, AOp.dst, LV.I, LV.B, LV.U, LV.S, LV.nil, Nat.reduceEqDiff, Nat.reduceAdd, Nat.reduceMul, Nat.reduceSub, Nat.reduceLeDiff, Nat.reduceBEq, Nat.reduceDiv, Nat.reduceMod, Int.reduceToNat, Int.reduceLT, Int.reduceLE, Int.reduceAdd, Int.reduceSub, Int.reduceMul, Int.reduceEq, Int.reduceNeg, reduceCtorEq, resV, resAll, ARes.ev, LV.flat, ite_true, ite_false, exists_eq_left', exists_eq_left, keyOf, implies_true, fillC, capOf]
    have hl4 := b4.lt
    exact ⟨m - 1, by omega, i + 1, by omega, pre_step hpre (by omega) (j := 0) r1 r3, live_step b4 (by omega) r3, r2, f0, f4, eqI (by omega), f6⟩
end Go.Ab

/- Contracts: turns one behind the other, turns back, orders: the program's side. -/
namespace Go.Ab
open Go
set_option linter.unusedSimpArgs false
set_option linter.unusedVariables false
set_option maxRecDepth 20000

theorem g_IndexT {R : Turn} {t : Nat} {w : Bool} {M : Mem} (h : Live M t (.row (sixL turns) w 6)) (hR : R ∈ turns) : CallsTo PG F.slices_Index_Simpl_turning_impl_turning [.ref t 0 24, R.agg] M (.I (idxT R : Nat)) M := by
  obtain ⟨i1, i2, i3⟩ := idxT_ok hR
  have ht := h.lt
  refine calls_run K.slices_Index_Simpl_turning_impl_turning rfl ?_
  simp (disch := omega) only [C.slices_Index_Simpl_turning_impl_turning, ↓SXd, SXu, slBounds, ↓sop, ↓aop, ↓reduceIte, LV.cells, AOp.dst, LV.I, LV.B, LV.U, LV.S, LV.nil, Nat.reduceEqDiff, Nat.reduceAdd, Nat.reduceMul, Nat.reduceSub, Nat.reduceLeDiff, Nat.reduceBEq, Nat.reduceDiv, Nat.reduceMod, Int.reduceToNat, Int.reduceLT, Int.reduceLE, Int.reduceAdd, Int.reduceSub, Int.reduceMul, Int.reduceEq, Int.reduceNeg, reduceCtorEq, resV, resAll, ARes.ev, LV.flat, ite_true, ite_false, exists_eq_left', exists_eq_left, keyOf, implies_true, fillC, capOf]
  refine ev_loop (fun m fr M' => ∃ k : Nat, k + m = idxT R ∧ Pre M M' ∧ Live M' M.length (.row R.row true 0) ∧ Live M' t (.row (sixL turns) w 6) ∧ fr 0 = .ref t 0 24 ∧ fr 3 = .ptr M.length 0 ∧ fr 7 = .I 24 ∧ fr 8 = .I k) (idxT R)
    ⟨0, by omega, Pre.app _ _, Live.new, h.app, rfl, rfl, rfl, rfl⟩ ?_
  rintro m fr M' ⟨k, hk, hpre, b3, b0, f0, f3, f7, f8⟩
  have hg := six_at b0 (k := k) (by omega)
  have hk24 : (k : Int) < 24 := by omega
  simp (disch := omega) only [f0, f3, f7, f8, hk24, hg, b3.cells, Turn.row, Cell.row, eqV, eqC, if_true, ite_true, Bool.and_true, Nat.zero_add, ↓SXd, SXu, slBounds, ↓sop, ↓aop, ↓reduceIte, LV.cells, AOp.dst, LV.I, LV.B, LV.U, LV.S, LV.nil, Nat.reduceEqDiff, Nat.reduceAdd, Nat.reduceMul, Nat.reduceSub, Nat.reduceLeDiff, Nat.reduceBEq, Nat.reduceDiv, Nat.reduceMod, Int.reduceToNat, Int.reduceLT, Int.reduceLE, Int.reduceAdd, Int.reduceSub, Int.reduceMul, Int.reduceEq, Int.reduceNeg, reduceCtorEq, resV, resAll, ARes.ev, LV.flat, ite_true, ite_false, exists_eq_left', exists_eq_left, keyOf, implies_true, fillC, capOf]
  rw [beq6]
  by_cases he : k = idxT R
  · have e : R = turnN k := by rw [he]; exact i2.symm
    simp (disch := omega) only [f0, f3, f7, f8, (decide_eq_true e), ↓SXd, SXu, slBounds, ↓sop, ↓aop, ↓reduceIte, LV.cells, AOp.dst, LV.I, LV.B, LV.U, LV.S, LV.nil, Nat.reduceEqDiff, Nat.reduceAdd, Nat.reduceMul, Nat.reduceSub, Nat.reduceLeDiff, Nat.reduceBEq, Nat.reduceDiv, Nat.reduceMod, Int.reduceToNat, Int.reduceLT, Int.reduceLE, Int.reduceAdd, Int.reduceSub, Int.reduceMul, Int.reduceEq, Int.reduceNeg, reduceCtorEq, resV, resAll, ARes.ev, LV.flat, ite_true, ite_false, exists_eq_left', exists_eq_left, keyOf, implies_true, fillC, capOf]
    rw [he]
    exact cmp_pre hpre rfl
  · have e : ¬ (R = turnN k) := fun e => i3 k (by omega) e.symm
    simp (disch := omega) only [f0, f3, f7, f8, (decide_eq_false e), ↓SXd, SXu, slBounds, ↓sop, ↓aop, ↓reduceIte, LV.cells, AOp.dst, LV.I, LV.B, LV.U, LV.S, LV.nil, Nat.reduceEqDiff, Nat.reduceAdd, Nat.reduceMul, Nat.reduceSub, Nat.reduceLeDiff, Nat.reduceBEq, Nat.reduceDiv, Nat.reduceMod, Int.reduceToNat, Int.reduceLT, Int.reduceLE, Int.reduceAdd, Int.reduceSub, Int.reduceMul, Int.reduceEq, Int.reduceNeg, reduceCtorEq, resV, resAll, ARes.ev, LV.flat, ite_true, ite_false, exists_eq_left', exists_eq_left, keyOf, implies_true, fillC, capOf]
    exact ⟨m - 1, by omega, k + 1, by omega, hpre, b3, b0, f0, f3, f7, eqI (natI _)⟩
theorem xorI_comm (a b : Int) : xorI a b = xorI b a := by
  unfold xorI
  by_cases h : a = b
  · rw [if_pos h, if_pos h.symm]
  · rw [if_neg h, if_neg (fun e => h e.symm)]
theorem g_turnBehind {k m : Nat} {M : Mem} (hk : k < 24) (hm : m < 24) : CallsTo PG F.impl_turnBehind [.I k, .I m] M (.I (tbN k m : Nat)) M := by
  refine calls_run K.impl_turnBehind rfl ?_
  have h24 := turns_len
  simp (disch := omega) only [C.impl_turnBehind, ↓SXd, SXu, slBounds, ↓sop, ↓aop, ↓reduceIte, LV.cells, AOp.dst, LV.I, LV.B, LV.U, LV.S, LV.nil, Nat.reduceEqDiff, Nat.reduceAdd, Nat.reduceMul, Nat.reduceSub, Nat.reduceLeDiff, Nat.reduceBEq, Nat.reduceDiv, Nat.reduceMod, Int.reduceToNat, Int.reduceLT, Int.reduceLE, Int.reduceAdd, Int.reduceSub, Int.reduceMul, Int.reduceEq, Int.reduceNeg, reduceCtorEq, resV, resAll, ARes.ev, LV.flat, ite_true, ite_false, exists_eq_left', exists_eq_left, keyOf, implies_true, fillC, capOf]
  refine callK_of (g_turnings) ?_
  simp (disch := omega) only [↓SXd, SXu, slBounds, ↓sop, ↓aop, ↓reduceIte, LV.cells, AOp.dst, LV.I, LV.B, LV.U, LV.S, LV.nil, Nat.reduceEqDiff, Nat.reduceAdd, Nat.reduceMul, Nat.reduceSub, Nat.reduceLeDiff, Nat.reduceBEq, Nat.reduceDiv, Nat.reduceMod, Int.reduceToNat, Int.reduceLT, Int.reduceLE, Int.reduceAdd, Int.reduceSub, Int.reduceMul, Int.reduceEq, Int.reduceNeg, reduceCtorEq, resV, resAll, ARes.ev, LV.flat, ite_true, ite_false, exists_eq_left', exists_eq_left, keyOf, implies_true, fillC, capOf]
  obtain ⟨e1, e2⟩ := six_take hk
  obtain ⟨e3, e4⟩ := six_take hm
  obtain ⟨hT, hTb⟩ := turnN_ok hk
  obtain ⟨hU, hUb⟩ := turnN_ok hm
  have hmem := behind_mem _ (turnN_mem hk) _ (turnN_mem hm)
  rw [tbN_idx]
  generalize turnN k = T at e1 hT hTb hmem ⊢
  generalize turnN m = U at e3 hU hUb hmem ⊢
  simp (disch := omega) only [e1, e2, e3, e4, if_true, Turn.row, Cell.row, splice, ↓SXd, SXu, slBounds, ↓sop, ↓aop, ↓reduceIte, LV.cells, AOp.dst, LV.I, LV.B, LV.U, LV.S, LV.nil, Nat.reduceEqDiff, Nat.reduceAdd, Nat.reduceMul, Nat.reduceSub, Nat.reduceLeDiff, Nat.reduceBEq, Nat.reduceDiv, Nat.reduceMod, Int.reduceToNat, Int.reduceLT, Int.reduceLE, Int.reduceAdd, Int.reduceSub, Int.reduceMul, Int.reduceEq, Int.reduceNeg, reduceCtorEq, resV, resAll, ARes.ev, LV.flat, ite_true, ite_false, exists_eq_left', exists_eq_left, keyOf, implies_true, fillC, capOf]
  refine ev_loop (fun n fr M' => ∃ d : Nat, d + n = 3 ∧ M'.length = M.length + 4 ∧ Pre M M' ∧ Live M' M.length (.row (sixL turns) true 6) ∧ Live M' (M.length + 1) (.row T.row true 0) ∧ Live M' (M.length + 2) (.row U.row true 0) ∧ Live M' (M.length + 3) (.row (partT (behind T U) d d) true 0) ∧
    fr 5 = .ref M.length 0 turns.length ∧ fr 6 = .ptr (M.length + 1) 0 ∧ fr 7 = .ptr (M.length + 2) 0 ∧ fr 8 = .ptr (M.length + 3) 0 ∧ fr 22 = .agg [.I U.fr.a, .I U.fr.b, .I U.fr.c] ∧ fr 23 = .I d) 3
    ⟨0, rfl, by simp, Pre.app _ _, Live.new, Live.newj rfl, Live.newj rfl, Live.newj rfl, rfl, rfl, rfl, rfl, rfl, rfl⟩ ?_
  rintro n fr M' ⟨d, hd, hM', hpre, b5, b6, b7, b8, f5, f6, f7, f8, f22, f23⟩
  simp (disch := omega) only [f5, f6, f7, f8, f22, f23, ↓SXd, SXu, slBounds, ↓sop, ↓aop, ↓reduceIte, LV.cells, AOp.dst, LV.I, LV.B, LV.U, LV.S, LV.nil, Nat.reduceEqDiff, Nat.reduceAdd, Nat.reduceMul, Nat.reduceSub, Nat.reduceLeDiff, Nat.reduceBEq, Nat.reduceDiv, Nat.reduceMod, Int.reduceToNat, Int.reduceLT, Int.reduceLE, Int.reduceAdd, Int.reduceSub, Int.reduceMul, Int.reduceEq, Int.reduceNeg, reduceCtorEq, resV, resAll, ARes.ev, LV.flat, ite_true, ite_false, exists_eq_left', exists_eq_left, keyOf, implies_true, fillC, capOf]
  refine condC_dec (fun hlt => ?_) (fun hlt => ?_)
  · have hd3 : d < 3 := by omega
    have hs := OkT.at hU (dirN hd3)
    have hxb := xor_bit (hUb.at (dirN hd3)) (hTb.at hs)
    rw [xorI_comm, ← behind_fl hd3] at hxb
    have e0 : [LV.I U.fr.a, .I U.fr.b, .I U.fr.c][d]? = some (.I (U.fr.at d)) := Cell.row_at hd3
    have e2 := b6.cell (o := (U.fr.at d).toNat)
    rw [Turn.row_frI hs, ← behind_fr hd3] at e2
    have q1 : 0 ≤ U.fr.at d := by rcases hs with h | h | h <;> omega
    have q2 : U.fr.at d < 3 := by rcases hs with h | h | h <;> omega
    simp (disch := omega) only [f5, f6, f7, f8, f22, f23, e0, e2, q1, q2, Nat.mul_one, Nat.zero_add, ↓SXd, SXu, slBounds, ↓sop, ↓aop, ↓reduceIte, LV.cells, AOp.dst, LV.I, LV.B, LV.U, LV.S, LV.nil, Nat.reduceEqDiff, Nat.reduceAdd, Nat.reduceMul, Nat.reduceSub, Nat.reduceLeDiff, Nat.reduceBEq, Nat.reduceDiv, Nat.reduceMod, Int.reduceToNat, Int.reduceLT, Int.reduceLE, Int.reduceAdd, Int.reduceSub, Int.reduceMul, Int.reduceEq, Int.reduceNeg, reduceCtorEq, resV, resAll, ARes.ev, LV.flat, ite_true, ite_false, exists_eq_left', exists_eq_left, keyOf, implies_true, fillC, capOf]
    refine memK_at b8 (show d < 6 by omega) fun N1 k1 k2 k3 => ?_
    rw [partT_fr hd3] at k2
    have c5 := live_step b5 (by omega) k3
    have c6 := live_step b6 (by omega) k3
    have c7 := live_step b7 (by omega) k3
    have g3 := c7.cell (o := 3 + d)
    rw [Turn.row_fl hd3] at g3
    have g4 := c6.cell (o := 3 + (U.fr.at d).toNat)
    rw [Turn.row_flI hs] at g4
    simp (disch := omega) only [f5, f6, f7, f8, f22, f23, g3, g4, q1, q2, Nat.mul_one, Nat.zero_add, hxb, ↓SXd, SXu, slBounds, ↓sop, ↓aop, ↓reduceIte, LV.cells, AOp.dst, LV.I, LV.B, LV.U, LV.S, LV.nil, Nat.reduceEqDiff, Nat.reduceAdd, Nat.reduceMul, Nat.reduceSub, Nat.reduceLeDiff, Nat.reduceBEq, Nat.reduceDiv, Nat.reduceMod, Int.reduceToNat, Int.reduceLT, Int.reduceLE, Int.reduceAdd, Int.reduceSub, Int.reduceMul, Int.reduceEq, Int.reduceNeg, reduceCtorEq, resV, resAll, ARes.ev, LV.flat, ite_true, ite_false, exists_eq_left', exists_eq_left, keyOf, implies_true, fillC, capOf]
    refine memK_at k2 (show 3 + d < 6 by omega) fun N2 r1 r2 r3 => ?_
    rw [partT_fl hd3] at r2
    simp (disch := omega) only [f5, f6, f7, f8, f22, f23, ↓SXd, SXu, slBounds, ↓sop, ↓aop, ↓reduceIte, LV.cells, AOp.dst, LV.I, LV.B, LV.U, LV.S, LV.nil, Nat.reduceEqDiff, Nat.reduceAdd, Nat.reduceMul, Nat.reduceSub, Nat.reduceLeDiff, Nat.reduceBEq, Nat.reduceDiv, Nat.reduceMod, Int.reduceToNat, Int.reduceLT, Int.reduceLE, Int.reduceAdd, Int.reduceSub, Int.reduceMul, Int.reduceEq, Int.reduceNeg, reduceCtorEq, resV, resAll, ARes.ev, LV.flat, ite_true, ite_false, exists_eq_left', exists_eq_left, keyOf, implies_true, fillC, capOf]
    exact ⟨n - 1, by omega, d + 1, by omega, by omega, pre_step (pre_step hpre (by omega) (j := 0) k1 k3) (by omega) (j := 0) r1 r3, live_step c5 (by omega) r3, live_step c6 (by omega) r3, live_step c7 (by omega) r3, r2, f5, f6, f7, f8, f22, eqI (natI _)⟩
  · have hd3 : d = 3 := by omega
    subst hd3
    have b8' : Live M' (M.length + 3) (.row (behind T U).row true 0) := b8
    simp (disch := omega) only [f5, f6, f7, f8, f22, f23, b8'.cells, Turn.row, Cell.row, h24, ↓SXd, SXu, slBounds, ↓sop, ↓aop, ↓reduceIte, LV.cells, AOp.dst, LV.I, LV.B, LV.U, LV.S, LV.nil, Nat.reduceEqDiff, Nat.reduceAdd, Nat.reduceMul, Nat.reduceSub, Nat.reduceLeDiff, Nat.reduceBEq, Nat.reduceDiv, Nat.reduceMod, Int.reduceToNat, Int.reduceLT, Int.reduceLE, Int.reduceAdd, Int.reduceSub, Int.reduceMul, Int.reduceEq, Int.reduceNeg, reduceCtorEq, resV, resAll, ARes.ev, LV.flat, ite_true, ite_false, exists_eq_left', exists_eq_left, keyOf, implies_true, fillC, capOf]
    refine callK_of (g_IndexT b5 hmem) ?_
    simp (disch := omega) only [f5, f6, f7, f8, f22, f23, ↓SXd, SXu, slBounds, ↓sop, ↓aop, ↓reduceIte, LV.cells, AOp.dst, LV.I, LV.B, LV.U, LV.S, LV.nil, Nat.reduceEqDiff, Nat.reduceAdd, Nat.reduceMul, Nat.reduceSub, Nat.reduceLeDiff, Nat.reduceBEq, Nat.reduceDiv, Nat.reduceMod, Int.reduceToNat, Int.reduceLT, Int.reduceLE, Int.reduceAdd, Int.reduceSub, Int.reduceMul, Int.reduceEq, Int.reduceNeg, reduceCtorEq, resV, resAll, ARes.ev, LV.flat, ite_true, ite_false, exists_eq_left', exists_eq_left, keyOf, implies_true, fillC, capOf]
    exact cmp_pre hpre rfl
/-- What TurnBehind, TurnBack, TurnOrder of the program answer. -/
theorem g_TurnBehind {k m : Int} {M : Mem} : CallsTo PG F.impl_TurnBehind [.I k, .I m] M (.tup [.I ((tbOf k m).getD 0 : Nat), .B (tbOf k m).isSome]) M := by
  refine calls_run K.impl_TurnBehind rfl ?_
  simp (disch := omega) only [C.impl_TurnBehind, ↓SXd, SXu, slBounds, ↓sop, ↓aop, ↓reduceIte, LV.cells, AOp.dst, LV.I, LV.B, LV.U, LV.S, LV.nil, Nat.reduceEqDiff, Nat.reduceAdd, Nat.reduceMul, Nat.reduceSub, Nat.reduceLeDiff, Nat.reduceBEq, Nat.reduceDiv, Nat.reduceMod, Int.reduceToNat, Int.reduceLT, Int.reduceLE, Int.reduceAdd, Int.reduceSub, Int.reduceMul, Int.reduceEq, Int.reduceNeg, reduceCtorEq, resV, resAll, ARes.ev, LV.flat, ite_true, ite_false, exists_eq_left', exists_eq_left, keyOf, implies_true, fillC, capOf]
  refine callK_of (g_isTurn) ?_
  simp (disch := omega) only [↓SXd, SXu, slBounds, ↓sop, ↓aop, ↓reduceIte, LV.cells, AOp.dst, LV.I, LV.B, LV.U, LV.S, LV.nil, Nat.reduceEqDiff, Nat.reduceAdd, Nat.reduceMul, Nat.reduceSub, Nat.reduceLeDiff, Nat.reduceBEq, Nat.reduceDiv, Nat.reduceMod, Int.reduceToNat, Int.reduceLT, Int.reduceLE, Int.reduceAdd, Int.reduceSub, Int.reduceMul, Int.reduceEq, Int.reduceNeg, reduceCtorEq, resV, resAll, ARes.ev, LV.flat, ite_true, ite_false, exists_eq_left', exists_eq_left, keyOf, implies_true, fillC, capOf]
  by_cases hk : In24 k
  rotate_left
  · rw [show tbOf k m = none from if_neg fun e => hk e.1]
    simp (disch := omega) only [hk, ↓SXd, SXu, slBounds, ↓sop, ↓aop, ↓reduceIte, LV.cells, AOp.dst, LV.I, LV.B, LV.U, LV.S, LV.nil, Nat.reduceEqDiff, Nat.reduceAdd, Nat.reduceMul, Nat.reduceSub, Nat.reduceLeDiff, Nat.reduceBEq, Nat.reduceDiv, Nat.reduceMod, Int.reduceToNat, Int.reduceLT, Int.reduceLE, Int.reduceAdd, Int.reduceSub, Int.reduceMul, Int.reduceEq, Int.reduceNeg, reduceCtorEq, resV, resAll, ARes.ev, LV.flat, ite_true, ite_false, exists_eq_left', exists_eq_left, keyOf, implies_true, fillC, capOf]
    exact cmp_drop0 rfl
  simp (disch := omega) only [hk, ↓SXd, SXu, slBounds, ↓sop, ↓aop, ↓reduceIte, LV.cells, AOp.dst, LV.I, LV.B, LV.U, LV.S, LV.nil, Nat.reduceEqDiff, Nat.reduceAdd, Nat.reduceMul, Nat.reduceSub, Nat.reduceLeDiff, Nat.reduceBEq, Nat.reduceDiv, Nat.reduceMod, Int.reduceToNat, Int.reduceLT, Int.reduceLE, Int.reduceAdd, Int.reduceSub, Int.reduceMul, Int.reduceEq, Int.reduceNeg, reduceCtorEq, resV, resAll, ARes.ev, LV.flat, ite_true, ite_false, exists_eq_left', exists_eq_left, keyOf, implies_true, fillC, capOf]
  refine callK_of (g_isTurn) ?_
  simp (disch := omega) only [↓SXd, SXu, slBounds, ↓sop, ↓aop, ↓reduceIte, LV.cells, AOp.dst, LV.I, LV.B, LV.U, LV.S, LV.nil, Nat.reduceEqDiff, Nat.reduceAdd, Nat.reduceMul, Nat.reduceSub, Nat.reduceLeDiff, Nat.reduceBEq, Nat.reduceDiv, Nat.reduceMod, Int.reduceToNat, Int.reduceLT, Int.reduceLE, Int.reduceAdd, Int.reduceSub, Int.reduceMul, Int.reduceEq, Int.reduceNeg, reduceCtorEq, resV, resAll, ARes.ev, LV.flat, ite_true, ite_false, exists_eq_left', exists_eq_left, keyOf, implies_true, fillC, capOf]
  by_cases hm : In24 m
  rotate_left
  · rw [show tbOf k m = none from if_neg fun e => hm e.2]
    simp (disch := omega) only [hm, ↓SXd, SXu, slBounds, ↓sop, ↓aop, ↓reduceIte, LV.cells, AOp.dst, LV.I, LV.B, LV.U, LV.S, LV.nil, Nat.reduceEqDiff, Nat.reduceAdd, Nat.reduceMul, Nat.reduceSub, Nat.reduceLeDiff, Nat.reduceBEq, Nat.reduceDiv, Nat.reduceMod, Int.reduceToNat, Int.reduceLT, Int.reduceLE, Int.reduceAdd, Int.reduceSub, Int.reduceMul, Int.reduceEq, Int.reduceNeg, reduceCtorEq, resV, resAll, ARes.ev, LV.flat, ite_true, ite_false, exists_eq_left', exists_eq_left, keyOf, implies_true, fillC, capOf]
    exact cmp_drop0 rfl
  rw [show tbOf k m = some (tbN k.toNat m.toNat) from if_pos ⟨hk, hm⟩]
  obtain ⟨k1, k2⟩ := id hk
  obtain ⟨m1, m2⟩ := id hm
  have ht := g_turnBehind (k := k.toNat) (m := m.toNat) (M := M) (by omega) (by omega)
  rw [Int.toNat_of_nonneg k1, Int.toNat_of_nonneg m1] at ht
  simp (disch := omega) only [hm, ↓SXd, SXu, slBounds, ↓sop, ↓aop, ↓reduceIte, LV.cells, AOp.dst, LV.I, LV.B, LV.U, LV.S, LV.nil, Nat.reduceEqDiff, Nat.reduceAdd, Nat.reduceMul, Nat.reduceSub, Nat.reduceLeDiff, Nat.reduceBEq, Nat.reduceDiv, Nat.reduceMod, Int.reduceToNat, Int.reduceLT, Int.reduceLE, Int.reduceAdd, Int.reduceSub, Int.reduceMul, Int.reduceEq, Int.reduceNeg, reduceCtorEq, resV, resAll, ARes.ev, LV.flat, ite_true, ite_false, exists_eq_left', exists_eq_left, keyOf, implies_true, fillC, capOf]
  refine callK_of (ht) ?_
  simp (disch := omega) only [↓SXd, SXu, slBounds, ↓sop, ↓aop, ↓reduceIte, LV.cells, AOp.dst, LV.I, LV.B, LV.U, LV.S, LV.nil, Nat.reduceEqDiff, Nat.reduceAdd, Nat.reduceMul, Nat.reduceSub, Nat.reduceLeDiff, Nat.reduceBEq, Nat.reduceDiv, Nat.reduceMod, Int.reduceToNat, Int.reduceLT, Int.reduceLE, Int.reduceAdd, Int.reduceSub, Int.reduceMul, Int.reduceEq, Int.reduceNeg, reduceCtorEq, resV, resAll, ARes.ev, LV.flat, ite_true, ite_false, exists_eq_left', exists_eq_left, keyOf, implies_true, fillC, capOf]
  exact cmp_drop0 rfl
theorem g_TurnBack {k : Int} {M : Mem} : CallsTo PG F.impl_TurnBack [.I k] M (.tup [.I ((backOf k).getD 0 : Nat), .B (backOf k).isSome]) M := by
  refine calls_run K.impl_TurnBack rfl ?_
  simp (disch := omega) only [C.impl_TurnBack, ↓SXd, SXu, slBounds, ↓sop, ↓aop, ↓reduceIte, LV.cells, AOp.dst, LV.I, LV.B, LV.U, LV.S, LV.nil, Nat.reduceEqDiff, Nat.reduceAdd, Nat.reduceMul, Nat.reduceSub, Nat.reduceLeDiff, Nat.reduceBEq, Nat.reduceDiv, Nat.reduceMod, Int.reduceToNat, Int.reduceLT, Int.reduceLE, Int.reduceAdd, Int.reduceSub, Int.reduceMul, Int.reduceEq, Int.reduceNeg, reduceCtorEq, resV, resAll, ARes.ev, LV.flat, ite_true, ite_false, exists_eq_left', exists_eq_left, keyOf, implies_true, fillC, capOf]
  refine callK_of (g_isTurn) ?_
  simp (disch := omega) only [↓SXd, SXu, slBounds, ↓sop, ↓aop, ↓reduceIte, LV.cells, AOp.dst, LV.I, LV.B, LV.U, LV.S, LV.nil, Nat.reduceEqDiff, Nat.reduceAdd, Nat.reduceMul, Nat.reduceSub, Nat.reduceLeDiff, Nat.reduceBEq, Nat.reduceDiv, Nat.reduceMod, Int.reduceToNat, Int.reduceLT, Int.reduceLE, Int.reduceAdd, Int.reduceSub, Int.reduceMul, Int.reduceEq, Int.reduceNeg, reduceCtorEq, resV, resAll, ARes.ev, LV.flat, ite_true, ite_false, exists_eq_left', exists_eq_left, keyOf, implies_true, fillC, capOf]
  by_cases hk : In24 k
  rotate_left
  · rw [show backOf k = none from if_neg hk]
    simp (disch := omega) only [hk, ↓SXd, SXu, slBounds, ↓sop, ↓aop, ↓reduceIte, LV.cells, AOp.dst, LV.I, LV.B, LV.U, LV.S, LV.nil, Nat.reduceEqDiff, Nat.reduceAdd, Nat.reduceMul, Nat.reduceSub, Nat.reduceLeDiff, Nat.reduceBEq, Nat.reduceDiv, Nat.reduceMod, Int.reduceToNat, Int.reduceLT, Int.reduceLE, Int.reduceAdd, Int.reduceSub, Int.reduceMul, Int.reduceEq, Int.reduceNeg, reduceCtorEq, resV, resAll, ARes.ev, LV.flat, ite_true, ite_false, exists_eq_left', exists_eq_left, keyOf, implies_true, fillC, capOf]
    exact cmp_drop0 rfl
  rw [show backOf k = some (backN k.toNat) from if_pos hk]
  obtain ⟨k1, k2⟩ := id hk
  have hkN : k.toNat < 24 := by omega
  obtain ⟨b1, b2, b3⟩ := back_ok hkN
  have hki : k = (k.toNat : Int) := by omega
  simp (disch := omega) only [hk, ↓SXd, SXu, slBounds, ↓sop, ↓aop, ↓reduceIte, LV.cells, AOp.dst, LV.I, LV.B, LV.U, LV.S, LV.nil, Nat.reduceEqDiff, Nat.reduceAdd, Nat.reduceMul, Nat.reduceSub, Nat.reduceLeDiff, Nat.reduceBEq, Nat.reduceDiv, Nat.reduceMod, Int.reduceToNat, Int.reduceLT, Int.reduceLE, Int.reduceAdd, Int.reduceSub, Int.reduceMul, Int.reduceEq, Int.reduceNeg, reduceCtorEq, resV, resAll, ARes.ev, LV.flat, ite_true, ite_false, exists_eq_left', exists_eq_left, keyOf, implies_true, fillC, capOf]
  refine ev_loop (fun m fr M' => ∃ j : Nat, j + m = backN k.toNat ∧ M' = M ∧ fr 0 = .I k ∧ fr 4 = .I j) (backN k.toNat)
    ⟨0, by omega, rfl, rfl, rfl⟩ ?_
  rintro m fr M ⟨j, hj, rfl, f0, f4⟩
  have ht := g_turnBehind (k := k.toNat) (m := j) (M := M) hkN (by omega)
  rw [Int.toNat_of_nonneg k1] at ht
  simp (disch := omega) only [f0, f4, ↓SXd, SXu, slBounds, ↓sop, ↓aop, ↓reduceIte, LV.cells, AOp.dst, LV.I, LV.B, LV.U, LV.S, LV.nil, Nat.reduceEqDiff, Nat.reduceAdd, Nat.reduceMul, Nat.reduceSub, Nat.reduceLeDiff, Nat.reduceBEq, Nat.reduceDiv, Nat.reduceMod, Int.reduceToNat, Int.reduceLT, Int.reduceLE, Int.reduceAdd, Int.reduceSub, Int.reduceMul, Int.reduceEq, Int.reduceNeg, reduceCtorEq, resV, resAll, ARes.ev, LV.flat, ite_true, ite_false, exists_eq_left', exists_eq_left, keyOf, implies_true, fillC, capOf]
  refine callK_of ht ?_
  by_cases he : j = backN k.toNat
  · have e : ((tbN k.toNat j : Nat) : Int) = 0 := by rw [he, b2]; rfl
    simp (disch := omega) only [f0, f4, e, ↓SXd, SXu, slBounds, ↓sop, ↓aop, ↓reduceIte, LV.cells, AOp.dst, LV.I, LV.B, LV.U, LV.S, LV.nil, Nat.reduceEqDiff, Nat.reduceAdd, Nat.reduceMul, Nat.reduceSub, Nat.reduceLeDiff, Nat.reduceBEq, Nat.reduceDiv, Nat.reduceMod, Int.reduceToNat, Int.reduceLT, Int.reduceLE, Int.reduceAdd, Int.reduceSub, Int.reduceMul, Int.reduceEq, Int.reduceNeg, reduceCtorEq, resV, resAll, ARes.ev, LV.flat, ite_true, ite_false, exists_eq_left', exists_eq_left, keyOf, implies_true, fillC, capOf]
    rw [he]
    exact cmp_drop0 rfl
  · have e : ¬ (((tbN k.toNat j : Nat) : Int) = 0) := fun e => b3 j (by omega) (by omega)
    simp (disch := omega) only [f0, f4, e, ↓SXd, SXu, slBounds, ↓sop, ↓aop, ↓reduceIte, LV.cells, AOp.dst, LV.I, LV.B, LV.U, LV.S, LV.nil, Nat.reduceEqDiff, Nat.reduceAdd, Nat.reduceMul, Nat.reduceSub, Nat.reduceLeDiff, Nat.reduceBEq, Nat.reduceDiv, Nat.reduceMod, Int.reduceToNat, Int.reduceLT, Int.reduceLE, Int.reduceAdd, Int.reduceSub, Int.reduceMul, Int.reduceEq, Int.reduceNeg, reduceCtorEq, resV, resAll, ARes.ev, LV.flat, ite_true, ite_false, exists_eq_left', exists_eq_left, keyOf, implies_true, fillC, capOf]
    exact ⟨m - 1, by omega, j + 1, by omega, rfl, f0, eqI (natI _)⟩
theorem g_TurnOrder {k : Int} {M : Mem} : CallsTo PG F.impl_TurnOrder [.I k] M (.tup [.I ((ordOf k).getD 0 : Nat), .B (ordOf k).isSome]) M := by
  refine calls_run K.impl_TurnOrder rfl ?_
  simp (disch := omega) only [C.impl_TurnOrder, ↓SXd, SXu, slBounds, ↓sop, ↓aop, ↓reduceIte, LV.cells, AOp.dst, LV.I, LV.B, LV.U, LV.S, LV.nil, Nat.reduceEqDiff, Nat.reduceAdd, Nat.reduceMul, Nat.reduceSub, Nat.reduceLeDiff, Nat.reduceBEq, Nat.reduceDiv, Nat.reduceMod, Int.reduceToNat, Int.reduceLT, Int.reduceLE, Int.reduceAdd, Int.reduceSub, Int.reduceMul, Int.reduceEq, Int.reduceNeg, reduceCtorEq, resV, resAll, ARes.ev, LV.flat, ite_true, ite_false, exists_eq_left', exists_eq_left, keyOf, implies_true, fillC, capOf]
  refine callK_of (g_isTurn) ?_
  simp (disch := omega) only [↓SXd, SXu, slBounds, ↓sop, ↓aop, ↓reduceIte, LV.cells, AOp.dst, LV.I, LV.B, LV.U, LV.S, LV.nil, Nat.reduceEqDiff, Nat.reduceAdd, Nat.reduceMul, Nat.reduceSub, Nat.reduceLeDiff, Nat.reduceBEq, Nat.reduceDiv, Nat.reduceMod, Int.reduceToNat, Int.reduceLT, Int.reduceLE, Int.reduceAdd, Int.reduceSub, Int.reduceMul, Int.reduceEq, Int.reduceNeg, reduceCtorEq, resV, resAll, ARes.ev, LV.flat, ite_true, ite_false, exists_eq_left', exists_eq_left, keyOf, implies_true, fillC, capOf]
  by_cases hk : In24 k
  rotate_left
  · rw [show ordOf k = none from if_neg hk]
    simp (disch := omega) only [hk, ↓SXd, SXu, slBounds, ↓sop, ↓aop, ↓reduceIte, LV.cells, AOp.dst, LV.I, LV.B, LV.U, LV.S, LV.nil, Nat.reduceEqDiff, Nat.reduceAdd, Nat.reduceMul, Nat.reduceSub, Nat.reduceLeDiff, Nat.reduceBEq, Nat.reduceDiv, Nat.reduceMod, Int.reduceToNat, Int.reduceLT, Int.reduceLE, Int.reduceAdd, Int.reduceSub, Int.reduceMul, Int.reduceEq, Int.reduceNeg, reduceCtorEq, resV, resAll, ARes.ev, LV.flat, ite_true, ite_false, exists_eq_left', exists_eq_left, keyOf, implies_true, fillC, capOf]
    exact cmp_drop0 rfl
  rw [show ordOf k = some (ordN k.toNat) from if_pos hk]
  obtain ⟨k1, k2⟩ := id hk
  have hkN : k.toNat < 24 := by omega
  obtain ⟨o1, o2, o3, o4⟩ := ord_ok hkN
  have hki : k = (k.toNat : Int) := by omega
  simp (disch := omega) only [hk, ↓SXd, SXu, slBounds, ↓sop, ↓aop, ↓reduceIte, LV.cells, AOp.dst, LV.I, LV.B, LV.U, LV.S, LV.nil, Nat.reduceEqDiff, Nat.reduceAdd, Nat.reduceMul, Nat.reduceSub, Nat.reduceLeDiff, Nat.reduceBEq, Nat.reduceDiv, Nat.reduceMod, Int.reduceToNat, Int.reduceLT, Int.reduceLE, Int.reduceAdd, Int.reduceSub, Int.reduceMul, Int.reduceEq, Int.reduceNeg, reduceCtorEq, resV, resAll, ARes.ev, LV.flat, ite_true, ite_false, exists_eq_left', exists_eq_left, keyOf, implies_true, fillC, capOf]
  refine ev_loop (fun m fr M' => ∃ i : Nat, i + m = ordN k.toNat - 1 ∧ M' = M ∧ fr 0 = .I k ∧ fr 4 = .I (i + 1 : Nat) ∧ fr 5 = .I (powN k.toNat i : Nat)) (ordN k.toNat - 1)
    ⟨0, by omega, rfl, rfl, rfl, by show LV.I k = .I (k.toNat : Nat); rw [← hki]⟩ ?_
  rintro m fr M ⟨i, hi, rfl, f0, f4, f5⟩
  have hp24 := powN_lt hkN i
  have ht := g_turnBehind (k := powN k.toNat i) (m := k.toNat) (M := M) hp24 hkN
  rw [Int.toNat_of_nonneg k1] at ht
  by_cases he : i = ordN k.toNat - 1
  · have e : ((powN k.toNat i : Nat) : Int) = 0 := by rw [he, o3]; rfl
    simp (disch := omega) only [f0, f4, f5, e, ↓SXd, SXu, slBounds, ↓sop, ↓aop, ↓reduceIte, LV.cells, AOp.dst, LV.I, LV.B, LV.U, LV.S, LV.nil, Nat.reduceEqDiff, Nat.reduceAdd, Nat.reduceMul, Nat.reduceSub, Nat.reduceLeDiff, Nat.reduceBEq, Nat.reduceDiv, Nat.reduceMod, Int.reduceToNat, Int.reduceLT, Int.reduceLE, Int.reduceAdd, Int.reduceSub, Int.reduceMul, Int.reduceEq, Int.reduceNeg, reduceCtorEq, resV, resAll, ARes.ev, LV.flat, ite_true, ite_false, exists_eq_left', exists_eq_left, keyOf, implies_true, fillC, capOf]
    rw [show ordN k.toNat = i + 1 by omega]
    exact cmp_drop0 rfl
  · have e : ¬ (((powN k.toNat i : Nat) : Int) = 0) := fun e => o4 i (by omega) (by omega)
    simp (disch := omega) only [f0, f4, f5, e, ↓SXd, SXu, slBounds, ↓sop, ↓aop, ↓reduceIte, LV.cells, AOp.dst, LV.I, LV.B, LV.U, LV.S, LV.nil, Nat.reduceEqDiff, Nat.reduceAdd, Nat.reduceMul, Nat.reduceSub, Nat.reduceLeDiff, Nat.reduceBEq, Nat.reduceDiv, Nat.reduceMod, Int.reduceToNat, Int.reduceLT, Int.reduceLE, Int.reduceAdd, Int.reduceSub, Int.reduceMul, Int.reduceEq, Int.reduceNeg, reduceCtorEq, resV, resAll, ARes.ev, LV.flat, ite_true, ite_false, exists_eq_left', exists_eq_left, keyOf, implies_true, fillC, capOf]
    refine callK_of ht ?_
    simp (disch := omega) only [f0, f4, f5, ↓SXd, SXu, slBounds, ↓sop, ↓aop, ↓reduceIte, LV.cells, AOp.dst, LV.I, LV.B, LV.U, LV.S, LV.nil, Nat.reduceEqDiff, Nat.reduceAdd, Nat.reduceMul, Nat.reduceSub, Nat.reduceLeDiff, Nat.reduceBEq, Nat.reduceDiv, Nat.reduceMod, Int.reduceToNat, Int.reduceLT, Int.reduceLE, Int.reduceAdd, Int.reduceSub, Int.reduceMul, Int.reduceEq, Int.reduceNeg, reduceCtorEq, resV, resAll, ARes.ev, LV.flat, ite_true, ite_false, exists_eq_left', exists_eq_left, keyOf, implies_true, fillC, capOf]
    exact ⟨m - 1, by omega, i + 1, by omega, rfl, f0, eqI (by omega), rfl⟩
end Go.Ab

/- The abstract code of some functions (written by a program of mine from the translation, by way of prepF). -/
namespace Go.Ab.C
open Go.Ab
def impl_beyond : AFn :=
  ⟨2, 16, [.cellN 4 3],
    .seq (.ops [(none, .box 2 (.t 0)),
       (none, .alloc 4 [(.I 0), (.I 0), (.I 0)])])
    (.seq (.ops [(none, .mv 5 (.t 1)),
        (none, .bin 6 .quo (.t 5) (.c (.I 2))),
        (none, .idxA 7 3 1 (.t 2) (.t 6)),
        (none, .load1 8 (.t 7)),
        (none, .mv 9 (.t 1)),
        (none, .bin 10 .rem (.t 9) (.c (.I 2))),
        (none, .bin 11 .mul (.c (.I 2)) (.t 10)),
        (none, .bin 12 .sub (.t 11) (.c (.I 1))),
        (none, .bin 13 .add (.t 8) (.t 12)),
        (none, .idxA 14 3 1 (.t 2) (.t 6)),
        (none, .store 1 (.t 14) (.t 13))])
     (.seq (.ops [(none, .loadN 15 3 (.t 2)),
         (none, .store 3 (.t 4) (.t 15))])
      (.ret)))⟩
def impl_Heap_isBare : AFn :=
  ⟨2, 16, [.tmp 4],
    .seq (.ops [(none, .box 2 (.t 0)),
       (none, .box 3 (.t 1)),
       (none, .mv 4 (.c (.B false)))])
    (.seq (.draw [⟨(none, .loadN 5 4 (.t 2)), [], []⟩,
        ⟨(none, .loadN 7 3 (.t 3)), [], []⟩,
        ⟨(none, .call (some 6) F.impl_Heap_box [(.t 5)]), [], [1]⟩,
        ⟨(none, .call (some 8) F.impl_box_has [(.t 6), (.t 7)]), [], []⟩,
        ⟨(none, .un 9 .not (.t 8)), [], []⟩,
        ⟨(none, .mv 10 (.t 9)), [], []⟩,
        ⟨(some (10, false), .loadN 11 4 (.t 2)), [], []⟩,
        ⟨(some (10, false), .loadN 12 3 (.t 3)), [], []⟩,
        ⟨(some (10, false), .call (some 13) F.impl_Heap_hasCube [(.t 11), (.t 12)]), [], []⟩,
        ⟨(some (10, false), .un 14 .not (.t 13)), [], []⟩,
        ⟨(none, .pick 15 (.t 10) (.c (.B true)) (.t 14)), [], []⟩,
        ⟨(none, .mv 4 (.t 15)), [], []⟩])
     (.ret))⟩
def impl_Heap_bareFaces : AFn :=
  ⟨1, 31, [.cellN 2 6],
    .seq (.ops [(none, .box 1 (.t 0)),
       (none, .alloc 2 [(.I 0), (.I 0), (.I 0), (.I 0), (.I 0), (.I 0)])])
    (.seq (.ops [(none, .build 7 [(.I 0), (.I 0), (.I 0), (.I 0), (.I 0), (.I 0)] []),
        (none, .alloc 3 [(.I 0), (.I 0), (.I 0), (.I 0), (.I 0), (.I 0)]),
        (none, .store 6 (.t 3) (.t 7))])
     (.seq (.seq (.ops [(none, .fieldAddr 8 (.t 1) 3),
          (none, .load1 9 (.t 8)),
          (none, .len 10 (.t 9)),
          (none, .mv 11 (.c (.I 0)))])
       (.block 0 (.loop (.seq (.ops [(none, .bin 12 .lss (.t 11) (.t 10))])
          (.seq (.cond (.t 12) (.skip)
            (.exit 0))
           (.seq (.block 1 (.seq (.ops [(none, .idxS 13 3 (.t 9) (.t 11)),
                 (none, .loadN 14 3 (.t 13)),
                 (none, .alloc 5 [(.I 0), (.I 0), (.I 0)]),
                 (none, .store 3 (.t 5) (.t 14))])
              (.seq (.ops [(none, .mv 15 (.c (.I 0)))])
               (.block 2 (.loop (.seq (.ops [(none, .bin 16 .lss (.t 15) (.c (.I 6)))])
                  (.seq (.cond (.t 16) (.skip)
                    (.exit 2))
                   (.seq (.block 3 (.seq (.ops [(none, .mv 17 (.t 15)),
                         (none, .mv 6 (.t 17))])
                      (.seq (.draw [⟨(none, .loadN 18 4 (.t 1)), [], []⟩,
                          ⟨(none, .loadN 19 3 (.t 5)), [], []⟩,
                          ⟨(none, .mv 20 (.t 6)), [], []⟩,
                          ⟨(none, .call (some 21) F.impl_beyond [(.t 19), (.t 20)]), [], [0]⟩,
                          ⟨(none, .call (some 22) F.impl_Heap_isBare [(.t 18), (.t 21)]), [], []⟩])
                       (.cond (.t 22) (.ops [(none, .mv 23 (.t 6)),
                           (none, .idxA 24 6 1 (.t 3) (.t 23)),
                           (none, .load1 25 (.t 24)),
                           (none, .bin 26 .add (.t 25) (.c (.I 1))),
                           (none, .idxA 27 6 1 (.t 3) (.t 23)),
                           (none, .store 1 (.t 27) (.t 26))])
                        (.skip)))))
                    (.ops [(none, .bin 28 .add (.t 15) (.c (.I 1))),
                       (none, .mv 15 (.t 28))])))))))))
            (.ops [(none, .bin 29 .add (.t 11) (.c (.I 1))),
               (none, .mv 11 (.t 29))])))))))
      (.seq (.ops [(none, .loadN 30 6 (.t 3)),
          (none, .store 6 (.t 2) (.t 30))])
       (.ret))))⟩
def impl_SurfaceOf : AFn :=
  ⟨1, 20, [.tmp 2, .tmp 3],
    .seq (.ops [(none, .box 1 (.t 0)),
       (none, .mv 2 (.c (.I 0))),
       (none, .mv 3 (.c (.B false)))])
    (.seq (.seq (.ops [(none, .loadN 7 4 (.t 1)),
         (none, .call (some 8) F.impl_IsHeap [(.t 7)]),
         (none, .un 9 .not (.t 8))])
      (.cond (.t 9) (.seq (.ops [(none, .mv 2 (.c (.I 0))),
           (none, .mv 3 (.c (.B false)))])
        (.ret))
       (.skip)))
     (.seq (.ops [(none, .mv 4 (.c (.I 0)))])
      (.seq (.seq (.ops [(none, .loadN 10 4 (.t 1)),
           (none, .call (some 11) F.impl_Heap_bareFaces [(.t 10)]),
           (none, .mv 12 (.c (.I 0)))])
        (.block 0 (.loop (.seq (.ops [(none, .bin 13 .lss (.t 12) (.c (.I 6)))])
           (.seq (.cond (.t 13) (.skip)
             (.exit 0))
            (.seq (.block 1 (.seq (.ops [(none, .index 14 6 1 false (.t 11) (.t 12)),
                  (none, .mv 6 (.t 14))])
               (.ops [(none, .mv 15 (.t 4)),
                  (none, .mv 16 (.t 6)),
                  (none, .bin 17 .add (.t 15) (.t 16)),
                  (none, .mv 4 (.t 17))])))
             (.ops [(none, .bin 18 .add (.t 12) (.c (.I 1))),
                (none, .mv 12 (.t 18))])))))))
       (.seq (.ops [(none, .mv 19 (.t 4)),
           (none, .mv 2 (.t 19)),
           (none, .mv 3 (.c (.B true)))])
        (.ret)))))⟩
end Go.Ab.C

/- That the program has this code. -/
namespace Go.Ab.K
open Go Go.Ab
theorem impl_beyond : prepF Go.Proofs.Try.prog F.impl_beyond = some C.impl_beyond := by kernel_rfl
theorem impl_Heap_isBare : prepF Go.Proofs.Try.prog F.impl_Heap_isBare = some C.impl_Heap_isBare := by kernel_rfl
theorem impl_Heap_bareFaces : prepF Go.Proofs.Try.prog F.impl_Heap_bareFaces = some C.impl_Heap_bareFaces := by kernel_rfl
theorem impl_SurfaceOf : prepF Go.Proofs.Try.prog F.impl_SurfaceOf = some C.impl_SurfaceOf := by kernel_rfl
end Go.Ab.K

/- Plain words: bare faces; they stay when a heap is turned. -/
namespace Go.Ab
open Go
set_option linter.unusedVariables false
set_option linter.unusedSimpArgs false
set_option maxRecDepth 20000

/-- The cell beyond a face. -/
def nbC (c : Cell) (f : Nat) : Cell := ⟨c.a + if f = 0 then -1 else if f = 1 then 1 else 0, c.b + if f = 2 then -1 else if f = 3 then 1 else 0, c.c + if f = 4 then -1 else if f = 5 then 1 else 0⟩
def bareN (S : List Cell) (c : Cell) : Nat := (List.range 6).countP fun f => decide (nbC c f ∉ S)
/-- The bare faces of one kind. -/
def faceN (cs : List Cell) (f : Nat) : Nat := cs.countP fun c => decide (nbC c f ∉ cs)
def surfN (cs : List Cell) : Nat := ((List.range 6).map (faceN cs)).sum
theorem surf_swap {S : List Cell} : ∀ (cs : List Cell), ((List.range 6).map fun f => cs.countP fun c => decide (nbC c f ∉ S)).sum = (cs.map (bareN S)).sum
  | [] => rfl
  | c :: cs => by
    have ih := surf_swap (S := S) cs
    rw [List.map_cons, List.sum_cons, ← ih]
    have e : ∀ f, (c :: cs).countP (fun c => decide (nbC c f ∉ S)) = (if decide (nbC c f ∉ S) = true then 1 else 0) + cs.countP fun c => decide (nbC c f ∉ S) := fun f => by
      rw [List.countP_cons]; omega
    simp only [e]
    have key : ∀ (l : List Nat) (g h : Nat → Nat), (l.map fun f => g f + h f).sum = (l.map g).sum + (l.map h).sum := fun l g h => by
      induction l with
      | nil => rfl
      | cons a l ih => simp only [List.map_cons, List.sum_cons, ih]; omega
    rw [key]
    congr 1
    unfold bareN
    have k2 : ∀ (l : List Nat) (p : Nat → Bool), (l.map fun f => if p f = true then 1 else 0).sum = l.countP p := fun l p => by
      induction l with
      | nil => rfl
      | cons a l ih => rw [List.map_cons, List.sum_cons, ih, List.countP_cons]; omega
    exact k2 _ _
/-- The face of a cell that a turn brings to a face. -/
def sigT (T : Turn) (f : Nat) : Nat := (T.fr.at (f / 2 : Nat)).toNat * 2 + (xorI ((f % 2 : Nat) : Int) (T.fl.at (f / 2 : Nat))).toNat
theorem sig_perm : ∀ T ∈ turns, ((List.range 6).map (sigT T)).Perm (List.range 6) := by decide +kernel
theorem turns_fr : ∀ T ∈ turns, T.fr = ⟨0, 1, 2⟩ ∨ T.fr = ⟨0, 2, 1⟩ ∨ T.fr = ⟨1, 0, 2⟩ ∨ T.fr = ⟨1, 2, 0⟩ ∨ T.fr = ⟨2, 0, 1⟩ ∨ T.fr = ⟨2, 1, 0⟩ := by decide +kernel
theorem nb_map {x y z : Int} {T : Turn} (hT : T ∈ turns) {c : Cell} {f : Nat} (hf : f < 6) : nbC (mapT x y z T c) f = mapT x y z T (nbC c (sigT T f)) := by
  have hb := turns_bit T hT
  have hr := turns_fr T hT
  obtain ⟨fr, ⟨p, q, r⟩⟩ := T
  obtain ⟨h1, h2, h3⟩ := hb
  simp only at hr h1 h2 h3
  rcases (show f = 0 ∨ f = 1 ∨ f = 2 ∨ f = 3 ∨ f = 4 ∨ f = 5 by omega) with rfl | rfl | rfl | rfl | rfl | rfl
  · rcases hr with rfl | rfl | rfl | rfl | rfl | rfl <;> rcases h1 with rfl | rfl <;> rw [cell_eq] <;> simp [nbC, mapT, turnC, sideOf, Cell.at, sigT, xorI] <;> omega
  · rcases hr with rfl | rfl | rfl | rfl | rfl | rfl <;> rcases h1 with rfl | rfl <;> rw [cell_eq] <;> simp [nbC, mapT, turnC, sideOf, Cell.at, sigT, xorI] <;> omega
  · rcases hr with rfl | rfl | rfl | rfl | rfl | rfl <;> rcases h2 with rfl | rfl <;> rw [cell_eq] <;> simp [nbC, mapT, turnC, sideOf, Cell.at, sigT, xorI] <;> omega
  · rcases hr with rfl | rfl | rfl | rfl | rfl | rfl <;> rcases h2 with rfl | rfl <;> rw [cell_eq] <;> simp [nbC, mapT, turnC, sideOf, Cell.at, sigT, xorI] <;> omega
  · rcases hr with rfl | rfl | rfl | rfl | rfl | rfl <;> rcases h3 with rfl | rfl <;> rw [cell_eq] <;> simp [nbC, mapT, turnC, sideOf, Cell.at, sigT, xorI] <;> omega
  · rcases hr with rfl | rfl | rfl | rfl | rfl | rfl <;> rcases h3 with rfl | rfl <;> rw [cell_eq] <;> simp [nbC, mapT, turnC, sideOf, Cell.at, sigT, xorI] <;> omega
theorem mapT_inj {x y z : Int} {T : Turn} (hT : T ∈ turns) {c d : Cell} (h : mapT x y z T c = mapT x y z T d) : c = d := by
  have hr := turns_fr T hT
  obtain ⟨fr, ⟨p, q, r⟩⟩ := T
  rw [cell_eq] at h
  obtain ⟨h1, h2, h3⟩ := h
  simp only at hr
  have key : ∀ s f, turnC x y z c s f = turnC x y z d s f → c.at s = d.at s := fun s f e => by
    unfold turnC at e
    split at e <;> omega
  have k1 := key _ _ h1
  have k2 := key _ _ h2
  have k3 := key _ _ h3
  rw [cell_eq]
  rcases hr with rfl | rfl | rfl | rfl | rfl | rfl <;> simp [Cell.at] at k1 k2 k3 <;> simp [*]
theorem bare_turn {x y z : Int} {T : Turn} {cs : List Cell} (hH : HeapOK x y z cs) (hT : T ∈ turns) (c : Cell) : bareN (turnHp x y z T cs).cs (mapT x y z T c) = bareN cs c := by
  unfold bareN
  rw [show (List.range 6).countP (fun f => decide (nbC c f ∉ cs)) = ((List.range 6).map (sigT T)).countP (fun f => decide (nbC c f ∉ cs)) from ((sig_perm T hT).countP_eq _).symm, List.countP_map]
  refine List.countP_congr fun f hf => ?_
  have hf := List.mem_range.1 hf
  rw [decide_eq_true_iff, Function.comp_apply, decide_eq_true_iff, nb_map hT hf, mem_turnHp hH]
  constructor
  · exact fun h hm => h ⟨_, hm, rfl⟩
  · rintro h ⟨d, hd, e⟩
    rw [mapT_inj hT e] at hd
    exact h hd
theorem surf_turn {x y z : Int} {T : Turn} {cs : List Cell} (hH : HeapOK x y z cs) (hT : T ∈ turns) : surfN (turnHp x y z T cs).cs = surfN cs := by
  have e1 : ∀ l, surfN l = (l.map (bareN l)).sum := fun l => surf_swap (S := l) l
  rw [e1, e1]
  have hp : (turnHp x y z T cs).cs.Perm (cs.map (mapT x y z T)) := by
    refine (List.perm_ext_iff_of_nodup (turnHp_ok hH T).nodup ?_).2 fun d => ?_
    · refine List.pairwise_map.2 (hH.nodup.imp fun {a b} hab e => hab (mapT_inj hT e))
    · rw [mem_turnHp hH, List.mem_map]
  rw [(hp.map (bareN (turnHp x y z T cs).cs)).sum_nat, List.map_map]
  congr 1
  refine List.map_congr_left fun c _ => ?_
  exact bare_turn hH hT c
end Go.Ab

/- Contracts: the program's bare faces and surface. -/
namespace Go.Ab
open Go
set_option linter.unusedSimpArgs false
set_option linter.unusedVariables false
set_option maxRecDepth 20000

theorem g_beyond {c : Cell} {f : Nat} {M : Mem} (hc : (-9 ≤ c.a ∧ c.a ≤ 9) ∧ (-9 ≤ c.b ∧ c.b ≤ 9) ∧ (-9 ≤ c.c ∧ c.c ≤ 9)) (hf : f < 6) : CallsTo PG F.impl_beyond [.agg [.I c.a, .I c.b, .I c.c], .I f] M (.agg [.I (nbC c f).a, .I (nbC c f).b, .I (nbC c f).c]) M := by
  obtain ⟨⟨_, _⟩, ⟨_, _⟩, ⟨_, _⟩⟩ := hc
  refine calls_run K.impl_beyond rfl ?_
  rcases (show f = 0 ∨ f = 1 ∨ f = 2 ∨ f = 3 ∨ f = 4 ∨ f = 5 by omega) with rfl | rfl | rfl | rfl | rfl | rfl
  · have e1 : IntKind.i64.wrap (Int.tdiv ((0 : Nat) : Int) 2) = 0 := by decide
    have e2 : Int.tmod ((0 : Nat) : Int) 2 = 0 := by decide
    simp (disch := omega) only [C.impl_beyond, splice, e1, e2, ↓SXd, SXu, slBounds, ↓sop, ↓aop, ↓reduceIte, LV.cells, AOp.dst, LV.I, LV.B, LV.U, LV.S, LV.nil, Nat.reduceEqDiff, Nat.reduceAdd, Nat.reduceMul, Nat.reduceSub, Nat.reduceLeDiff, Nat.reduceBEq, Nat.reduceDiv, Nat.reduceMod, Int.reduceToNat, Int.reduceLT, Int.reduceLE, Int.reduceAdd, Int.reduceSub, Int.reduceMul, Int.reduceEq, Int.reduceNeg, reduceCtorEq, resV, resAll, ARes.ev, LV.flat, ite_true, ite_false, exists_eq_left', exists_eq_left, keyOf, implies_true, fillC, capOf]
    rw [show nbC c 0 = ⟨c.a + -1, c.b, c.c⟩ by rw [cell_eq]; simp [nbC]]
    exact cmp_drop rfl
  · have e1 : IntKind.i64.wrap (Int.tdiv ((1 : Nat) : Int) 2) = 0 := by decide
    have e2 : Int.tmod ((1 : Nat) : Int) 2 = 1 := by decide
    simp (disch := omega) only [C.impl_beyond, splice, e1, e2, ↓SXd, SXu, slBounds, ↓sop, ↓aop, ↓reduceIte, LV.cells, AOp.dst, LV.I, LV.B, LV.U, LV.S, LV.nil, Nat.reduceEqDiff, Nat.reduceAdd, Nat.reduceMul, Nat.reduceSub, Nat.reduceLeDiff, Nat.reduceBEq, Nat.reduceDiv, Nat.reduceMod, Int.reduceToNat, Int.reduceLT, Int.reduceLE, Int.reduceAdd, Int.reduceSub, Int.reduceMul, Int.reduceEq, Int.reduceNeg, reduceCtorEq, resV, resAll, ARes.ev, LV.flat, ite_true, ite_false, exists_eq_left', exists_eq_left, keyOf, implies_true, fillC, capOf]
    rw [show nbC c 1 = ⟨c.a + 1, c.b, c.c⟩ by rw [cell_eq]; simp [nbC]]
    exact cmp_drop rfl
  · have e1 : IntKind.i64.wrap (Int.tdiv ((2 : Nat) : Int) 2) = 1 := by decide
    have e2 : Int.tmod ((2 : Nat) : Int) 2 = 0 := by decide
    simp (disch := omega) only [C.impl_beyond, splice, e1, e2, ↓SXd, SXu, slBounds, ↓sop, ↓aop, ↓reduceIte, LV.cells, AOp.dst, LV.I, LV.B, LV.U, LV.S, LV.nil, Nat.reduceEqDiff, Nat.reduceAdd, Nat.reduceMul, Nat.reduceSub, Nat.reduceLeDiff, Nat.reduceBEq, Nat.reduceDiv, Nat.reduceMod, Int.reduceToNat, Int.reduceLT, Int.reduceLE, Int.reduceAdd, Int.reduceSub, Int.reduceMul, Int.reduceEq, Int.reduceNeg, reduceCtorEq, resV, resAll, ARes.ev, LV.flat, ite_true, ite_false, exists_eq_left', exists_eq_left, keyOf, implies_true, fillC, capOf]
    rw [show nbC c 2 = ⟨c.a, c.b + -1, c.c⟩ by rw [cell_eq]; simp [nbC]]
    exact cmp_drop rfl
  · have e1 : IntKind.i64.wrap (Int.tdiv ((3 : Nat) : Int) 2) = 1 := by decide
    have e2 : Int.tmod ((3 : Nat) : Int) 2 = 1 := by decide
    simp (disch := omega) only [C.impl_beyond, splice, e1, e2, ↓SXd, SXu, slBounds, ↓sop, ↓aop, ↓reduceIte, LV.cells, AOp.dst, LV.I, LV.B, LV.U, LV.S, LV.nil, Nat.reduceEqDiff, Nat.reduceAdd, Nat.reduceMul, Nat.reduceSub, Nat.reduceLeDiff, Nat.reduceBEq, Nat.reduceDiv, Nat.reduceMod, Int.reduceToNat, Int.reduceLT, Int.reduceLE, Int.reduceAdd, Int.reduceSub, Int.reduceMul, Int.reduceEq, Int.reduceNeg, reduceCtorEq, resV, resAll, ARes.ev, LV.flat, ite_true, ite_false, exists_eq_left', exists_eq_left, keyOf, implies_true, fillC, capOf]
    rw [show nbC c 3 = ⟨c.a, c.b + 1, c.c⟩ by rw [cell_eq]; simp [nbC]]
    exact cmp_drop rfl
  · have e1 : IntKind.i64.wrap (Int.tdiv ((4 : Nat) : Int) 2) = 2 := by decide
    have e2 : Int.tmod ((4 : Nat) : Int) 2 = 0 := by decide
    simp (disch := omega) only [C.impl_beyond, splice, e1, e2, ↓SXd, SXu, slBounds, ↓sop, ↓aop, ↓reduceIte, LV.cells, AOp.dst, LV.I, LV.B, LV.U, LV.S, LV.nil, Nat.reduceEqDiff, Nat.reduceAdd, Nat.reduceMul, Nat.reduceSub, Nat.reduceLeDiff, Nat.reduceBEq, Nat.reduceDiv, Nat.reduceMod, Int.reduceToNat, Int.reduceLT, Int.reduceLE, Int.reduceAdd, Int.reduceSub, Int.reduceMul, Int.reduceEq, Int.reduceNeg, reduceCtorEq, resV, resAll, ARes.ev, LV.flat, ite_true, ite_false, exists_eq_left', exists_eq_left, keyOf, implies_true, fillC, capOf]
    rw [show nbC c 4 = ⟨c.a, c.b, c.c + -1⟩ by rw [cell_eq]; simp [nbC]]
    exact cmp_drop rfl
  · have e1 : IntKind.i64.wrap (Int.tdiv ((5 : Nat) : Int) 2) = 2 := by decide
    have e2 : Int.tmod ((5 : Nat) : Int) 2 = 1 := by decide
    simp (disch := omega) only [C.impl_beyond, splice, e1, e2, ↓SXd, SXu, slBounds, ↓sop, ↓aop, ↓reduceIte, LV.cells, AOp.dst, LV.I, LV.B, LV.U, LV.S, LV.nil, Nat.reduceEqDiff, Nat.reduceAdd, Nat.reduceMul, Nat.reduceSub, Nat.reduceLeDiff, Nat.reduceBEq, Nat.reduceDiv, Nat.reduceMod, Int.reduceToNat, Int.reduceLT, Int.reduceLE, Int.reduceAdd, Int.reduceSub, Int.reduceMul, Int.reduceEq, Int.reduceNeg, reduceCtorEq, resV, resAll, ARes.ev, LV.flat, ite_true, ite_false, exists_eq_left', exists_eq_left, keyOf, implies_true, fillC, capOf]
    rw [show nbC c 5 = ⟨c.a, c.b, c.c + 1⟩ by rw [cell_eq]; simp [nbC]]
    exact cmp_drop rfl
theorem g_isBare {x y z : Int} {t o : Nat} {cs : List Cell} {d : Cell} {M : Mem} (h : Tri M t o cs) (hH : HeapOK x y z cs) :
    CallsTo PG F.impl_Heap_isBare [.agg [.I x, .I y, .I z, .ref t o cs.length], .agg [.I d.a, .I d.b, .I d.c]] M (.B (decide (d ∉ cs))) M := by
  have hlen := hH.len
  refine calls_run K.impl_Heap_isBare rfl ?_
  simp (disch := omega) only [C.impl_Heap_isBare, ↓SXd, SXu, slBounds, ↓sop, ↓aop, ↓reduceIte, LV.cells, AOp.dst, LV.I, LV.B, LV.U, LV.S, LV.nil, Nat.reduceEqDiff, Nat.reduceAdd, Nat.reduceMul, Nat.reduceSub, Nat.reduceLeDiff, Nat.reduceBEq, Nat.reduceDiv, Nat.reduceMod, Int.reduceToNat, Int.reduceLT, Int.reduceLE, Int.reduceAdd, Int.reduceSub, Int.reduceMul, Int.reduceEq, Int.reduceNeg, reduceCtorEq, resV, resAll, ARes.ev, LV.flat, ite_true, ite_false, exists_eq_left', exists_eq_left, keyOf, implies_true, fillC, capOf]
  refine callK_of (g_box) ?_
  simp (disch := omega) only [↓SXd, SXu, slBounds, ↓sop, ↓aop, ↓reduceIte, LV.cells, AOp.dst, LV.I, LV.B, LV.U, LV.S, LV.nil, Nat.reduceEqDiff, Nat.reduceAdd, Nat.reduceMul, Nat.reduceSub, Nat.reduceLeDiff, Nat.reduceBEq, Nat.reduceDiv, Nat.reduceMod, Int.reduceToNat, Int.reduceLT, Int.reduceLE, Int.reduceAdd, Int.reduceSub, Int.reduceMul, Int.reduceEq, Int.reduceNeg, reduceCtorEq, resV, resAll, ARes.ev, LV.flat, ite_true, ite_false, exists_eq_left', exists_eq_left, keyOf, implies_true, fillC, capOf]
  refine callK_of (g_has hH.1) ?_
  simp (disch := omega) only [↓SXd, SXu, slBounds, ↓sop, ↓aop, ↓reduceIte, LV.cells, AOp.dst, LV.I, LV.B, LV.U, LV.S, LV.nil, Nat.reduceEqDiff, Nat.reduceAdd, Nat.reduceMul, Nat.reduceSub, Nat.reduceLeDiff, Nat.reduceBEq, Nat.reduceDiv, Nat.reduceMod, Int.reduceToNat, Int.reduceLT, Int.reduceLE, Int.reduceAdd, Int.reduceSub, Int.reduceMul, Int.reduceEq, Int.reduceNeg, reduceCtorEq, resV, resAll, ARes.ev, LV.flat, ite_true, ite_false, exists_eq_left', exists_eq_left, keyOf, implies_true, fillC, capOf]
  rw [cell_eta]
  by_cases hin : d.inBox x y z
  · rw [decide_eq_true hin]
    simp (disch := omega) only [↓SXd, SXu, slBounds, ↓sop, ↓aop, ↓reduceIte, LV.cells, AOp.dst, LV.I, LV.B, LV.U, LV.S, LV.nil, Nat.reduceEqDiff, Nat.reduceAdd, Nat.reduceMul, Nat.reduceSub, Nat.reduceLeDiff, Nat.reduceBEq, Nat.reduceDiv, Nat.reduceMod, Int.reduceToNat, Int.reduceLT, Int.reduceLE, Int.reduceAdd, Int.reduceSub, Int.reduceMul, Int.reduceEq, Int.reduceNeg, reduceCtorEq, resV, resAll, ARes.ev, LV.flat, ite_true, ite_false, exists_eq_left', exists_eq_left, keyOf, implies_true, fillC, capOf]
    refine callK_of (g_hasCube h.app (by omega) hH.1 (fun c hc => hH.mem hc) hin) ?_
    by_cases hm : d ∈ cs
    · rw [decide_eq_true hm, decide_eq_false (show ¬ (d ∉ cs) from fun e => e hm)]
      simp (disch := omega) only [↓SXd, SXu, slBounds, ↓sop, ↓aop, ↓reduceIte, LV.cells, AOp.dst, LV.I, LV.B, LV.U, LV.S, LV.nil, Nat.reduceEqDiff, Nat.reduceAdd, Nat.reduceMul, Nat.reduceSub, Nat.reduceLeDiff, Nat.reduceBEq, Nat.reduceDiv, Nat.reduceMod, Int.reduceToNat, Int.reduceLT, Int.reduceLE, Int.reduceAdd, Int.reduceSub, Int.reduceMul, Int.reduceEq, Int.reduceNeg, reduceCtorEq, resV, resAll, ARes.ev, LV.flat, ite_true, ite_false, exists_eq_left', exists_eq_left, keyOf, implies_true, fillC, capOf]
      exact cmp_drop rfl
    · rw [decide_eq_false hm, decide_eq_true (show d ∉ cs from hm)]
      simp (disch := omega) only [↓SXd, SXu, slBounds, ↓sop, ↓aop, ↓reduceIte, LV.cells, AOp.dst, LV.I, LV.B, LV.U, LV.S, LV.nil, Nat.reduceEqDiff, Nat.reduceAdd, Nat.reduceMul, Nat.reduceSub, Nat.reduceLeDiff, Nat.reduceBEq, Nat.reduceDiv, Nat.reduceMod, Int.reduceToNat, Int.reduceLT, Int.reduceLE, Int.reduceAdd, Int.reduceSub, Int.reduceMul, Int.reduceEq, Int.reduceNeg, reduceCtorEq, resV, resAll, ARes.ev, LV.flat, ite_true, ite_false, exists_eq_left', exists_eq_left, keyOf, implies_true, fillC, capOf]
      exact cmp_drop rfl
  · rw [decide_eq_false hin, decide_eq_true (show d ∉ cs from fun e => hin (hH.mem e))]
    simp (disch := omega) only [↓SXd, SXu, slBounds, ↓sop, ↓aop, ↓reduceIte, LV.cells, AOp.dst, LV.I, LV.B, LV.U, LV.S, LV.nil, Nat.reduceEqDiff, Nat.reduceAdd, Nat.reduceMul, Nat.reduceSub, Nat.reduceLeDiff, Nat.reduceBEq, Nat.reduceDiv, Nat.reduceMod, Int.reduceToNat, Int.reduceLT, Int.reduceLE, Int.reduceAdd, Int.reduceSub, Int.reduceMul, Int.reduceEq, Int.reduceNeg, reduceCtorEq, resV, resAll, ARes.ev, LV.flat, ite_true, ite_false, exists_eq_left', exists_eq_left, keyOf, implies_true, fillC, capOf]
    exact cmp_drop rfl
def cntR (cs : List Cell) (i d f : Nat) : Nat := (cs.take i).countP (fun c => decide (nbC c f ∉ cs)) + if f < d ∧ nbC (cs.getD i default) f ∉ cs then 1 else 0
def rowF (cs : List Cell) (i d : Nat) : List LV := (List.range 6).map fun (f : Nat) => LV.I ((cntR cs i d f : Nat) : Int)
theorem rowF_len {cs : List Cell} {i d : Nat} : (rowF cs i d).length = 6 := by simp [rowF]
theorem rowF_get {cs : List Cell} {i d f : Nat} (hf : f < 6) : (rowF cs i d)[f]? = some (.I ((cntR cs i d f : Nat) : Int)) := by simp [rowF, hf]
theorem cntR_le {cs : List Cell} {i d f : Nat} : cntR cs i d f ≤ cs.length + 1 := by
  unfold cntR
  have h1 := List.countP_le_length (p := fun c => decide (nbC c f ∉ cs)) (l := cs.take i)
  have h2 := List.length_take_le i cs
  have h3 := List.length_take_le' i cs
  split <;> omega
theorem rowF_no {cs : List Cell} {i d : Nat} (hb : ¬ (nbC (cs.getD i default) d ∉ cs)) : rowF cs i d = rowF cs i (d + 1) := by
  unfold rowF
  refine List.map_congr_left fun f _ => congrArg (fun n : Nat => LV.I (n : Int)) ?_
  unfold cntR
  refine congrArg _ ?_
  by_cases e : f = d
  · subst e
    rw [if_neg (by omega), if_neg (fun h => hb h.2)]
  · by_cases h : nbC (cs.getD i default) f ∉ cs
    · by_cases hd : f < d
      · rw [if_pos ⟨hd, h⟩, if_pos ⟨by omega, h⟩]
      · rw [if_neg (fun k => hd k.1), if_neg (fun k => by omega)]
    · rw [if_neg (fun k => h k.2), if_neg (fun k => h k.2)]
theorem rowF_yes {cs : List Cell} {i d : Nat} (hd : d < 6) (hb : nbC (cs.getD i default) d ∉ cs) : (rowF cs i d).set d (.I (((cntR cs i d d : Nat) : Int) + 1)) = rowF cs i (d + 1) := by
  apply List.ext_getElem?
  intro f
  rw [List.getElem?_set, rowF_len]
  by_cases e : d = f
  · subst e
    rw [if_pos rfl, if_pos hd, rowF_get hd]
    congr 2
    unfold cntR
    rw [if_neg (fun k => by omega), if_pos ⟨by omega, hb⟩]
    omega
  · rw [if_neg e]
    by_cases hf : f < 6
    · rw [rowF_get hf, rowF_get hf]
      refine congrArg (fun n : Nat => some (LV.I (n : Int))) ?_
      unfold cntR
      refine congrArg _ ?_
      by_cases h : nbC (cs.getD i default) f ∉ cs
      · by_cases hd : f < d
        · rw [if_pos ⟨hd, h⟩, if_pos ⟨by omega, h⟩]
        · rw [if_neg (fun k => hd k.1), if_neg (fun k => by omega)]
      · rw [if_neg (fun k => h k.2), if_neg (fun k => h k.2)]
    · rw [List.getElem?_eq_none (by rw [rowF_len]; omega), List.getElem?_eq_none (by rw [rowF_len]; omega)]
theorem rowF_next {cs : List Cell} {i : Nat} (hi : i < cs.length) : rowF cs i 6 = rowF cs (i + 1) 0 := by
  unfold rowF
  refine List.map_congr_left fun f hf => ?_
  have hf := List.mem_range.1 hf
  refine congrArg (fun n : Nat => LV.I (n : Int)) ?_
  unfold cntR
  rw [List.take_succ, List.getElem?_eq_getElem hi, Option.toList_some, List.countP_append, List.countP_singleton]
  have e : cs.getD i default = cs[i] := by simp [hi]
  rw [e, if_neg (show ¬ (f < 0 ∧ nbC (cs.getD (i + 1) default) f ∉ cs) from fun k => by omega)]
  by_cases h : nbC cs[i] f ∉ cs
  · rw [if_pos ⟨hf, h⟩, if_pos (decide_eq_true h)]
  · rw [if_neg (fun k => h k.2), if_neg (by simpa using h)]
theorem rowF_end {cs : List Cell} : rowF cs cs.length 0 = (List.range 6).map fun (f : Nat) => LV.I ((faceN cs f : Nat) : Int) := by
  unfold rowF
  refine List.map_congr_left fun f _ => congrArg (fun n : Nat => LV.I (n : Int)) ?_
  unfold cntR faceN
  rw [List.take_length, if_neg (fun k => by omega)]; rfl
theorem g_bareFaces {x y z : Int} {t : Nat} {w : Bool} {cs : List Cell} {M : Mem} (h : Live M t (.row (triL cs) w 3)) (hH : HeapOK x y z cs) :
    CallsTo PG F.impl_Heap_bareFaces [.agg [.I x, .I y, .I z, .ref t 0 cs.length]] M (.agg [.I (faceN cs 0 : Nat), .I (faceN cs 1 : Nat), .I (faceN cs 2 : Nat), .I (faceN cs 3 : Nat), .I (faceN cs 4 : Nat), .I (faceN cs 5 : Nat)]) M := by
  have hlen := hH.len
  have hS := hH.1
  obtain ⟨⟨_, _⟩, ⟨_, _⟩, ⟨_, _⟩⟩ := id hS
  refine calls_run K.impl_Heap_bareFaces rfl ?_
  simp (disch := omega) only [C.impl_Heap_bareFaces, splice, ↓SXd, SXu, slBounds, ↓sop, ↓aop, ↓reduceIte, LV.cells, AOp.dst, LV.I, LV.B, LV.U, LV.S, LV.nil, Nat.reduceEqDiff, Nat.reduceAdd, Nat.reduceMul, Nat.reduceSub, Nat.reduceLeDiff, Nat.reduceBEq, Nat.reduceDiv, Nat.reduceMod, Int.reduceToNat, Int.reduceLT, Int.reduceLE, Int.reduceAdd, Int.reduceSub, Int.reduceMul, Int.reduceEq, Int.reduceNeg, reduceCtorEq, resV, resAll, ARes.ev, LV.flat, ite_true, ite_false, exists_eq_left', exists_eq_left, keyOf, implies_true, fillC, capOf]
  refine ev_loop (fun m fr M' => ∃ i : Nat, i + m = cs.length ∧ Pre M M' ∧ M.length + 3 ≤ M'.length ∧ Live M' M.length (.row [.I x, .I y, .I z, .ref t 0 cs.length] true 0) ∧ Live M' (M.length + 1) (.row [.I 0, .I 0, .I 0, .I 0, .I 0, .I 0] true 0) ∧ Live M' (M.length + 2) (.row (rowF cs i 0) true 0) ∧
    fr 1 = .ptr M.length 0 ∧ fr 2 = .ptr (M.length + 1) 0 ∧ fr 3 = .ptr (M.length + 2) 0 ∧ fr 9 = .ref t 0 cs.length ∧ fr 10 = .I cs.length ∧ fr 11 = .I i) cs.length
    ⟨0, by omega, Pre.app _ _, by simp, Live.new, Live.newj rfl, Live.newj rfl, rfl, rfl, rfl, rfl, rfl, rfl⟩ ?_
  rintro m fr M' ⟨i, hi, hpre, hM', b1, b2, b3, f1, f2, f3, f9, f10, f11⟩
  simp (disch := omega) only [f1, f2, f3, f9, f10, f11, ↓SXd, SXu, slBounds, ↓sop, ↓aop, ↓reduceIte, LV.cells, AOp.dst, LV.I, LV.B, LV.U, LV.S, LV.nil, Nat.reduceEqDiff, Nat.reduceAdd, Nat.reduceMul, Nat.reduceSub, Nat.reduceLeDiff, Nat.reduceBEq, Nat.reduceDiv, Nat.reduceMod, Int.reduceToNat, Int.reduceLT, Int.reduceLE, Int.reduceAdd, Int.reduceSub, Int.reduceMul, Int.reduceEq, Int.reduceNeg, reduceCtorEq, resV, resAll, ARes.ev, LV.flat, ite_true, ite_false, exists_eq_left', exists_eq_left, keyOf, implies_true, fillC, capOf]
  refine condC_dec (fun hlt => ?_) (fun hlt => ?_)
  · have hil : i < cs.length := by omega
    have hg := (h.pre hpre).tri0 hil
    have hci := hH.mem (getD_mem' (d := default) hil)
    have hrn := rowF_next hil
    have hno := fun d => rowF_no (cs := cs) (i := i) (d := d)
    have hyes := fun d => rowF_yes (cs := cs) (i := i) (d := d)
    generalize hc : cs.getD i default = c at hg hci hno hyes
    obtain ⟨⟨_, _⟩, ⟨_, _⟩, ⟨_, _⟩⟩ := id hci
    simp (disch := omega) only [f1, f2, f3, f9, f10, f11, hg, Cell.row, splice, ↓SXd, SXu, slBounds, ↓sop, ↓aop, ↓reduceIte, LV.cells, AOp.dst, LV.I, LV.B, LV.U, LV.S, LV.nil, Nat.reduceEqDiff, Nat.reduceAdd, Nat.reduceMul, Nat.reduceSub, Nat.reduceLeDiff, Nat.reduceBEq, Nat.reduceDiv, Nat.reduceMod, Int.reduceToNat, Int.reduceLT, Int.reduceLE, Int.reduceAdd, Int.reduceSub, Int.reduceMul, Int.reduceEq, Int.reduceNeg, reduceCtorEq, resV, resAll, ARes.ev, LV.flat, ite_true, ite_false, exists_eq_left', exists_eq_left, keyOf, implies_true, fillC, capOf]
    refine ev_loop (fun m2 fr N => ∃ d : Nat, d + m2 = 6 ∧ Pre M N ∧ M'.length < N.length ∧ Live N M'.length (.row c.row true 0) ∧ Live N M.length (.row [.I x, .I y, .I z, .ref t 0 cs.length] true 0) ∧ Live N (M.length + 1) (.row [.I 0, .I 0, .I 0, .I 0, .I 0, .I 0] true 0) ∧ Live N (M.length + 2) (.row (rowF cs i d) true 0) ∧
      fr 1 = .ptr M.length 0 ∧ fr 2 = .ptr (M.length + 1) 0 ∧ fr 3 = .ptr (M.length + 2) 0 ∧ fr 9 = .ref t 0 cs.length ∧ fr 10 = .I cs.length ∧ fr 11 = .I i ∧ fr 5 = .ptr M'.length 0 ∧ fr 15 = .I d) 6
      ⟨0, rfl, hpre.trans (Pre.app _ _), by simp, Live.new, b1.app, b2.app, b3.app, f1, f2, f3, f9, f10, f11, rfl, rfl⟩ ?_
    clear f1 f2 f3 f9 f10 f11 hg b1 b2 b3 hpre
    rintro m2 fr N ⟨d, hd, hpre, hN, b5, b1, b2, b3, f1, f2, f3, f9, f10, f11, f5, f15⟩
    simp (disch := omega) only [f1, f2, f3, f9, f10, f11, f5, f15, ↓SXd, SXu, slBounds, ↓sop, ↓aop, ↓reduceIte, LV.cells, AOp.dst, LV.I, LV.B, LV.U, LV.S, LV.nil, Nat.reduceEqDiff, Nat.reduceAdd, Nat.reduceMul, Nat.reduceSub, Nat.reduceLeDiff, Nat.reduceBEq, Nat.reduceDiv, Nat.reduceMod, Int.reduceToNat, Int.reduceLT, Int.reduceLE, Int.reduceAdd, Int.reduceSub, Int.reduceMul, Int.reduceEq, Int.reduceNeg, reduceCtorEq, resV, resAll, ARes.ev, LV.flat, ite_true, ite_false, exists_eq_left', exists_eq_left, keyOf, implies_true, fillC, capOf]
    refine condC_dec (fun hlt2 => ?_) (fun hlt2 => ?_)
    · have hd6 : d < 6 := by omega
      have hT : Tri N t 0 cs := (h.pre hpre).has
      simp (disch := omega) only [f1, f2, f3, f9, f10, f11, f5, f15, b1.cells, b5.cells, Cell.row, ↓SXd, SXu, slBounds, ↓sop, ↓aop, ↓reduceIte, LV.cells, AOp.dst, LV.I, LV.B, LV.U, LV.S, LV.nil, Nat.reduceEqDiff, Nat.reduceAdd, Nat.reduceMul, Nat.reduceSub, Nat.reduceLeDiff, Nat.reduceBEq, Nat.reduceDiv, Nat.reduceMod, Int.reduceToNat, Int.reduceLT, Int.reduceLE, Int.reduceAdd, Int.reduceSub, Int.reduceMul, Int.reduceEq, Int.reduceNeg, reduceCtorEq, resV, resAll, ARes.ev, LV.flat, ite_true, ite_false, exists_eq_left', exists_eq_left, keyOf, implies_true, fillC, capOf]
      refine callK_of (g_beyond (c := c) ⟨by omega, by omega, by omega⟩ hd6) ?_
      simp (disch := omega) only [f1, f2, f3, f9, f10, f11, f5, f15, ↓SXd, SXu, slBounds, ↓sop, ↓aop, ↓reduceIte, LV.cells, AOp.dst, LV.I, LV.B, LV.U, LV.S, LV.nil, Nat.reduceEqDiff, Nat.reduceAdd, Nat.reduceMul, Nat.reduceSub, Nat.reduceLeDiff, Nat.reduceBEq, Nat.reduceDiv, Nat.reduceMod, Int.reduceToNat, Int.reduceLT, Int.reduceLE, Int.reduceAdd, Int.reduceSub, Int.reduceMul, Int.reduceEq, Int.reduceNeg, reduceCtorEq, resV, resAll, ARes.ev, LV.flat, ite_true, ite_false, exists_eq_left', exists_eq_left, keyOf, implies_true, fillC, capOf]
      refine callK_of (g_isBare hT hH) ?_
      simp (disch := omega) only [f1, f2, f3, f9, f10, f11, f5, f15, ↓SXd, SXu, slBounds, ↓sop, ↓aop, ↓reduceIte, LV.cells, AOp.dst, LV.I, LV.B, LV.U, LV.S, LV.nil, Nat.reduceEqDiff, Nat.reduceAdd, Nat.reduceMul, Nat.reduceSub, Nat.reduceLeDiff, Nat.reduceBEq, Nat.reduceDiv, Nat.reduceMod, Int.reduceToNat, Int.reduceLT, Int.reduceLE, Int.reduceAdd, Int.reduceSub, Int.reduceMul, Int.reduceEq, Int.reduceNeg, reduceCtorEq, resV, resAll, ARes.ev, LV.flat, ite_true, ite_false, exists_eq_left', exists_eq_left, keyOf, implies_true, fillC, capOf]
      by_cases hb : nbC c d ∉ cs
      · rw [decide_eq_true hb]
        have e3 := b3.cell (o := d)
        rw [rowF_get hd6] at e3
        have hle := cntR_le (cs := cs) (i := i) (d := d) (f := d)
        simp (disch := omega) only [f1, f2, f3, f9, f10, f11, f5, f15, e3, Nat.mul_one, Nat.zero_add, ↓SXd, SXu, slBounds, ↓sop, ↓aop, ↓reduceIte, LV.cells, AOp.dst, LV.I, LV.B, LV.U, LV.S, LV.nil, Nat.reduceEqDiff, Nat.reduceAdd, Nat.reduceMul, Nat.reduceSub, Nat.reduceLeDiff, Nat.reduceBEq, Nat.reduceDiv, Nat.reduceMod, Int.reduceToNat, Int.reduceLT, Int.reduceLE, Int.reduceAdd, Int.reduceSub, Int.reduceMul, Int.reduceEq, Int.reduceNeg, reduceCtorEq, resV, resAll, ARes.ev, LV.flat, ite_true, ite_false, exists_eq_left', exists_eq_left, keyOf, implies_true, fillC, capOf]
        refine memK_at b3 (show d < (rowF cs i d).length by rw [rowF_len]; exact hd6) fun N1 k1 k2 k3 => ?_
        rw [hyes d hd6 hb] at k2
        simp (disch := omega) only [f1, f2, f3, f9, f10, f11, f5, f15, ↓SXd, SXu, slBounds, ↓sop, ↓aop, ↓reduceIte, LV.cells, AOp.dst, LV.I, LV.B, LV.U, LV.S, LV.nil, Nat.reduceEqDiff, Nat.reduceAdd, Nat.reduceMul, Nat.reduceSub, Nat.reduceLeDiff, Nat.reduceBEq, Nat.reduceDiv, Nat.reduceMod, Int.reduceToNat, Int.reduceLT, Int.reduceLE, Int.reduceAdd, Int.reduceSub, Int.reduceMul, Int.reduceEq, Int.reduceNeg, reduceCtorEq, resV, resAll, ARes.ev, LV.flat, ite_true, ite_false, exists_eq_left', exists_eq_left, keyOf, implies_true, fillC, capOf]
        exact ⟨m2 - 1, by omega, d + 1, by omega, pre_step hpre (by omega) (j := 0) k1 k3, by omega, live_step b5 (by omega) k3, live_step b1 (by omega) k3, live_step b2 (by omega) k3, k2, f1, f2, f3, f9, f10, f11, f5, eqI (natI _)⟩
      · rw [decide_eq_false hb]
        rw [hno d hb] at b3
        simp (disch := omega) only [f1, f2, f3, f9, f10, f11, f5, f15, ↓SXd, SXu, slBounds, ↓sop, ↓aop, ↓reduceIte, LV.cells, AOp.dst, LV.I, LV.B, LV.U, LV.S, LV.nil, Nat.reduceEqDiff, Nat.reduceAdd, Nat.reduceMul, Nat.reduceSub, Nat.reduceLeDiff, Nat.reduceBEq, Nat.reduceDiv, Nat.reduceMod, Int.reduceToNat, Int.reduceLT, Int.reduceLE, Int.reduceAdd, Int.reduceSub, Int.reduceMul, Int.reduceEq, Int.reduceNeg, reduceCtorEq, resV, resAll, ARes.ev, LV.flat, ite_true, ite_false, exists_eq_left', exists_eq_left, keyOf, implies_true, fillC, capOf]
        exact ⟨m2 - 1, by omega, d + 1, by omega, hpre, hN, b5, b1, b2, b3, f1, f2, f3, f9, f10, f11, f5, eqI (natI _)⟩
    · have hd6 : d = 6 := by omega
      subst hd6
      rw [hrn] at b3
      simp (disch := omega) only [f1, f2, f3, f9, f10, f11, f5, f15, ↓SXd, SXu, slBounds, ↓sop, ↓aop, ↓reduceIte, LV.cells, AOp.dst, LV.I, LV.B, LV.U, LV.S, LV.nil, Nat.reduceEqDiff, Nat.reduceAdd, Nat.reduceMul, Nat.reduceSub, Nat.reduceLeDiff, Nat.reduceBEq, Nat.reduceDiv, Nat.reduceMod, Int.reduceToNat, Int.reduceLT, Int.reduceLE, Int.reduceAdd, Int.reduceSub, Int.reduceMul, Int.reduceEq, Int.reduceNeg, reduceCtorEq, resV, resAll, ARes.ev, LV.flat, ite_true, ite_false, exists_eq_left', exists_eq_left, keyOf, implies_true, fillC, capOf]
      exact ⟨m - 1, by omega, i + 1, by omega, hpre, by omega, b1, b2, b3, f1, f2, f3, f9, f10, eqI (natI _)⟩
  · have hil : i = cs.length := by omega
    subst hil
    rw [rowF_end] at b3
    have b3' : Live M' (M.length + 2) (.row [.I (faceN cs 0 : Nat), .I (faceN cs 1 : Nat), .I (faceN cs 2 : Nat), .I (faceN cs 3 : Nat), .I (faceN cs 4 : Nat), .I (faceN cs 5 : Nat)] true 0) := b3
    simp (disch := omega) only [f1, f2, f3, f9, f10, f11, b3'.cells, ↓SXd, SXu, slBounds, ↓sop, ↓aop, ↓reduceIte, LV.cells, AOp.dst, LV.I, LV.B, LV.U, LV.S, LV.nil, Nat.reduceEqDiff, Nat.reduceAdd, Nat.reduceMul, Nat.reduceSub, Nat.reduceLeDiff, Nat.reduceBEq, Nat.reduceDiv, Nat.reduceMod, Int.reduceToNat, Int.reduceLT, Int.reduceLE, Int.reduceAdd, Int.reduceSub, Int.reduceMul, Int.reduceEq, Int.reduceNeg, reduceCtorEq, resV, resAll, ARes.ev, LV.flat, ite_true, ite_false, exists_eq_left', exists_eq_left, keyOf, implies_true, fillC, capOf]
    refine memK_box b2 (by simp) fun N1 k1 k2 k3 => ?_
    simp (disch := omega) only [f1, f2, f3, f9, f10, f11, k2.cells, ↓SXd, SXu, slBounds, ↓sop, ↓aop, ↓reduceIte, LV.cells, AOp.dst, LV.I, LV.B, LV.U, LV.S, LV.nil, Nat.reduceEqDiff, Nat.reduceAdd, Nat.reduceMul, Nat.reduceSub, Nat.reduceLeDiff, Nat.reduceBEq, Nat.reduceDiv, Nat.reduceMod, Int.reduceToNat, Int.reduceLT, Int.reduceLE, Int.reduceAdd, Int.reduceSub, Int.reduceMul, Int.reduceEq, Int.reduceNeg, reduceCtorEq, resV, resAll, ARes.ev, LV.flat, ite_true, ite_false, exists_eq_left', exists_eq_left, keyOf, implies_true, fillC, capOf]
    exact cmp_pre (pre_step hpre (by omega) (j := 0) k1 k3) rfl
theorem faceN_le {cs : List Cell} {f : Nat} : faceN cs f ≤ cs.length := List.countP_le_length
/-- What SurfaceOf answers. -/
noncomputable def surfOf (x y z : Int) (cs : List Cell) : Option Nat := by
  classical
  exact if HeapOK x y z cs then some (surfN cs) else none
theorem g_SurfaceOf {x y z : Int} {t : Nat} {w : Bool} {cs : List Cell} {M : Mem} (h : Live M t (.row (triL cs) w 3)) (hn : cs.length ≤ 1000000000) :
    CallsTo PG F.impl_SurfaceOf [.agg [.I x, .I y, .I z, .ref t 0 cs.length]] M (.tup [.I ((surfOf x y z cs).getD 0 : Nat), .B (surfOf x y z cs).isSome]) M := by
  refine calls_run K.impl_SurfaceOf rfl ?_
  simp (disch := omega) only [C.impl_SurfaceOf, ↓SXd, SXu, slBounds, ↓sop, ↓aop, ↓reduceIte, LV.cells, AOp.dst, LV.I, LV.B, LV.U, LV.S, LV.nil, Nat.reduceEqDiff, Nat.reduceAdd, Nat.reduceMul, Nat.reduceSub, Nat.reduceLeDiff, Nat.reduceBEq, Nat.reduceDiv, Nat.reduceMod, Int.reduceToNat, Int.reduceLT, Int.reduceLE, Int.reduceAdd, Int.reduceSub, Int.reduceMul, Int.reduceEq, Int.reduceNeg, reduceCtorEq, resV, resAll, ARes.ev, LV.flat, ite_true, ite_false, exists_eq_left', exists_eq_left, keyOf, implies_true, fillC, capOf]
  refine callK_of (g_IsHeap (Has.app h.has) hn) ?_
  simp (disch := omega) only [↓SXd, SXu, slBounds, ↓sop, ↓aop, ↓reduceIte, LV.cells, AOp.dst, LV.I, LV.B, LV.U, LV.S, LV.nil, Nat.reduceEqDiff, Nat.reduceAdd, Nat.reduceMul, Nat.reduceSub, Nat.reduceLeDiff, Nat.reduceBEq, Nat.reduceDiv, Nat.reduceMod, Int.reduceToNat, Int.reduceLT, Int.reduceLE, Int.reduceAdd, Int.reduceSub, Int.reduceMul, Int.reduceEq, Int.reduceNeg, reduceCtorEq, resV, resAll, ARes.ev, LV.flat, ite_true, ite_false, exists_eq_left', exists_eq_left, keyOf, implies_true, fillC, capOf]
  by_cases hH : HeapOK x y z cs
  rotate_left
  · rw [show surfOf x y z cs = none from if_neg hH]
    simp (disch := omega) only [hH, ↓SXd, SXu, slBounds, ↓sop, ↓aop, ↓reduceIte, LV.cells, AOp.dst, LV.I, LV.B, LV.U, LV.S, LV.nil, Nat.reduceEqDiff, Nat.reduceAdd, Nat.reduceMul, Nat.reduceSub, Nat.reduceLeDiff, Nat.reduceBEq, Nat.reduceDiv, Nat.reduceMod, Int.reduceToNat, Int.reduceLT, Int.reduceLE, Int.reduceAdd, Int.reduceSub, Int.reduceMul, Int.reduceEq, Int.reduceNeg, reduceCtorEq, resV, resAll, ARes.ev, LV.flat, ite_true, ite_false, exists_eq_left', exists_eq_left, keyOf, implies_true, fillC, capOf]
    exact cmp_drop rfl
  rw [show surfOf x y z cs = some (surfN cs) from if_pos hH]
  have hlen := hH.len
  have l0 := faceN_le (cs := cs) (f := 0)
  have l1 := faceN_le (cs := cs) (f := 1)
  have l2 := faceN_le (cs := cs) (f := 2)
  have l3 := faceN_le (cs := cs) (f := 3)
  have l4 := faceN_le (cs := cs) (f := 4)
  have l5 := faceN_le (cs := cs) (f := 5)
  have hsum : surfN cs = faceN cs 0 + (faceN cs 1 + (faceN cs 2 + (faceN cs 3 + (faceN cs 4 + (faceN cs 5 + 0))))) := rfl
  simp (disch := omega) only [hH, ↓SXd, SXu, slBounds, ↓sop, ↓aop, ↓reduceIte, LV.cells, AOp.dst, LV.I, LV.B, LV.U, LV.S, LV.nil, Nat.reduceEqDiff, Nat.reduceAdd, Nat.reduceMul, Nat.reduceSub, Nat.reduceLeDiff, Nat.reduceBEq, Nat.reduceDiv, Nat.reduceMod, Int.reduceToNat, Int.reduceLT, Int.reduceLE, Int.reduceAdd, Int.reduceSub, Int.reduceMul, Int.reduceEq, Int.reduceNeg, reduceCtorEq, resV, resAll, ARes.ev, LV.flat, ite_true, ite_false, exists_eq_left', exists_eq_left, keyOf, implies_true, fillC, capOf]
  refine callK_of (g_bareFaces h.app hH) ?_
  simp (disch := omega) only [↓SXd, SXu, slBounds, ↓sop, ↓aop, ↓reduceIte, LV.cells, AOp.dst, LV.I, LV.B, LV.U, LV.S, LV.nil, Nat.reduceEqDiff, Nat.reduceAdd, Nat.reduceMul, Nat.reduceSub, Nat.reduceLeDiff, Nat.reduceBEq, Nat.reduceDiv, Nat.reduceMod, Int.reduceToNat, Int.reduceLT, Int.reduceLE, Int.reduceAdd, Int.reduceSub, Int.reduceMul, Int.reduceEq, Int.reduceNeg, reduceCtorEq, resV, resAll, ARes.ev, LV.flat, ite_true, ite_false, exists_eq_left', exists_eq_left, keyOf, implies_true, fillC, capOf]
  generalize faceN cs 0 = n0 at l0 hsum ⊢
  generalize faceN cs 1 = n1 at l1 hsum ⊢
  generalize faceN cs 2 = n2 at l2 hsum ⊢
  generalize faceN cs 3 = n3 at l3 hsum ⊢
  generalize faceN cs 4 = n4 at l4 hsum ⊢
  generalize faceN cs 5 = n5 at l5 hsum ⊢
  refine ev_loop (fun m fr M' => ∃ d : Nat, d + m = 6 ∧ Pre M M' ∧ fr 4 = .I ((([n0, n1, n2, n3, n4, n5].take d).sum : Nat) : Int) ∧ fr 11 = .agg [.I n0, .I n1, .I n2, .I n3, .I n4, .I n5] ∧ fr 12 = .I d) 6
    ⟨0, rfl, Pre.app _ _, rfl, rfl, rfl⟩ ?_
  rintro m fr M' ⟨d, hd, hpre, f4, f11, f12⟩
  simp (disch := omega) only [f4, f11, f12, ↓SXd, SXu, slBounds, ↓sop, ↓aop, ↓reduceIte, LV.cells, AOp.dst, LV.I, LV.B, LV.U, LV.S, LV.nil, Nat.reduceEqDiff, Nat.reduceAdd, Nat.reduceMul, Nat.reduceSub, Nat.reduceLeDiff, Nat.reduceBEq, Nat.reduceDiv, Nat.reduceMod, Int.reduceToNat, Int.reduceLT, Int.reduceLE, Int.reduceAdd, Int.reduceSub, Int.reduceMul, Int.reduceEq, Int.reduceNeg, reduceCtorEq, resV, resAll, ARes.ev, LV.flat, ite_true, ite_false, exists_eq_left', exists_eq_left, keyOf, implies_true, fillC, capOf]
  refine condC_dec (fun hlt => ?_) (fun hlt => ?_)
  · have hd6 : d < 6 := by omega
    have e0 : [LV.I n0, .I n1, .I n2, .I n3, .I n4, .I n5][d]? = some (.I (([n0, n1, n2, n3, n4, n5].getD d 0 : Nat) : Int)) := by
      rcases (show d = 0 ∨ d = 1 ∨ d = 2 ∨ d = 3 ∨ d = 4 ∨ d = 5 by omega) with rfl | rfl | rfl | rfl | rfl | rfl <;> rfl
    have e1 : ([n0, n1, n2, n3, n4, n5].take (d + 1)).sum = ([n0, n1, n2, n3, n4, n5].take d).sum + [n0, n1, n2, n3, n4, n5].getD d 0 ∧ ([n0, n1, n2, n3, n4, n5].take (d + 1)).sum ≤ 1000 := by
      rcases (show d = 0 ∨ d = 1 ∨ d = 2 ∨ d = 3 ∨ d = 4 ∨ d = 5 by omega) with rfl | rfl | rfl | rfl | rfl | rfl <;> simp <;> omega
    generalize [n0, n1, n2, n3, n4, n5].getD d 0 = nd at e0 e1
    simp (disch := omega) only [f4, f11, f12, e0, Nat.mul_one, Nat.zero_add, ↓SXd, SXu, slBounds, ↓sop, ↓aop, ↓reduceIte, LV.cells, AOp.dst, LV.I, LV.B, LV.U, LV.S, LV.nil, Nat.reduceEqDiff, Nat.reduceAdd, Nat.reduceMul, Nat.reduceSub, Nat.reduceLeDiff, Nat.reduceBEq, Nat.reduceDiv, Nat.reduceMod, Int.reduceToNat, Int.reduceLT, Int.reduceLE, Int.reduceAdd, Int.reduceSub, Int.reduceMul, Int.reduceEq, Int.reduceNeg, reduceCtorEq, resV, resAll, ARes.ev, LV.flat, ite_true, ite_false, exists_eq_left', exists_eq_left, keyOf, implies_true, fillC, capOf]
    exact ⟨m - 1, by omega, d + 1, by omega, hpre, eqI (by omega), f11, eqI (natI _)⟩
  · have hd6 : d = 6 := by omega
    subst hd6
    have e1 : ([n0, n1, n2, n3, n4, n5].take 6).sum = surfN cs := by rw [hsum]; rfl
    rw [e1] at f4
    simp (disch := omega) only [f4, f11, f12, ↓SXd, SXu, slBounds, ↓sop, ↓aop, ↓reduceIte, LV.cells, AOp.dst, LV.I, LV.B, LV.U, LV.S, LV.nil, Nat.reduceEqDiff, Nat.reduceAdd, Nat.reduceMul, Nat.reduceSub, Nat.reduceLeDiff, Nat.reduceBEq, Nat.reduceDiv, Nat.reduceMod, Int.reduceToNat, Int.reduceLT, Int.reduceLE, Int.reduceAdd, Int.reduceSub, Int.reduceMul, Int.reduceEq, Int.reduceNeg, reduceCtorEq, resV, resAll, ARes.ev, LV.flat, ite_true, ite_false, exists_eq_left', exists_eq_left, keyOf, implies_true, fillC, capOf]
    exact cmp_pre hpre rfl
end Go.Ab
