/- Parts of the proof of FnExactFirstFewestSaid: Da Gb Gd Gc Ge C_Vb K_Vb C_Ua K_Ua Ua Vb C_Wk K_Wk C_Wi K_Wi C_Wh K_Wh C_Wb K_Wb C_Ug K_Ug C_Ud K_Ud C_Uc K_Uc C_Ub K_Ub C_Ea K_Ea Ma Ea C_Db K_Db Db. -/
import Derived.Test.YtjpdjjeddagjlaaA4
import Derived.Test.YtjpdjjeddagjlaaA3
import Derived.Test.YtjpdjjeddagjlaaProg
import Derived.KernelRfl
set_option linter.all false
/- Contracts: the laws' helpers on heaps. -/
namespace Go.Ab
open Go
set_option linter.unusedSimpArgs false
set_option linter.unusedVariables false

theorem h_eqIntA3 {a b c a' b' c' : Int} {M : Mem} : CallsTo PG F.laws_eqIntA3 [.agg [.I a, .I b, .I c], .agg [.I a', .I b', .I c']] M (.B (decide ((⟨a, b, c⟩ : Cell) = ⟨a', b', c'⟩))) M := by
  refine calls_run K.laws_eqIntA3 rfl ?_
  simp (disch := omega) only [C.laws_eqIntA3, ↓SXd, SXu, slBounds, ↓sop, ↓aop, ↓reduceIte, LV.cells, AOp.dst, LV.I, LV.B, LV.U, LV.S, LV.nil, Nat.reduceEqDiff, Nat.reduceAdd, Nat.reduceMul, Nat.reduceSub, Nat.reduceLeDiff, Nat.reduceBEq, Nat.reduceDiv, Nat.reduceMod, Int.reduceToNat, Int.reduceLT, Int.reduceLE, Int.reduceAdd, Int.reduceSub, Int.reduceMul, Int.reduceEq, Int.reduceNeg, reduceCtorEq, resV, resAll, ARes.ev, LV.flat, ite_true, ite_false, exists_eq_left', exists_eq_left, keyOf, implies_true, fillC, capOf]
  refine ev_loop (fun m fr M' => ∃ k : Nat, k + m = 3 ∧ M' = M ++ [some (Blk.row [.I a, .I b, .I c] true 0), some (Blk.row [.I a', .I b', .I c'] true 0)] ∧ fr 2 = .ptr M.length 0 ∧ fr 3 = .ptr (M.length + 1) 0 ∧ fr 5 = .I k ∧
    (0 < k → a = a') ∧ (1 < k → b = b') ∧ (2 < k → c = c')) 3 ⟨0, rfl, rfl, rfl, rfl, rfl, by omega, by omega, by omega⟩ ?_
  rintro m fr M' ⟨k, hk, rfl, h2, h3, h5, ha, hb, hc⟩
  simp (disch := omega) only [h2, h3, h5, ↓SXd, SXu, slBounds, ↓sop, ↓aop, ↓reduceIte, LV.cells, AOp.dst, LV.I, LV.B, LV.U, LV.S, LV.nil, Nat.reduceEqDiff, Nat.reduceAdd, Nat.reduceMul, Nat.reduceSub, Nat.reduceLeDiff, Nat.reduceBEq, Nat.reduceDiv, Nat.reduceMod, Int.reduceToNat, Int.reduceLT, Int.reduceLE, Int.reduceAdd, Int.reduceSub, Int.reduceMul, Int.reduceEq, Int.reduceNeg, reduceCtorEq, resV, resAll, ARes.ev, LV.flat, ite_true, ite_false, exists_eq_left', exists_eq_left, keyOf, implies_true, fillC, capOf]
  refine condC_dec (fun hlt => ?_) (fun hlt => ?_)
  · have hk3 : k = 0 ∨ k = 1 ∨ k = 2 := by omega
    rcases hk3 with rfl | rfl | rfl
    all_goals
      simp (disch := omega) only [h2, h3, h5, ↓SXd, SXu, slBounds, ↓sop, ↓aop, ↓reduceIte, LV.cells, AOp.dst, LV.I, LV.B, LV.U, LV.S, LV.nil, Nat.reduceEqDiff, Nat.reduceAdd, Nat.reduceMul, Nat.reduceSub, Nat.reduceLeDiff, Nat.reduceBEq, Nat.reduceDiv, Nat.reduceMod, Int.reduceToNat, Int.reduceLT, Int.reduceLE, Int.reduceAdd, Int.reduceSub, Int.reduceMul, Int.reduceEq, Int.reduceNeg, reduceCtorEq, resV, resAll, ARes.ev, LV.flat, ite_true, ite_false, exists_eq_left', exists_eq_left, keyOf, implies_true, fillC, capOf]
      refine condC_dec (fun he => ?_) (fun he => ?_)
      · simp (disch := omega) only [h2, h3, h5, ↓SXd, SXu, slBounds, ↓sop, ↓aop, ↓reduceIte, LV.cells, AOp.dst, LV.I, LV.B, LV.U, LV.S, LV.nil, Nat.reduceEqDiff, Nat.reduceAdd, Nat.reduceMul, Nat.reduceSub, Nat.reduceLeDiff, Nat.reduceBEq, Nat.reduceDiv, Nat.reduceMod, Int.reduceToNat, Int.reduceLT, Int.reduceLE, Int.reduceAdd, Int.reduceSub, Int.reduceMul, Int.reduceEq, Int.reduceNeg, reduceCtorEq, resV, resAll, ARes.ev, LV.flat, ite_true, ite_false, exists_eq_left', exists_eq_left, keyOf, implies_true, fillC, capOf]
        exact ⟨m - 1, by omega, _, by omega, rfl, h2, h3, eqI (natI _), by omega, by omega, by omega⟩
      · simp (disch := omega) only [h2, h3, h5, ↓SXd, SXu, slBounds, ↓sop, ↓aop, ↓reduceIte, LV.cells, AOp.dst, LV.I, LV.B, LV.U, LV.S, LV.nil, Nat.reduceEqDiff, Nat.reduceAdd, Nat.reduceMul, Nat.reduceSub, Nat.reduceLeDiff, Nat.reduceBEq, Nat.reduceDiv, Nat.reduceMod, Int.reduceToNat, Int.reduceLT, Int.reduceLE, Int.reduceAdd, Int.reduceSub, Int.reduceMul, Int.reduceEq, Int.reduceNeg, reduceCtorEq, resV, resAll, ARes.ev, LV.flat, ite_true, ite_false, exists_eq_left', exists_eq_left, keyOf, implies_true, fillC, capOf]
        rw [decide_eq_false (fun e => he (by injection e))]
        exact cmp_drop rfl
  · simp (disch := omega) only [h2, h3, h5, ↓SXd, SXu, slBounds, ↓sop, ↓aop, ↓reduceIte, LV.cells, AOp.dst, LV.I, LV.B, LV.U, LV.S, LV.nil, Nat.reduceEqDiff, Nat.reduceAdd, Nat.reduceMul, Nat.reduceSub, Nat.reduceLeDiff, Nat.reduceBEq, Nat.reduceDiv, Nat.reduceMod, Int.reduceToNat, Int.reduceLT, Int.reduceLE, Int.reduceAdd, Int.reduceSub, Int.reduceMul, Int.reduceEq, Int.reduceNeg, reduceCtorEq, resV, resAll, ARes.ev, LV.flat, ite_true, ite_false, exists_eq_left', exists_eq_left, keyOf, implies_true, fillC, capOf]
    rw [decide_eq_true (cell_eq.2 ⟨ha (by omega), hb (by omega), hc (by omega)⟩)]
    exact cmp_drop rfl

theorem h_eqIntA3S {t o t' o' : Nat} {cs ds : List Cell} {M : Mem} (h : Tri M t o cs) (h' : Tri M t' o' ds) (hn : cs.length ≤ 1000000000) (hn' : ds.length ≤ 1000000000) :
    CallsTo PG F.laws_eqIntA3S [.ref t o cs.length, .ref t' o' ds.length] M (.B (decide (cs = ds))) M := by
  refine calls_run K.laws_eqIntA3S rfl ?_
  simp (disch := omega) only [C.laws_eqIntA3S, ↓SXd, SXu, slBounds, ↓sop, ↓aop, ↓reduceIte, LV.cells, AOp.dst, LV.I, LV.B, LV.U, LV.S, LV.nil, Nat.reduceEqDiff, Nat.reduceAdd, Nat.reduceMul, Nat.reduceSub, Nat.reduceLeDiff, Nat.reduceBEq, Nat.reduceDiv, Nat.reduceMod, Int.reduceToNat, Int.reduceLT, Int.reduceLE, Int.reduceAdd, Int.reduceSub, Int.reduceMul, Int.reduceEq, Int.reduceNeg, reduceCtorEq, resV, resAll, ARes.ev, LV.flat, ite_true, ite_false, exists_eq_left', exists_eq_left, keyOf, implies_true, fillC, capOf]
  refine condC_dec (fun hl => ?_) (fun hl => ?_)
  · simp (disch := omega) only [↓SXd, SXu, slBounds, ↓sop, ↓aop, ↓reduceIte, LV.cells, AOp.dst, LV.I, LV.B, LV.U, LV.S, LV.nil, Nat.reduceEqDiff, Nat.reduceAdd, Nat.reduceMul, Nat.reduceSub, Nat.reduceLeDiff, Nat.reduceBEq, Nat.reduceDiv, Nat.reduceMod, Int.reduceToNat, Int.reduceLT, Int.reduceLE, Int.reduceAdd, Int.reduceSub, Int.reduceMul, Int.reduceEq, Int.reduceNeg, reduceCtorEq, resV, resAll, ARes.ev, LV.flat, ite_true, ite_false, exists_eq_left', exists_eq_left, keyOf, implies_true, fillC, capOf]
    refine ev_loop (fun m fr M' => ∃ k : Nat, k + m = cs.length ∧ M' = M ∧ fr 0 = .ref t o cs.length ∧ fr 1 = .ref t' o' ds.length ∧ fr 5 = .I k ∧ cs.take k = ds.take k) cs.length ⟨0, by omega, rfl, rfl, rfl, rfl, by simp⟩ ?_
    rintro m fr M' ⟨k, hk, rfl, h0, h1, h5, heq⟩
    simp (disch := omega) only [h0, h1, h5, ↓SXd, SXu, slBounds, ↓sop, ↓aop, ↓reduceIte, LV.cells, AOp.dst, LV.I, LV.B, LV.U, LV.S, LV.nil, Nat.reduceEqDiff, Nat.reduceAdd, Nat.reduceMul, Nat.reduceSub, Nat.reduceLeDiff, Nat.reduceBEq, Nat.reduceDiv, Nat.reduceMod, Int.reduceToNat, Int.reduceLT, Int.reduceLE, Int.reduceAdd, Int.reduceSub, Int.reduceMul, Int.reduceEq, Int.reduceNeg, reduceCtorEq, resV, resAll, ARes.ev, LV.flat, ite_true, ite_false, exists_eq_left', exists_eq_left, keyOf, implies_true, fillC, capOf]
    refine condC_dec (fun hlt => ?_) (fun hlt => ?_)
    · simp (disch := omega) only [h0, h1, h5, h.get, h'.get, ↓SXd, SXu, slBounds, ↓sop, ↓aop, ↓reduceIte, LV.cells, AOp.dst, LV.I, LV.B, LV.U, LV.S, LV.nil, Nat.reduceEqDiff, Nat.reduceAdd, Nat.reduceMul, Nat.reduceSub, Nat.reduceLeDiff, Nat.reduceBEq, Nat.reduceDiv, Nat.reduceMod, Int.reduceToNat, Int.reduceLT, Int.reduceLE, Int.reduceAdd, Int.reduceSub, Int.reduceMul, Int.reduceEq, Int.reduceNeg, reduceCtorEq, resV, resAll, ARes.ev, LV.flat, ite_true, ite_false, exists_eq_left', exists_eq_left, keyOf, implies_true, fillC, capOf]
      refine callK_of h_eqIntA3 ?_
      simp (disch := omega) only [h0, h1, h5, ↓SXd, SXu, slBounds, ↓sop, ↓aop, ↓reduceIte, LV.cells, AOp.dst, LV.I, LV.B, LV.U, LV.S, LV.nil, Nat.reduceEqDiff, Nat.reduceAdd, Nat.reduceMul, Nat.reduceSub, Nat.reduceLeDiff, Nat.reduceBEq, Nat.reduceDiv, Nat.reduceMod, Int.reduceToNat, Int.reduceLT, Int.reduceLE, Int.reduceAdd, Int.reduceSub, Int.reduceMul, Int.reduceEq, Int.reduceNeg, reduceCtorEq, resV, resAll, ARes.ev, LV.flat, ite_true, ite_false, exists_eq_left', exists_eq_left, keyOf, implies_true, fillC, capOf]
      refine condC_dec (fun he => ?_) (fun he => ?_)
      · simp (disch := omega) only [h0, h1, h5, ↓SXd, SXu, slBounds, ↓sop, ↓aop, ↓reduceIte, LV.cells, AOp.dst, LV.I, LV.B, LV.U, LV.S, LV.nil, Nat.reduceEqDiff, Nat.reduceAdd, Nat.reduceMul, Nat.reduceSub, Nat.reduceLeDiff, Nat.reduceBEq, Nat.reduceDiv, Nat.reduceMod, Int.reduceToNat, Int.reduceLT, Int.reduceLE, Int.reduceAdd, Int.reduceSub, Int.reduceMul, Int.reduceEq, Int.reduceNeg, reduceCtorEq, resV, resAll, ARes.ev, LV.flat, ite_true, ite_false, exists_eq_left', exists_eq_left, keyOf, implies_true, fillC, capOf]
        refine ⟨m - 1, by omega, _, by omega, rfl, h0, h1, eqI (natI _), ?_⟩
        have e1 : k < cs.length := by omega
        have e2 : k < ds.length := by omega
        rw [List.take_add_one, List.take_add_one, heq]
        simp only [List.getD_eq_getElem?_getD, e1, e2, getElem?_pos, Option.getD_some] at he
        simp only [e1, e2, getElem?_pos, Option.toList]
        rw [show cs[k] = ds[k] from he]
      · simp (disch := omega) only [h0, h1, h5, ↓SXd, SXu, slBounds, ↓sop, ↓aop, ↓reduceIte, LV.cells, AOp.dst, LV.I, LV.B, LV.U, LV.S, LV.nil, Nat.reduceEqDiff, Nat.reduceAdd, Nat.reduceMul, Nat.reduceSub, Nat.reduceLeDiff, Nat.reduceBEq, Nat.reduceDiv, Nat.reduceMod, Int.reduceToNat, Int.reduceLT, Int.reduceLE, Int.reduceAdd, Int.reduceSub, Int.reduceMul, Int.reduceEq, Int.reduceNeg, reduceCtorEq, resV, resAll, ARes.ev, LV.flat, ite_true, ite_false, exists_eq_left', exists_eq_left, keyOf, implies_true, fillC, capOf]
        rw [decide_eq_false (fun e => he (by rw [e]))]
        exact cmp_drop0 rfl
    · simp (disch := omega) only [↓SXd, SXu, slBounds, ↓sop, ↓aop, ↓reduceIte, LV.cells, AOp.dst, LV.I, LV.B, LV.U, LV.S, LV.nil, Nat.reduceEqDiff, Nat.reduceAdd, Nat.reduceMul, Nat.reduceSub, Nat.reduceLeDiff, Nat.reduceBEq, Nat.reduceDiv, Nat.reduceMod, Int.reduceToNat, Int.reduceLT, Int.reduceLE, Int.reduceAdd, Int.reduceSub, Int.reduceMul, Int.reduceEq, Int.reduceNeg, reduceCtorEq, resV, resAll, ARes.ev, LV.flat, ite_true, ite_false, exists_eq_left', exists_eq_left, keyOf, implies_true, fillC, capOf]
      have : cs = ds := by
        rw [List.take_of_length_le (by omega), List.take_of_length_le (by omega)] at heq
        exact heq
      rw [decide_eq_true this]
      exact cmp_drop0 rfl
  · simp (disch := omega) only [↓SXd, SXu, slBounds, ↓sop, ↓aop, ↓reduceIte, LV.cells, AOp.dst, LV.I, LV.B, LV.U, LV.S, LV.nil, Nat.reduceEqDiff, Nat.reduceAdd, Nat.reduceMul, Nat.reduceSub, Nat.reduceLeDiff, Nat.reduceBEq, Nat.reduceDiv, Nat.reduceMod, Int.reduceToNat, Int.reduceLT, Int.reduceLE, Int.reduceAdd, Int.reduceSub, Int.reduceMul, Int.reduceEq, Int.reduceNeg, reduceCtorEq, resV, resAll, ARes.ev, LV.flat, ite_true, ite_false, exists_eq_left', exists_eq_left, keyOf, implies_true, fillC, capOf]
    rw [decide_eq_false (fun e => hl (by rw [e]))]
    exact cmp_drop0 rfl

end Go.Ab

/- Contracts: the laws' helpers on lists of cells, and on heaps. -/
namespace Go.Ab
open Go
set_option linter.unusedSimpArgs false
set_option linter.unusedVariables false

/-- A list of cells that may be read. -/
def CellsV (N : Mem) (v : LV) (l : List Cell) : Prop := (v = .nil ∧ l = []) ∨ ∃ t o, v = .ref t o l.length ∧ Tri N t o l
/-- A list of cells that is one's own. -/
def SlC (N : Mem) (v : LV) (l : List Cell) : Prop := (v = .nil ∧ l = []) ∨ ∃ t ex, v = .ref t 0 l.length ∧ Live N t (.row (triL (l ++ ex)) true 3)
theorem SlC.v {N : Mem} {v : LV} {l : List Cell} (h : SlC N v l) : CellsV N v l := by
  rcases h with h | ⟨t, ex, h1, h2⟩
  · exact .inl h
  · rw [triL_append] at h2; exact .inr ⟨t, 0, h1, h2.hasL⟩
theorem CellsV.pre {M N : Mem} {v : LV} {l : List Cell} (h : CellsV M v l) (hp : Pre M N) : CellsV N v l := by
  rcases h with h | ⟨t, o, h1, h2⟩
  · exact .inl h
  · exact .inr ⟨t, o, h1, h2.pre hp⟩
theorem SlC.pre {M N : Mem} {v : LV} {l : List Cell} (h : SlC M v l) (hp : Pre M N) : SlC N v l := by
  rcases h with h | ⟨t, ex, h1, h2⟩
  · exact .inl h
  · exact .inr ⟨t, ex, h1, h2.pre hp⟩
theorem SlC.nil {N : Mem} : SlC N .nil [] := .inl ⟨rfl, rfl⟩
theorem CellsV.nil {N : Mem} : CellsV N .nil [] := .inl ⟨rfl, rfl⟩
theorem SlC.of {N : Mem} {t : Nat} {l : List Cell} (h : Live N t (.row (triL l) true 3)) : SlC N (.ref t 0 l.length) l := .inr ⟨t, [], rfl, by simpa using h⟩
theorem CellsV.of {N : Mem} {t o : Nat} {l : List Cell} (h : Tri N t o l) : CellsV N (.ref t o l.length) l := .inr ⟨t, o, rfl, h⟩

def marks3 (k : Int) (n : Nat) : List Cell := (List.range n).map fun (i : Nat) => ⟨k + 3 * (i : Int), k + 3 * (i : Int) + 1, k + 3 * (i : Int) + 2⟩
theorem marks3_len (k : Int) (n : Nat) : (marks3 k n).length = n := by simp [marks3]
theorem marks3_get {k : Int} {n i : Nat} (h : i < n) : (marks3 k n).getD i default = ⟨k + 3 * i, k + 3 * i + 1, k + 3 * i + 2⟩ := by simp [marks3, h]

theorem h_eqIntA3S_n {l' : List Cell} {v' : LV} {M : Mem} (h' : CellsV M v' l') (hn' : l'.length ≤ 1000000000) : CallsTo PG F.laws_eqIntA3S [.nil, v'] M (.B (decide ([] = l'))) M := by
  refine calls_run K.laws_eqIntA3S rfl ?_
  have hlen : lenV v' = some (l'.length : Int) := by
    rcases h' with ⟨rfl, rfl⟩ | ⟨t, o, rfl, _⟩ <;> rfl
  simp (disch := omega) only [C.laws_eqIntA3S, hlen, ↓SXd, SXu, slBounds, ↓sop, ↓aop, ↓reduceIte, LV.cells, AOp.dst, LV.I, LV.B, LV.U, LV.S, LV.nil, Nat.reduceEqDiff, Nat.reduceAdd, Nat.reduceMul, Nat.reduceSub, Nat.reduceLeDiff, Nat.reduceBEq, Nat.reduceDiv, Nat.reduceMod, Int.reduceToNat, Int.reduceLT, Int.reduceLE, Int.reduceAdd, Int.reduceSub, Int.reduceMul, Int.reduceEq, Int.reduceNeg, reduceCtorEq, resV, resAll, ARes.ev, LV.flat, ite_true, ite_false, exists_eq_left', exists_eq_left, keyOf, implies_true, fillC, capOf]
  refine condC_dec (fun hl => ?_) (fun hl => ?_)
  rotate_left
  · rw [show decide ([] = l') = false from decide_eq_false (fun e => by subst e; exact (hl rfl).elim)]
    simp (disch := omega) only [↓SXd, SXu, slBounds, ↓sop, ↓aop, ↓reduceIte, LV.cells, AOp.dst, LV.I, LV.B, LV.U, LV.S, LV.nil, Nat.reduceEqDiff, Nat.reduceAdd, Nat.reduceMul, Nat.reduceSub, Nat.reduceLeDiff, Nat.reduceBEq, Nat.reduceDiv, Nat.reduceMod, Int.reduceToNat, Int.reduceLT, Int.reduceLE, Int.reduceAdd, Int.reduceSub, Int.reduceMul, Int.reduceEq, Int.reduceNeg, reduceCtorEq, resV, resAll, ARes.ev, LV.flat, ite_true, ite_false, exists_eq_left', exists_eq_left, keyOf, implies_true, fillC, capOf]
    exact cmp_drop0 rfl
  · simp (disch := omega) only [↓SXd, SXu, slBounds, ↓sop, ↓aop, ↓reduceIte, LV.cells, AOp.dst, LV.I, LV.B, LV.U, LV.S, LV.nil, Nat.reduceEqDiff, Nat.reduceAdd, Nat.reduceMul, Nat.reduceSub, Nat.reduceLeDiff, Nat.reduceBEq, Nat.reduceDiv, Nat.reduceMod, Int.reduceToNat, Int.reduceLT, Int.reduceLE, Int.reduceAdd, Int.reduceSub, Int.reduceMul, Int.reduceEq, Int.reduceNeg, reduceCtorEq, resV, resAll, ARes.ev, LV.flat, ite_true, ite_false, exists_eq_left', exists_eq_left, keyOf, implies_true, fillC, capOf]
    refine ev_loop (fun m fr M' => M' = M ∧ fr 0 = .nil ∧ fr 5 = .I 0) 0 ⟨rfl, rfl, rfl⟩ ?_
    rintro m fr M' ⟨rfl, h0, h5⟩
    simp (disch := omega) only [h0, h5, ↓SXd, SXu, slBounds, ↓sop, ↓aop, ↓reduceIte, LV.cells, AOp.dst, LV.I, LV.B, LV.U, LV.S, LV.nil, Nat.reduceEqDiff, Nat.reduceAdd, Nat.reduceMul, Nat.reduceSub, Nat.reduceLeDiff, Nat.reduceBEq, Nat.reduceDiv, Nat.reduceMod, Int.reduceToNat, Int.reduceLT, Int.reduceLE, Int.reduceAdd, Int.reduceSub, Int.reduceMul, Int.reduceEq, Int.reduceNeg, reduceCtorEq, resV, resAll, ARes.ev, LV.flat, ite_true, ite_false, exists_eq_left', exists_eq_left, keyOf, implies_true, fillC, capOf]
    rw [decide_eq_true (List.eq_nil_of_length_eq_zero (by simpa using hl.symm)).symm]
    exact cmp_drop0 rfl

theorem h_eqIntA3S_rn {l : List Cell} {t o : Nat} {M : Mem} (h : Tri M t o l) (hn : l.length ≤ 1000000000) : CallsTo PG F.laws_eqIntA3S [.ref t o l.length, .nil] M (.B (decide (l = []))) M := by
  refine calls_run K.laws_eqIntA3S rfl ?_
  simp (disch := omega) only [C.laws_eqIntA3S, ↓SXd, SXu, slBounds, ↓sop, ↓aop, ↓reduceIte, LV.cells, AOp.dst, LV.I, LV.B, LV.U, LV.S, LV.nil, Nat.reduceEqDiff, Nat.reduceAdd, Nat.reduceMul, Nat.reduceSub, Nat.reduceLeDiff, Nat.reduceBEq, Nat.reduceDiv, Nat.reduceMod, Int.reduceToNat, Int.reduceLT, Int.reduceLE, Int.reduceAdd, Int.reduceSub, Int.reduceMul, Int.reduceEq, Int.reduceNeg, reduceCtorEq, resV, resAll, ARes.ev, LV.flat, ite_true, ite_false, exists_eq_left', exists_eq_left, keyOf, implies_true, fillC, capOf]
  refine condC_dec (fun hl => ?_) (fun hl => ?_)
  rotate_left
  · rw [show decide (l = []) = false from decide_eq_false (fun e => by subst e; exact (hl rfl).elim)]
    simp (disch := omega) only [↓SXd, SXu, slBounds, ↓sop, ↓aop, ↓reduceIte, LV.cells, AOp.dst, LV.I, LV.B, LV.U, LV.S, LV.nil, Nat.reduceEqDiff, Nat.reduceAdd, Nat.reduceMul, Nat.reduceSub, Nat.reduceLeDiff, Nat.reduceBEq, Nat.reduceDiv, Nat.reduceMod, Int.reduceToNat, Int.reduceLT, Int.reduceLE, Int.reduceAdd, Int.reduceSub, Int.reduceMul, Int.reduceEq, Int.reduceNeg, reduceCtorEq, resV, resAll, ARes.ev, LV.flat, ite_true, ite_false, exists_eq_left', exists_eq_left, keyOf, implies_true, fillC, capOf]
    exact cmp_drop0 rfl
  · simp (disch := omega) only [↓SXd, SXu, slBounds, ↓sop, ↓aop, ↓reduceIte, LV.cells, AOp.dst, LV.I, LV.B, LV.U, LV.S, LV.nil, Nat.reduceEqDiff, Nat.reduceAdd, Nat.reduceMul, Nat.reduceSub, Nat.reduceLeDiff, Nat.reduceBEq, Nat.reduceDiv, Nat.reduceMod, Int.reduceToNat, Int.reduceLT, Int.reduceLE, Int.reduceAdd, Int.reduceSub, Int.reduceMul, Int.reduceEq, Int.reduceNeg, reduceCtorEq, resV, resAll, ARes.ev, LV.flat, ite_true, ite_false, exists_eq_left', exists_eq_left, keyOf, implies_true, fillC, capOf]
    have hz : l.length = 0 := by omega
    refine ev_loop (fun m fr M' => M' = M ∧ fr 0 = .ref t o l.length ∧ fr 5 = .I 0) 0 ⟨rfl, rfl, rfl⟩ ?_
    rintro m fr M' ⟨rfl, h0, h5⟩
    simp (disch := omega) only [h0, h5, hz, ↓SXd, SXu, slBounds, ↓sop, ↓aop, ↓reduceIte, LV.cells, AOp.dst, LV.I, LV.B, LV.U, LV.S, LV.nil, Nat.reduceEqDiff, Nat.reduceAdd, Nat.reduceMul, Nat.reduceSub, Nat.reduceLeDiff, Nat.reduceBEq, Nat.reduceDiv, Nat.reduceMod, Int.reduceToNat, Int.reduceLT, Int.reduceLE, Int.reduceAdd, Int.reduceSub, Int.reduceMul, Int.reduceEq, Int.reduceNeg, reduceCtorEq, resV, resAll, ARes.ev, LV.flat, ite_true, ite_false, exists_eq_left', exists_eq_left, keyOf, implies_true, fillC, capOf]
    rw [decide_eq_true (List.eq_nil_of_length_eq_zero hz)]
    exact cmp_drop0 rfl

theorem h_eqCells {l l' : List Cell} {v v' : LV} {M : Mem} (h : CellsV M v l) (h' : CellsV M v' l') (hn : l.length ≤ 1000000000) (hn' : l'.length ≤ 1000000000) :
    CallsTo PG F.laws_eqIntA3S [v, v'] M (.B (decide (l = l'))) M := by
  rcases h with ⟨rfl, rfl⟩ | ⟨t, o, rfl, h⟩
  · exact h_eqIntA3S_n h' hn'
  · rcases h' with ⟨rfl, rfl⟩ | ⟨t', o', rfl, h'⟩
    · exact h_eqIntA3S_rn h hn
    · exact h_eqIntA3S h h' hn hn'

theorem h_eqHeapV {x y z x' y' z' : Int} {v v' : LV} {cs ds : List Cell} {M : Mem} (h : CellsV M v cs) (h' : CellsV M v' ds) (hn : cs.length ≤ 1000000000) (hn' : ds.length ≤ 1000000000) :
    CallsTo PG F.laws_eqHeap [.agg [.I x, .I y, .I z, v], .agg [.I x', .I y', .I z', v']] M (.B (decide (x = x' ∧ y = y' ∧ z = z' ∧ cs = ds))) M := by
  have hv : ∀ {v : LV} {l : List Cell}, CellsV M v l → v.one = true ∧ v.cells = some [v] ∧ v.lo1 M.length = true := fun {v l} h => by
    rcases h with ⟨rfl, rfl⟩ | ⟨t, o, rfl, h⟩
    · exact ⟨rfl, rfl, rfl⟩
    · exact ⟨rfl, rfl, decide_eq_true h.lt⟩
  refine calls_run K.laws_eqHeap rfl ?_
  simp (disch := omega) only [C.laws_eqHeap, ↓SXd, SXu, slBounds, ↓sop, ↓aop, ↓reduceIte, LV.cells, AOp.dst, LV.I, LV.B, LV.U, LV.S, LV.nil, Nat.reduceEqDiff, Nat.reduceAdd, Nat.reduceMul, Nat.reduceSub, Nat.reduceLeDiff, Nat.reduceBEq, Nat.reduceDiv, Nat.reduceMod, Int.reduceToNat, Int.reduceLT, Int.reduceLE, Int.reduceAdd, Int.reduceSub, Int.reduceMul, Int.reduceEq, Int.reduceNeg, reduceCtorEq, resV, resAll, ARes.ev, LV.flat, ite_true, ite_false, exists_eq_left', exists_eq_left, keyOf, implies_true, fillC, capOf]
  refine condC_dec (fun h1 => ?_) (fun h1 => ?_) <;> simp (disch := omega) only [↓SXd, SXu, slBounds, ↓sop, ↓aop, ↓reduceIte, LV.cells, AOp.dst, LV.I, LV.B, LV.U, LV.S, LV.nil, Nat.reduceEqDiff, Nat.reduceAdd, Nat.reduceMul, Nat.reduceSub, Nat.reduceLeDiff, Nat.reduceBEq, Nat.reduceDiv, Nat.reduceMod, Int.reduceToNat, Int.reduceLT, Int.reduceLE, Int.reduceAdd, Int.reduceSub, Int.reduceMul, Int.reduceEq, Int.reduceNeg, reduceCtorEq, resV, resAll, ARes.ev, LV.flat, ite_true, ite_false, exists_eq_left', exists_eq_left, keyOf, implies_true, fillC, capOf]
  · refine condC_dec (fun h2 => ?_) (fun h2 => ?_) <;> simp (disch := omega) only [↓SXd, SXu, slBounds, ↓sop, ↓aop, ↓reduceIte, LV.cells, AOp.dst, LV.I, LV.B, LV.U, LV.S, LV.nil, Nat.reduceEqDiff, Nat.reduceAdd, Nat.reduceMul, Nat.reduceSub, Nat.reduceLeDiff, Nat.reduceBEq, Nat.reduceDiv, Nat.reduceMod, Int.reduceToNat, Int.reduceLT, Int.reduceLE, Int.reduceAdd, Int.reduceSub, Int.reduceMul, Int.reduceEq, Int.reduceNeg, reduceCtorEq, resV, resAll, ARes.ev, LV.flat, ite_true, ite_false, exists_eq_left', exists_eq_left, keyOf, implies_true, fillC, capOf]
    · refine condC_dec (fun h3 => ?_) (fun h3 => ?_) <;> simp (disch := omega) only [↓SXd, SXu, slBounds, ↓sop, ↓aop, ↓reduceIte, LV.cells, AOp.dst, LV.I, LV.B, LV.U, LV.S, LV.nil, Nat.reduceEqDiff, Nat.reduceAdd, Nat.reduceMul, Nat.reduceSub, Nat.reduceLeDiff, Nat.reduceBEq, Nat.reduceDiv, Nat.reduceMod, Int.reduceToNat, Int.reduceLT, Int.reduceLE, Int.reduceAdd, Int.reduceSub, Int.reduceMul, Int.reduceEq, Int.reduceNeg, reduceCtorEq, resV, resAll, ARes.ev, LV.flat, ite_true, ite_false, exists_eq_left', exists_eq_left, keyOf, implies_true, fillC, capOf]
      · refine callK_of (h_eqCells (h.pre (Pre.app _ _)) (h'.pre (Pre.app _ _)) hn hn') ?_
        simp (disch := omega) only [↓SXd, SXu, slBounds, ↓sop, ↓aop, ↓reduceIte, LV.cells, AOp.dst, LV.I, LV.B, LV.U, LV.S, LV.nil, Nat.reduceEqDiff, Nat.reduceAdd, Nat.reduceMul, Nat.reduceSub, Nat.reduceLeDiff, Nat.reduceBEq, Nat.reduceDiv, Nat.reduceMod, Int.reduceToNat, Int.reduceLT, Int.reduceLE, Int.reduceAdd, Int.reduceSub, Int.reduceMul, Int.reduceEq, Int.reduceNeg, reduceCtorEq, resV, resAll, ARes.ev, LV.flat, ite_true, ite_false, exists_eq_left', exists_eq_left, keyOf, implies_true, fillC, capOf]
        refine condC_dec (fun h4 => ?_) (fun h4 => ?_) <;> simp (disch := omega) only [↓SXd, SXu, slBounds, ↓sop, ↓aop, ↓reduceIte, LV.cells, AOp.dst, LV.I, LV.B, LV.U, LV.S, LV.nil, Nat.reduceEqDiff, Nat.reduceAdd, Nat.reduceMul, Nat.reduceSub, Nat.reduceLeDiff, Nat.reduceBEq, Nat.reduceDiv, Nat.reduceMod, Int.reduceToNat, Int.reduceLT, Int.reduceLE, Int.reduceAdd, Int.reduceSub, Int.reduceMul, Int.reduceEq, Int.reduceNeg, reduceCtorEq, resV, resAll, ARes.ev, LV.flat, ite_true, ite_false, exists_eq_left', exists_eq_left, keyOf, implies_true, fillC, capOf]
        · rw [decide_eq_true ⟨h1, h2, h3, h4⟩]; exact cmp_drop rfl
        · rw [decide_eq_false (fun e => h4 e.2.2.2)]; exact cmp_drop rfl
      · rw [decide_eq_false (fun e => h3 e.2.2.1)]; exact cmp_drop rfl
    · rw [decide_eq_false (fun e => h2 e.2.1)]; exact cmp_drop rfl
  · rw [decide_eq_false (fun e => h1 e.1)]; exact cmp_drop rfl

theorem marks3_step {k : Int} {l : List Cell} {i : Nat} (h : i < l.length) : (marks3 k i ++ l.drop i).set i ⟨k + 3 * i, k + 3 * i + 1, k + 3 * i + 2⟩ = marks3 k (i + 1) ++ l.drop (i + 1) := by
  rw [List.set_append_right _ _ (by rw [marks3_len]; omega), marks3_len, Nat.sub_self, List.drop_eq_getElem_cons h, List.set_cons_zero]
  simp [marks3, List.range_succ, List.append_assoc]

/-- What a marking leaves. -/
def Marked3 (M : Mem) (v : LV) (k : Int) (n : Nat) (r : LV) (N : Mem) : Prop := r = .I (k + 3 * n) ∧ SlC N v (marks3 k n) ∧ N.length = M.length ∧ ∀ u, Off v u → N[u]? = M[u]?

def cellSet (c : Cell) (j : Nat) (v : Int) : Cell := match j with | 0 => ⟨v, c.b, c.c⟩ | 1 => ⟨c.a, v, c.c⟩ | _ => ⟨c.a, c.b, v⟩
theorem triL_set1 (cs : List Cell) : ∀ (k j : Nat) (v : Int), k < cs.length → j < 3 → splice (triL cs) (k * 3 + j) [LV.val (.int .i64 v)] = triL (cs.set k (cellSet (cs.getD k default) j v)) := by
  induction cs with
  | nil => intro k j v h; simp at h
  | cons c cs ih =>
    intro k j v h hj
    rw [splice_1 (by rw [triL_len]; simp only [List.length_cons] at h ⊢; omega)]
    cases k with
    | zero =>
      match j, hj with
      | 0, _ => rfl
      | 1, _ => rfl
      | 2, _ => rfl
    | succ k =>
      have h2 := ih k j v (by simpa using h) hj
      rw [splice_1 (by rw [triL_len]; simp only [List.length_cons] at h; omega)] at h2
      have e : (k + 1) * 3 + j = (k * 3 + j) + 3 := by omega
      rw [e]
      show c.row ++ (triL cs).set (k * 3 + j) (LV.val (.int .i64 v)) = c.row ++ triL (cs.set k (cellSet (cs.getD k default) j v))
      rw [h2]

theorem memK_cell {M : Mem} {t k j : Nat} {cs : List Cell} {v : Int} {A : Mem → Prop} (ht : Live M t (.row (triL cs) true 3)) (hk : k < cs.length) (hj : j < 3)
    (hA : ∀ M', M'.length = M.length → Live M' t (.row (triL (cs.set k (cellSet (cs.getD k default) j v))) true 3) → (∀ u, u ≠ t → u < M.length → M'[u]? = M[u]?) → A M') :
    memK (setCells M t (k * 3 + j) [.val (.int .i64 v)]) A := by
  rw [ht.setC, if_pos (by rw [triL_len]; simp; omega), triL_set1 _ _ _ _ hk hj]
  exact hA _ (by simp) ht.set_eq fun u hu _ => List.getElem?_set_ne (fun e => hu e.symm)

theorem h_markIntA3S {v : LV} {l : List Cell} {k : Int} {M : Mem} (h : SlC M v l) (hn : l.length ≤ 1000000000) (hk : 0 ≤ k ∧ k ≤ 1000000000) :
    CallsR PG F.laws_markIntA3S [v, .I k] M (Marked3 M v k l.length) := by
  refine callsR_run K.laws_markIntA3S rfl ?_
  rcases h with ⟨rfl, rfl⟩ | ⟨t, ex, rfl, h⟩
  · simp (disch := omega) only [C.laws_markIntA3S, ↓SXd, SXu, slBounds, ↓sop, ↓aop, ↓reduceIte, LV.cells, AOp.dst, LV.I, LV.B, LV.U, LV.S, LV.nil, Nat.reduceEqDiff, Nat.reduceAdd, Nat.reduceMul, Nat.reduceSub, Nat.reduceLeDiff, Nat.reduceBEq, Nat.reduceDiv, Nat.reduceMod, Int.reduceToNat, Int.reduceLT, Int.reduceLE, Int.reduceAdd, Int.reduceSub, Int.reduceMul, Int.reduceEq, Int.reduceNeg, reduceCtorEq, resV, resAll, ARes.ev, LV.flat, ite_true, ite_false, exists_eq_left', exists_eq_left, keyOf, implies_true, fillC, capOf]
    refine ev_loop (fun m fr M' => M' = M ∧ fr 0 = .nil ∧ fr 1 = .I k ∧ fr 5 = .I 0) 0 ⟨rfl, rfl, rfl, rfl⟩ ?_
    rintro m fr M' ⟨rfl, h0, h1, h5⟩
    simp (disch := omega) only [h0, h1, h5, ↓SXd, SXu, slBounds, ↓sop, ↓aop, ↓reduceIte, LV.cells, AOp.dst, LV.I, LV.B, LV.U, LV.S, LV.nil, Nat.reduceEqDiff, Nat.reduceAdd, Nat.reduceMul, Nat.reduceSub, Nat.reduceLeDiff, Nat.reduceBEq, Nat.reduceDiv, Nat.reduceMod, Int.reduceToNat, Int.reduceLT, Int.reduceLE, Int.reduceAdd, Int.reduceSub, Int.reduceMul, Int.reduceEq, Int.reduceNeg, reduceCtorEq, resV, resAll, ARes.ev, LV.flat, ite_true, ite_false, exists_eq_left', exists_eq_left, keyOf, implies_true, fillC, capOf]
    exact ⟨eqI (by simp), (SlC.nil (N := M') : SlC M' LV.nil []), rfl, fun _ _ => rfl⟩
  · simp (disch := omega) only [C.laws_markIntA3S, ↓SXd, SXu, slBounds, ↓sop, ↓aop, ↓reduceIte, LV.cells, AOp.dst, LV.I, LV.B, LV.U, LV.S, LV.nil, Nat.reduceEqDiff, Nat.reduceAdd, Nat.reduceMul, Nat.reduceSub, Nat.reduceLeDiff, Nat.reduceBEq, Nat.reduceDiv, Nat.reduceMod, Int.reduceToNat, Int.reduceLT, Int.reduceLE, Int.reduceAdd, Int.reduceSub, Int.reduceMul, Int.reduceEq, Int.reduceNeg, reduceCtorEq, resV, resAll, ARes.ev, LV.flat, ite_true, ite_false, exists_eq_left', exists_eq_left, keyOf, implies_true, fillC, capOf]
    refine ev_loop (fun m fr M' => ∃ i : Nat, i + m = l.length ∧ M'.length = M.length ∧ Live M' t (.row (triL (marks3 k i ++ (l ++ ex).drop i)) true 3) ∧ (∀ u, u ≠ t → M'[u]? = M[u]?) ∧ fr 0 = .ref t 0 l.length ∧ fr 1 = .I (k + 3 * i) ∧ fr 5 = .I i) l.length
      ⟨0, by omega, rfl, by simpa [marks3] using h, fun _ _ => rfl, rfl, eqI (by omega), rfl⟩ ?_
    rintro m fr M' ⟨i, hi, hlen, hlive, hoff, h0, h1, h5⟩
    simp (disch := omega) only [h0, h1, h5, ↓SXd, SXu, slBounds, ↓sop, ↓aop, ↓reduceIte, LV.cells, AOp.dst, LV.I, LV.B, LV.U, LV.S, LV.nil, Nat.reduceEqDiff, Nat.reduceAdd, Nat.reduceMul, Nat.reduceSub, Nat.reduceLeDiff, Nat.reduceBEq, Nat.reduceDiv, Nat.reduceMod, Int.reduceToNat, Int.reduceLT, Int.reduceLE, Int.reduceAdd, Int.reduceSub, Int.reduceMul, Int.reduceEq, Int.reduceNeg, reduceCtorEq, resV, resAll, ARes.ev, LV.flat, ite_true, ite_false, exists_eq_left', exists_eq_left, keyOf, implies_true, fillC, capOf]
    refine condC_dec (fun hlt => ?_) (fun hlt => ?_)
    · simp (disch := omega) only [h0, h1, h5, ↓SXd, SXu, slBounds, ↓sop, ↓aop, ↓reduceIte, LV.cells, AOp.dst, LV.I, LV.B, LV.U, LV.S, LV.nil, Nat.reduceEqDiff, Nat.reduceAdd, Nat.reduceMul, Nat.reduceSub, Nat.reduceLeDiff, Nat.reduceBEq, Nat.reduceDiv, Nat.reduceMod, Int.reduceToNat, Int.reduceLT, Int.reduceLE, Int.reduceAdd, Int.reduceSub, Int.reduceMul, Int.reduceEq, Int.reduceNeg, reduceCtorEq, resV, resAll, ARes.ev, LV.flat, ite_true, ite_false, exists_eq_left', exists_eq_left, keyOf, implies_true, fillC, capOf]
      generalize hds : marks3 k i ++ (l ++ ex).drop i = ds at hlive
      have hdl : i < ds.length := by rw [← hds]; simp [marks3_len]; omega
      refine ev_loop (fun m2 fr N => ∃ j : Nat, j + m2 = 3 ∧ N.length = M.length ∧ Live N t (.row (triL (ds.set i ⟨if 0 < j then k + 3 * i else (ds.getD i default).a, if 1 < j then k + 3 * i + 1 else (ds.getD i default).b, if 2 < j then k + 3 * i + 2 else (ds.getD i default).c⟩)) true 3) ∧ (∀ u, u ≠ t → N[u]? = M[u]?) ∧
        fr 0 = .ref t 0 l.length ∧ fr 1 = .I (k + 3 * i + j) ∧ fr 5 = .I i ∧ fr 6 = .I j) 3
        ⟨0, rfl, hlen, by
          simp only [Nat.lt_irrefl, Nat.not_lt_zero, if_false]
          rw [show (ds.set i ⟨(ds.getD i default).a, (ds.getD i default).b, (ds.getD i default).c⟩) = ds from by
            rw [cell_eta]; simp [hdl]]
          exact hlive, hoff, h0, h1.trans (eqI (by omega)), h5, rfl⟩ ?_
      rintro m2 fr N ⟨j, hj, hlen, hlive, hoff, h0, h1, h5, h6⟩
      simp (disch := omega) only [h0, h1, h5, h6, ↓SXd, SXu, slBounds, ↓sop, ↓aop, ↓reduceIte, LV.cells, AOp.dst, LV.I, LV.B, LV.U, LV.S, LV.nil, Nat.reduceEqDiff, Nat.reduceAdd, Nat.reduceMul, Nat.reduceSub, Nat.reduceLeDiff, Nat.reduceBEq, Nat.reduceDiv, Nat.reduceMod, Int.reduceToNat, Int.reduceLT, Int.reduceLE, Int.reduceAdd, Int.reduceSub, Int.reduceMul, Int.reduceEq, Int.reduceNeg, reduceCtorEq, resV, resAll, ARes.ev, LV.flat, ite_true, ite_false, exists_eq_left', exists_eq_left, keyOf, implies_true, fillC, capOf]
      refine condC_dec (fun hlt2 => ?_) (fun hlt2 => ?_)
      · simp (disch := omega) only [h0, h1, h5, h6, ↓SXd, SXu, slBounds, ↓sop, ↓aop, ↓reduceIte, LV.cells, AOp.dst, LV.I, LV.B, LV.U, LV.S, LV.nil, Nat.reduceEqDiff, Nat.reduceAdd, Nat.reduceMul, Nat.reduceSub, Nat.reduceLeDiff, Nat.reduceBEq, Nat.reduceDiv, Nat.reduceMod, Int.reduceToNat, Int.reduceLT, Int.reduceLE, Int.reduceAdd, Int.reduceSub, Int.reduceMul, Int.reduceEq, Int.reduceNeg, reduceCtorEq, resV, resAll, ARes.ev, LV.flat, ite_true, ite_false, exists_eq_left', exists_eq_left, keyOf, implies_true, fillC, capOf]
        refine memK_cell hlive (by simpa using hdl) (by omega) fun N' l1 l2 l3 => ?_
        simp (disch := omega) only [h0, h1, h5, h6, ↓SXd, SXu, slBounds, ↓sop, ↓aop, ↓reduceIte, LV.cells, AOp.dst, LV.I, LV.B, LV.U, LV.S, LV.nil, Nat.reduceEqDiff, Nat.reduceAdd, Nat.reduceMul, Nat.reduceSub, Nat.reduceLeDiff, Nat.reduceBEq, Nat.reduceDiv, Nat.reduceMod, Int.reduceToNat, Int.reduceLT, Int.reduceLE, Int.reduceAdd, Int.reduceSub, Int.reduceMul, Int.reduceEq, Int.reduceNeg, reduceCtorEq, resV, resAll, ARes.ev, LV.flat, ite_true, ite_false, exists_eq_left', exists_eq_left, keyOf, implies_true, fillC, capOf]
        refine ⟨m2 - 1, by omega, j + 1, by omega, by omega, ?_, fun u hu => by
          rcases Nat.lt_or_ge u N.length with h2 | h2
          · rw [l3 u hu h2]; exact hoff u hu
          · rw [List.getElem?_eq_none (by omega), List.getElem?_eq_none (by omega)], h0, eqI (by omega), h5, eqI (natI _)⟩
        rw [List.set_set, getD_set, if_pos ⟨rfl, hdl⟩] at l2
        have hj3 : j = 0 ∨ j = 1 ∨ j = 2 := by omega
        rcases hj3 with rfl | rfl | rfl
        · simpa [cellSet] using l2
        · simpa [cellSet] using l2
        · simpa [cellSet] using l2
      · simp (disch := omega) only [h0, h1, h5, h6, ↓SXd, SXu, slBounds, ↓sop, ↓aop, ↓reduceIte, LV.cells, AOp.dst, LV.I, LV.B, LV.U, LV.S, LV.nil, Nat.reduceEqDiff, Nat.reduceAdd, Nat.reduceMul, Nat.reduceSub, Nat.reduceLeDiff, Nat.reduceBEq, Nat.reduceDiv, Nat.reduceMod, Int.reduceToNat, Int.reduceLT, Int.reduceLE, Int.reduceAdd, Int.reduceSub, Int.reduceMul, Int.reduceEq, Int.reduceNeg, reduceCtorEq, resV, resAll, ARes.ev, LV.flat, ite_true, ite_false, exists_eq_left', exists_eq_left, keyOf, implies_true, fillC, capOf]
        have : j = 3 := by omega
        subst this
        refine ⟨m - 1, by omega, i + 1, by omega, hlen, ?_, hoff, h0, h1.trans (eqI (by omega)), eqI (natI _)⟩
        rw [← hds] at hlive
        simp only [show (0 < 3) = True by simp, show (1 < 3) = True by simp, show (2 < 3) = True by simp, if_true] at hlive
        rw [marks3_step (by simp; omega)] at hlive
        exact hlive
    · simp (disch := omega) only [h0, h1, h5, ↓SXd, SXu, slBounds, ↓sop, ↓aop, ↓reduceIte, LV.cells, AOp.dst, LV.I, LV.B, LV.U, LV.S, LV.nil, Nat.reduceEqDiff, Nat.reduceAdd, Nat.reduceMul, Nat.reduceSub, Nat.reduceLeDiff, Nat.reduceBEq, Nat.reduceDiv, Nat.reduceMod, Int.reduceToNat, Int.reduceLT, Int.reduceLE, Int.reduceAdd, Int.reduceSub, Int.reduceMul, Int.reduceEq, Int.reduceNeg, reduceCtorEq, resV, resAll, ARes.ev, LV.flat, ite_true, ite_false, exists_eq_left', exists_eq_left, keyOf, implies_true, fillC, capOf]
      have : i = l.length := by omega
      subst this
      refine ⟨rfl, .inr ⟨t, ex, by rw [marks3_len], ?_⟩, hlen, fun u hu => hoff u hu⟩
      have e : (l ++ ex).drop l.length = ex := by simp
      rw [e] at hlive; exact hlive

theorem h_markHeap {x y z : Int} {v : LV} {l : List Cell} {k : Int} {M : Mem} (h : SlC M v l) (hn : l.length ≤ 1000000000) (hk : 0 ≤ k ∧ k ≤ 1000000000) :
    CallsR PG F.laws_markHeap [.agg [.I x, .I y, .I z, v], .I k] M fun r N => r = .I (k + 3 * l.length) ∧ SlC N v (marks3 k l.length) ∧ M.length ≤ N.length ∧ ∀ u, u < M.length → Off v u → N[u]? = M[u]? := by
  refine callsR_run K.laws_markHeap rfl ?_
  simp (disch := omega) only [C.laws_markHeap, ↓SXd, SXu, slBounds, ↓sop, ↓aop, ↓reduceIte, LV.cells, AOp.dst, LV.I, LV.B, LV.U, LV.S, LV.nil, Nat.reduceEqDiff, Nat.reduceAdd, Nat.reduceMul, Nat.reduceSub, Nat.reduceLeDiff, Nat.reduceBEq, Nat.reduceDiv, Nat.reduceMod, Int.reduceToNat, Int.reduceLT, Int.reduceLE, Int.reduceAdd, Int.reduceSub, Int.reduceMul, Int.reduceEq, Int.reduceNeg, reduceCtorEq, resV, resAll, ARes.ev, LV.flat, ite_true, ite_false, exists_eq_left', exists_eq_left, keyOf, implies_true, fillC, capOf]
  refine callR_of (h_markIntA3S (h.pre (Pre.app _ _)) hn hk) ?_
  rintro _ _ ⟨rfl, h1, h2, h3⟩
  simp (disch := omega) only [↓SXd, SXu, slBounds, ↓sop, ↓aop, ↓reduceIte, LV.cells, AOp.dst, LV.I, LV.B, LV.U, LV.S, LV.nil, Nat.reduceEqDiff, Nat.reduceAdd, Nat.reduceMul, Nat.reduceSub, Nat.reduceLeDiff, Nat.reduceBEq, Nat.reduceDiv, Nat.reduceMod, Int.reduceToNat, Int.reduceLT, Int.reduceLE, Int.reduceAdd, Int.reduceSub, Int.reduceMul, Int.reduceEq, Int.reduceNeg, reduceCtorEq, resV, resAll, ARes.ev, LV.flat, ite_true, ite_false, exists_eq_left', exists_eq_left, keyOf, implies_true, fillC, capOf]
  exact ⟨rfl, h1, by rw [h2]; simp, fun u hu ho => by rw [h3 u ho]; exact List.getElem?_append_left hu⟩
end Go.Ab

/- Memories of which one slice's block may have changed; what laws are told of results. -/
namespace Go.Ab
open Go
set_option linter.unusedSimpArgs false
set_option linter.unusedVariables false

/-- What M holds, N holds, but for the block of v. -/
def PreV (v : LV) (M N : Mem) : Prop := M.length ≤ N.length ∧ ∀ u, u < M.length → Off v u → N[u]? = M[u]?
/-- The slices v and w have not the same block. -/
def Apart (v w : LV) : Prop := ∀ t o n, w = .ref t o n → Off v t
theorem PreV.live {v : LV} {M N : Mem} {t : Nat} {b : Blk} (hp : PreV v M N) (h : Live M t b) (ho : Off v t) : Live N t b := by unfold Live; rw [hp.2 t h.lt ho]; exact h
theorem PreV.has {v : LV} {M N : Mem} {t o : Nat} {vs : List LV} (hp : PreV v M N) (h : Has M t o vs) (ho : Off v t) : Has N t o vs := by
  obtain ⟨row, h1, h2⟩ := h
  refine ⟨row, ?_, h2⟩
  unfold getRow at *
  rw [hp.2 t (row_lt (M := M) (by unfold getRow; exact h1)) ho]; exact h1
theorem PreV.slC {v w : LV} {M N : Mem} {l : List Cell} (hp : PreV v M N) (h : SlC M w l) (ho : Apart v w) : SlC N w l := by
  rcases h with h | ⟨t, ex, h1, h2⟩
  · exact .inl h
  · exact .inr ⟨t, ex, h1, hp.live h2 (ho _ _ _ h1)⟩
theorem Marked.pre {M N : Mem} {v r : LV} {k : Int} {n : Nat} (h : Marked M v k n r N) : PreV v M N := ⟨by rw [h.2.2.1]; exact Nat.le_refl _, fun u _ ho => h.2.2.2 u ho⟩
theorem Marked3.pre {M N : Mem} {v r : LV} {k : Int} {n : Nat} (h : Marked3 M v k n r N) : PreV v M N := ⟨by rw [h.2.2.1]; exact Nat.le_refl _, fun u _ ho => h.2.2.2 u ho⟩
theorem PreV.pre {M0 M N : Mem} {v : LV} (hp : PreV v M N) (h : Pre M0 M) (hv : Newer M0 v) : Pre M0 N := ⟨Nat.le_trans h.1 hp.1, fun u hu => by rw [hp.2 u (Nat.lt_of_lt_of_le hu h.1) (hv u hu)]; exact h.2 u hu⟩
/-- The block of the slice lies in M. -/
def Older (M : Mem) (v : LV) : Prop := ∀ t o n, v = .ref t o n → t < M.length
theorem SlI.older {M : Mem} {v : LV} {l : List Int} (h : SlI M v l) : Older M v := fun t o n e => by
  rcases h with ⟨rfl, _⟩ | ⟨t', ex, h1, h2⟩
  · cases e
  · rw [h1] at e; cases e; exact h2.lt
theorem SlC.older {M : Mem} {v : LV} {l : List Cell} (h : SlC M v l) : Older M v := fun t o n e => by
  rcases h with ⟨rfl, _⟩ | ⟨t', ex, h1, h2⟩
  · cases e
  · rw [h1] at e; cases e; exact h2.lt
theorem CellsV.older {M : Mem} {v : LV} {l : List Cell} (h : CellsV M v l) : Older M v := fun t o n e => by
  rcases h with ⟨rfl, _⟩ | ⟨t', o', h1, h2⟩
  · cases e
  · rw [h1] at e; cases e; exact h2.lt
theorem IntsV.older {M : Mem} {v : LV} {l : List Int} (h : IntsV M v l) : Older M v := fun t o n e => by
  rcases h with ⟨rfl, _⟩ | ⟨t', o', h1, h2⟩
  · cases e
  · rw [h1] at e; cases e; exact h2.lt
/-- A newer slice is apart from an older one, and the other way. -/
theorem Newer.apart {M : Mem} {v w : LV} (hv : Newer M v) (hw : Older M w) : Apart v w := fun t o n e => hv t (hw t o n e)
theorem Apart.symm {v w : LV} (h : Apart v w) : Apart w v := fun t o n e => by
  cases w with
  | ref t' o' n' => have := h t' o' n' rfl; subst e; exact fun e => this e.symm
  | _ => trivial
theorem Newer.mono {M N : Mem} {v : LV} (h : Newer N v) (hp : Pre M N) : Newer M v := fun u hu => h u (Nat.lt_of_lt_of_le hu hp.1)

/-- A list of numbers, or none, and whether there is one. -/
def IntsRes (M : Mem) (r : Option (List Int)) (v : LV) (N : Mem) : Prop := ∃ w, v = .tup [w, .B r.isSome] ∧ SlI N w (r.getD []) ∧ Newer M w ∧ Pre M N
/-- A list of cells, or none, and whether there is one. -/
def CellsRes (M : Mem) (r : Option (List Cell)) (v : LV) (N : Mem) : Prop := ∃ w, v = .tup [w, .B r.isSome] ∧ SlC N w (r.getD []) ∧ Newer M w ∧ Pre M N
/-- A call that leaves one new block: where it lies is forgotten. -/
theorem callN_of {P : Program} {f : FuncId} {args : List LV} {M : Mem} {n e : Nat} {vs : List LV} {A : LV → Mem → Prop} (h : CallsTo P f args M (.ref M.length 0 n) (M ++ [some (.row vs true e)]))
    (hA : ∀ (t : Nat) (N : Mem), M.length ≤ t → Pre M N → Live N t (.row vs true e) → A (.ref t 0 n) N) : callK P f args M A := callK_of h (hA _ _ (Nat.le_refl _) (Pre.app _ _) Live.new)

/-- The same for a heap. -/
theorem callH_of {P : Program} {f : FuncId} {args : List LV} {M : Mem} {n e : Nat} {a b c : LV} {vs : List LV} {A : LV → Mem → Prop} (h : CallsTo P f args M (.agg [a, b, c, .ref M.length 0 n]) (M ++ [some (.row vs true e)]))
    (hA : ∀ (t : Nat) (N : Mem), M.length ≤ t → Pre M N → Live N t (.row vs true e) → A (.agg [a, b, c, .ref t 0 n]) N) : callK P f args M A := callK_of h (hA _ _ (Nat.le_refl _) (Pre.app _ _) Live.new)
theorem Live.tri {M : Mem} {t k : Nat} {w : Bool} {cs ex : List Cell} (h : Live M t (.row (triL (cs ++ ex)) w 3)) (hk : k < cs.length) : getCells M t (k * 3) 3 = some (cs.getD k default).row := by
  rw [triL_append] at h
  have := Tri.get (cs := cs) h.hasL hk
  rwa [Nat.zero_add] at this
theorem Live.tri0 {M : Mem} {t k : Nat} {w : Bool} {cs : List Cell} (h : Live M t (.row (triL cs) w 3)) (hk : k < cs.length) : getCells M t (k * 3) 3 = some (cs.getD k default).row := Live.tri (ex := []) (by simpa using h) hk
end Go.Ab

/- Contracts: marks that are held, on lists of cells and on heaps. -/
namespace Go.Ab
open Go
set_option linter.unusedSimpArgs false
set_option linter.unusedVariables false

theorem h_heldIntA3S {v : LV} {n : Nat} {k : Int} {M : Mem} (h : CellsV M v (marks3 k n)) (hn : n ≤ 1000000000) (hk : 0 ≤ k ∧ k ≤ 1000000000) :
    CallsTo PG F.laws_heldIntA3S [v, .I k] M (.I (k + 3 * n)) M := by
  refine calls_run K.laws_heldIntA3S rfl ?_
  have hlen : lenV v = some (n : Int) := by
    rcases h with ⟨rfl, h⟩ | ⟨t, o, rfl, _⟩
    · have := congrArg List.length h; rw [marks3_len] at this; simp at this; subst this; rfl
    · rw [marks3_len]; rfl
  simp (disch := omega) only [C.laws_heldIntA3S, ↓SXd, SXu, slBounds, ↓sop, ↓aop, ↓reduceIte, LV.cells, AOp.dst, LV.I, LV.B, LV.U, LV.S, LV.nil, Nat.reduceEqDiff, Nat.reduceAdd, Nat.reduceMul, Nat.reduceSub, Nat.reduceLeDiff, Nat.reduceBEq, Nat.reduceDiv, Nat.reduceMod, Int.reduceToNat, Int.reduceLT, Int.reduceLE, Int.reduceAdd, Int.reduceSub, Int.reduceMul, Int.reduceEq, Int.reduceNeg, reduceCtorEq, resV, resAll, ARes.ev, LV.flat, ite_true, ite_false, exists_eq_left', exists_eq_left, keyOf, implies_true, fillC, capOf]
  refine ev_loop (fun m fr M' => ∃ i : Nat, i + m = n ∧ M' = M ∧ fr 0 = v ∧ fr 1 = .I (k + 3 * i) ∧ fr 5 = .I i) n ⟨0, by omega, rfl, rfl, eqI (by omega), rfl⟩ ?_
  rintro m fr M' ⟨i, hi, rfl, h0, h1, h5⟩
  simp (disch := omega) only [h0, h1, h5, hlen, ↓SXd, SXu, slBounds, ↓sop, ↓aop, ↓reduceIte, LV.cells, AOp.dst, LV.I, LV.B, LV.U, LV.S, LV.nil, Nat.reduceEqDiff, Nat.reduceAdd, Nat.reduceMul, Nat.reduceSub, Nat.reduceLeDiff, Nat.reduceBEq, Nat.reduceDiv, Nat.reduceMod, Int.reduceToNat, Int.reduceLT, Int.reduceLE, Int.reduceAdd, Int.reduceSub, Int.reduceMul, Int.reduceEq, Int.reduceNeg, reduceCtorEq, resV, resAll, ARes.ev, LV.flat, ite_true, ite_false, exists_eq_left', exists_eq_left, keyOf, implies_true, fillC, capOf]
  refine condC_dec (fun hlt => ?_) (fun hlt => ?_)
  · rcases h with ⟨_, h⟩ | ⟨t, o, rfl, h⟩
    · have := congrArg List.length h; rw [marks3_len] at this; simp at this; omega
    · have hml := marks3_len k n
      have h0' : fr 0 = .ref t o n := by rw [h0, hml]
      have hg := fun j (hj : j < 3) => Tri.get1 h (k := i) (j := j) (by omega) hj
      rw [marks3_get (by omega)] at hg
      simp (disch := omega) only [h0', h1, h5, ↓SXd, SXu, slBounds, ↓sop, ↓aop, ↓reduceIte, LV.cells, AOp.dst, LV.I, LV.B, LV.U, LV.S, LV.nil, Nat.reduceEqDiff, Nat.reduceAdd, Nat.reduceMul, Nat.reduceSub, Nat.reduceLeDiff, Nat.reduceBEq, Nat.reduceDiv, Nat.reduceMod, Int.reduceToNat, Int.reduceLT, Int.reduceLE, Int.reduceAdd, Int.reduceSub, Int.reduceMul, Int.reduceEq, Int.reduceNeg, reduceCtorEq, resV, resAll, ARes.ev, LV.flat, ite_true, ite_false, exists_eq_left', exists_eq_left, keyOf, implies_true, fillC, capOf]
      refine ev_loop (fun m2 fr N => ∃ j : Nat, j + m2 = 3 ∧ N = M' ∧ fr 0 = .ref t o n ∧ fr 1 = .I (k + 3 * i + j) ∧ fr 5 = .I i ∧ fr 6 = .I j) 3 ⟨0, rfl, rfl, h0', h1.trans (eqI (by omega)), h5, rfl⟩ ?_
      rintro m2 fr N ⟨j, hj, rfl, h0, h1, h5, h6⟩
      simp (disch := omega) only [h0, h1, h5, h6, ↓SXd, SXu, slBounds, ↓sop, ↓aop, ↓reduceIte, LV.cells, AOp.dst, LV.I, LV.B, LV.U, LV.S, LV.nil, Nat.reduceEqDiff, Nat.reduceAdd, Nat.reduceMul, Nat.reduceSub, Nat.reduceLeDiff, Nat.reduceBEq, Nat.reduceDiv, Nat.reduceMod, Int.reduceToNat, Int.reduceLT, Int.reduceLE, Int.reduceAdd, Int.reduceSub, Int.reduceMul, Int.reduceEq, Int.reduceNeg, reduceCtorEq, resV, resAll, ARes.ev, LV.flat, ite_true, ite_false, exists_eq_left', exists_eq_left, keyOf, implies_true, fillC, capOf]
      refine condC_dec (fun hlt2 => ?_) (fun hlt2 => ?_)
      · have hj3 : j = 0 ∨ j = 1 ∨ j = 2 := by omega
        have hgj := hg j (by omega)
        rcases hj3 with rfl | rfl | rfl
        all_goals
          simp only [Cell.row, List.getElem?_cons_zero, List.getElem?_cons_succ, Nat.add_zero] at hgj
          simp (disch := omega) only [h0, h1, h5, h6, hgj, ↓SXd, SXu, slBounds, ↓sop, ↓aop, ↓reduceIte, LV.cells, AOp.dst, LV.I, LV.B, LV.U, LV.S, LV.nil, Nat.reduceEqDiff, Nat.reduceAdd, Nat.reduceMul, Nat.reduceSub, Nat.reduceLeDiff, Nat.reduceBEq, Nat.reduceDiv, Nat.reduceMod, Int.reduceToNat, Int.reduceLT, Int.reduceLE, Int.reduceAdd, Int.reduceSub, Int.reduceMul, Int.reduceEq, Int.reduceNeg, reduceCtorEq, resV, resAll, ARes.ev, LV.flat, ite_true, ite_false, exists_eq_left', exists_eq_left, keyOf, implies_true, fillC, capOf]
          first
          | exact ⟨m2 - 1, by omega, 1, by omega, rfl, h0, eqI (by omega), h5, rfl⟩
          | exact ⟨m2 - 1, by omega, 2, by omega, rfl, h0, eqI (by omega), h5, rfl⟩
          | exact ⟨m2 - 1, by omega, 3, by omega, rfl, h0, eqI (by omega), h5, rfl⟩
      · simp (disch := omega) only [h0, h1, h5, h6, ↓SXd, SXu, slBounds, ↓sop, ↓aop, ↓reduceIte, LV.cells, AOp.dst, LV.I, LV.B, LV.U, LV.S, LV.nil, Nat.reduceEqDiff, Nat.reduceAdd, Nat.reduceMul, Nat.reduceSub, Nat.reduceLeDiff, Nat.reduceBEq, Nat.reduceDiv, Nat.reduceMod, Int.reduceToNat, Int.reduceLT, Int.reduceLE, Int.reduceAdd, Int.reduceSub, Int.reduceMul, Int.reduceEq, Int.reduceNeg, reduceCtorEq, resV, resAll, ARes.ev, LV.flat, ite_true, ite_false, exists_eq_left', exists_eq_left, keyOf, implies_true, fillC, capOf]
        have : j = 3 := by omega
        subst this
        exact ⟨m - 1, by omega, i + 1, by omega, rfl, by rw [hml]; exact h0, h1.trans (eqI (by omega)), eqI (natI _)⟩
  · simp (disch := omega) only [h0, h1, h5, ↓SXd, SXu, slBounds, ↓sop, ↓aop, ↓reduceIte, LV.cells, AOp.dst, LV.I, LV.B, LV.U, LV.S, LV.nil, Nat.reduceEqDiff, Nat.reduceAdd, Nat.reduceMul, Nat.reduceSub, Nat.reduceLeDiff, Nat.reduceBEq, Nat.reduceDiv, Nat.reduceMod, Int.reduceToNat, Int.reduceLT, Int.reduceLE, Int.reduceAdd, Int.reduceSub, Int.reduceMul, Int.reduceEq, Int.reduceNeg, reduceCtorEq, resV, resAll, ARes.ev, LV.flat, ite_true, ite_false, exists_eq_left', exists_eq_left, keyOf, implies_true, fillC, capOf]
    rw [show i = n by omega]
    exact cmp_drop0 rfl

theorem h_heldHeap {x y z : Int} {v : LV} {n : Nat} {k : Int} {M : Mem} (h : CellsV M v (marks3 k n)) (hn : n ≤ 1000000000) (hk : 0 ≤ k ∧ k ≤ 1000000000) :
    CallsTo PG F.laws_heldHeap [.agg [.I x, .I y, .I z, v], .I k] M (.I (k + 3 * n)) M := by
  have hv : v.cells = some [v] := by
    rcases h with ⟨rfl, _⟩ | ⟨t, o, rfl, _⟩ <;> rfl
  have hneg : ¬ (k + 3 * (n : Int) < 0) := by omega
  refine calls_run K.laws_heldHeap rfl ?_
  simp (disch := omega) only [C.laws_heldHeap, ↓SXd, SXu, slBounds, ↓sop, ↓aop, ↓reduceIte, LV.cells, AOp.dst, LV.I, LV.B, LV.U, LV.S, LV.nil, Nat.reduceEqDiff, Nat.reduceAdd, Nat.reduceMul, Nat.reduceSub, Nat.reduceLeDiff, Nat.reduceBEq, Nat.reduceDiv, Nat.reduceMod, Int.reduceToNat, Int.reduceLT, Int.reduceLE, Int.reduceAdd, Int.reduceSub, Int.reduceMul, Int.reduceEq, Int.reduceNeg, reduceCtorEq, resV, resAll, ARes.ev, LV.flat, ite_true, ite_false, exists_eq_left', exists_eq_left, keyOf, implies_true, fillC, capOf]
  refine callK_of (h_heldIntA3S (h.pre (Pre.app _ _)) hn hk) ?_
  simp (disch := omega) only [hneg, ↓SXd, SXu, slBounds, ↓sop, ↓aop, ↓reduceIte, LV.cells, AOp.dst, LV.I, LV.B, LV.U, LV.S, LV.nil, Nat.reduceEqDiff, Nat.reduceAdd, Nat.reduceMul, Nat.reduceSub, Nat.reduceLeDiff, Nat.reduceBEq, Nat.reduceDiv, Nat.reduceMod, Int.reduceToNat, Int.reduceLT, Int.reduceLE, Int.reduceAdd, Int.reduceSub, Int.reduceMul, Int.reduceEq, Int.reduceNeg, reduceCtorEq, resV, resAll, ARes.ev, LV.flat, ite_true, ite_false, exists_eq_left', exists_eq_left, keyOf, implies_true, fillC, capOf]
  exact cmp_drop rfl
end Go.Ab

/- What laws are told of heaps as results. -/
namespace Go.Ab
open Go

structure Hp where
  x : Int
  y : Int
  z : Int
  cs : List Cell
def Hp.none : Hp := ⟨0, 0, 0, []⟩
abbrev Hp.row (r : Hp) (w : LV) : Blk := .row [.I r.x, .I r.y, .I r.z, w] true 0
/-- A heap, or the one of all zeros, what else there is, and whether there is one. -/
def HeapRes (M : Mem) (r : Option Hp) (ext : List LV) (v : LV) (N : Mem) : Prop :=
  ∃ w, v = .tup (.agg [.I (r.getD Hp.none).x, .I (r.getD Hp.none).y, .I (r.getD Hp.none).z, w] :: (ext ++ [.B r.isSome])) ∧ SlC N w (r.getD Hp.none).cs ∧ Newer M w ∧ Pre M N
theorem Older.off {M : Mem} {v : LV} {u : Nat} (h : Older M v) (hu : M.length ≤ u) : Off v u := by
  cases v with
  | ref t o n => have := h t o n rfl; show u ≠ t; omega
  | _ => trivial
end Go.Ab

/- The abstract code of some functions (written by a program of mine from the translation, by way of prepF). -/
namespace Go.Ab.C
open Go.Ab
def laws_markShadow : AFn :=
  ⟨2, 18, [.tmp 4],
    .seq (.ops [(none, .box 2 (.t 0)),
       (none, .mv 4 (.c (.I 0)))])
    (.seq (.ops [(none, .fieldAddr 5 (.t 2) 3),
        (none, .load1 6 (.t 5)),
        (none, .mv 7 (.t 1)),
        (none, .call (some 8) F.laws_markIntS [(.t 6), (.t 7)]),
        (none, .mv 1 (.t 8))])
     (.seq (.ops [(none, .fieldAddr 9 (.t 2) 4),
         (none, .load1 10 (.t 9)),
         (none, .mv 11 (.t 1)),
         (none, .call (some 12) F.laws_markIntS [(.t 10), (.t 11)]),
         (none, .mv 1 (.t 12))])
      (.seq (.ops [(none, .fieldAddr 13 (.t 2) 5),
          (none, .load1 14 (.t 13)),
          (none, .mv 15 (.t 1)),
          (none, .call (some 16) F.laws_markIntS [(.t 14), (.t 15)]),
          (none, .mv 1 (.t 16))])
       (.seq (.ops [(none, .mv 17 (.t 1)),
           (none, .mv 4 (.t 17))])
        (.ret)))))⟩
end Go.Ab.C

/- That the program has this code. -/
namespace Go.Ab.K
open Go Go.Ab
theorem laws_markShadow : prepF Go.Proofs.Try.prog F.laws_markShadow = some C.laws_markShadow := by kernel_rfl
end Go.Ab.K

/- The abstract code of some functions (written by a program of mine from the translation, by way of prepF). -/
namespace Go.Ab.C
open Go.Ab
def laws_szIntS : AFn :=
  ⟨2, 12, [.tmp 4],
    .seq (.ops [(none, .mv 4 (.c (.I 0)))])
    (.seq (.ops [(none, .mv 5 (.t 1)),
        (none, .mv 6 (.t 0)),
        (none, .len 7 (.t 6)),
        (none, .bin 8 .sub (.t 5) (.t 7)),
        (none, .mv 1 (.t 8))])
     (.seq (.seq (.ops [(none, .mv 9 (.t 1)),
          (none, .bin 10 .lss (.t 9) (.c (.I 0)))])
       (.cond (.t 10) (.seq (.ops [(none, .mv 4 (.c (.I (-1))))])
         (.ret))
        (.skip)))
      (.seq (.ops [(none, .mv 11 (.t 1)),
          (none, .mv 4 (.t 11))])
       (.ret))))⟩
def laws_toIntS : AFn :=
  ⟨1, 22, [.tmp 2],
    .seq (.ops [(none, .mv 2 (.c .nil))])
    (.seq (.ops [(none, .mv 5 (.t 0)),
        (none, .len 6 (.t 5)),
        (none, .mksl 7 1 8 [(.I 0)] (.t 6) (.t 6)),
        (none, .mv 3 (.t 7))])
     (.seq (.seq (.ops [(none, .mv 4 (.c (.I 0)))])
       (.block 0 (.loop (.seq (.seq (.ops [(none, .mv 8 (.t 4)),
              (none, .mv 9 (.t 0)),
              (none, .len 10 (.t 9)),
              (none, .bin 11 .lss (.t 8) (.t 10))])
           (.cond (.t 11) (.skip)
            (.exit 0)))
          (.seq (.block 1 (.ops [(none, .mv 14 (.t 3)),
               (none, .mv 15 (.t 4)),
               (none, .mv 16 (.t 0)),
               (none, .mv 17 (.t 4)),
               (none, .idxS 18 1 (.t 16) (.t 17)),
               (none, .load1 19 (.t 18)),
               (none, .idxS 20 1 (.t 14) (.t 15)),
               (none, .store 1 (.t 20) (.t 19))]))
           (.ops [(none, .mv 12 (.t 4)),
              (none, .bin 13 .add (.t 12) (.c (.I 1))),
              (none, .mv 4 (.t 13))]))))))
      (.seq (.ops [(none, .mv 21 (.t 3)),
          (none, .mv 2 (.t 21))])
       (.ret))))⟩
def laws_szShadow : AFn :=
  ⟨2, 24, [.tmp 4],
    .seq (.ops [(none, .box 2 (.t 0)),
       (none, .mv 4 (.c (.I 0)))])
    (.seq (.ops [(none, .fieldAddr 5 (.t 2) 3),
        (none, .load1 6 (.t 5)),
        (none, .mv 7 (.t 1)),
        (none, .call (some 8) F.laws_szIntS [(.t 6), (.t 7)]),
        (none, .mv 1 (.t 8))])
     (.seq (.seq (.ops [(none, .mv 9 (.t 1)),
          (none, .bin 10 .lss (.t 9) (.c (.I 0)))])
       (.cond (.t 10) (.seq (.ops [(none, .mv 4 (.c (.I (-1))))])
         (.ret))
        (.skip)))
      (.seq (.ops [(none, .fieldAddr 11 (.t 2) 4),
          (none, .load1 12 (.t 11)),
          (none, .mv 13 (.t 1)),
          (none, .call (some 14) F.laws_szIntS [(.t 12), (.t 13)]),
          (none, .mv 1 (.t 14))])
       (.seq (.seq (.ops [(none, .mv 15 (.t 1)),
            (none, .bin 16 .lss (.t 15) (.c (.I 0)))])
         (.cond (.t 16) (.seq (.ops [(none, .mv 4 (.c (.I (-1))))])
           (.ret))
          (.skip)))
        (.seq (.ops [(none, .fieldAddr 17 (.t 2) 5),
            (none, .load1 18 (.t 17)),
            (none, .mv 19 (.t 1)),
            (none, .call (some 20) F.laws_szIntS [(.t 18), (.t 19)]),
            (none, .mv 1 (.t 20))])
         (.seq (.seq (.ops [(none, .mv 21 (.t 1)),
              (none, .bin 22 .lss (.t 21) (.c (.I 0)))])
           (.cond (.t 22) (.seq (.ops [(none, .mv 4 (.c (.I (-1))))])
             (.ret))
            (.skip)))
          (.seq (.ops [(none, .mv 23 (.t 1)),
              (none, .mv 4 (.t 23))])
           (.ret))))))))⟩
def laws_toShadow : AFn :=
  ⟨1, 26, [.cellN 2 6],
    .seq (.ops [(none, .box 1 (.t 0)),
       (none, .alloc 2 [(.I 0), (.I 0), (.I 0), .nil, .nil, .nil])])
    (.seq (.ops [(none, .alloc 3 [(.I 0), (.I 0), (.I 0), .nil, .nil, .nil])])
     (.seq (.ops [(none, .fieldAddr 4 (.t 1) 0),
         (none, .load1 5 (.t 4)),
         (none, .fieldAddr 6 (.t 3) 0),
         (none, .store 1 (.t 6) (.t 5))])
      (.seq (.ops [(none, .fieldAddr 7 (.t 1) 1),
          (none, .load1 8 (.t 7)),
          (none, .fieldAddr 9 (.t 3) 1),
          (none, .store 1 (.t 9) (.t 8))])
       (.seq (.ops [(none, .fieldAddr 10 (.t 1) 2),
           (none, .load1 11 (.t 10)),
           (none, .fieldAddr 12 (.t 3) 2),
           (none, .store 1 (.t 12) (.t 11))])
        (.seq (.ops [(none, .fieldAddr 13 (.t 1) 3),
            (none, .load1 14 (.t 13)),
            (none, .call (some 15) F.laws_toIntS [(.t 14)]),
            (none, .fieldAddr 16 (.t 3) 3),
            (none, .store 1 (.t 16) (.t 15))])
         (.seq (.ops [(none, .fieldAddr 17 (.t 1) 4),
             (none, .load1 18 (.t 17)),
             (none, .call (some 19) F.laws_toIntS [(.t 18)]),
             (none, .fieldAddr 20 (.t 3) 4),
             (none, .store 1 (.t 20) (.t 19))])
          (.seq (.ops [(none, .fieldAddr 21 (.t 1) 5),
              (none, .load1 22 (.t 21)),
              (none, .call (some 23) F.laws_toIntS [(.t 22)]),
              (none, .fieldAddr 24 (.t 3) 5),
              (none, .store 1 (.t 24) (.t 23))])
           (.seq (.ops [(none, .loadN 25 6 (.t 3)),
               (none, .store 6 (.t 2) (.t 25))])
            (.ret)))))))))⟩
def laws_eqShadow : AFn :=
  ⟨2, 38, [.tmp 4],
    .seq (.ops [(none, .box 2 (.t 0)),
       (none, .box 3 (.t 1)),
       (none, .mv 4 (.c (.B false)))])
    (.seq (.seq (.ops [(none, .fieldAddr 5 (.t 2) 0),
         (none, .load1 6 (.t 5)),
         (none, .fieldAddr 7 (.t 3) 0),
         (none, .load1 8 (.t 7)),
         (none, .bin 9 .neq (.t 6) (.t 8))])
      (.cond (.t 9) (.seq (.ops [(none, .mv 4 (.c (.B false)))])
        (.ret))
       (.skip)))
     (.seq (.seq (.ops [(none, .fieldAddr 10 (.t 2) 1),
          (none, .load1 11 (.t 10)),
          (none, .fieldAddr 12 (.t 3) 1),
          (none, .load1 13 (.t 12)),
          (none, .bin 14 .neq (.t 11) (.t 13))])
       (.cond (.t 14) (.seq (.ops [(none, .mv 4 (.c (.B false)))])
         (.ret))
        (.skip)))
      (.seq (.seq (.ops [(none, .fieldAddr 15 (.t 2) 2),
           (none, .load1 16 (.t 15)),
           (none, .fieldAddr 17 (.t 3) 2),
           (none, .load1 18 (.t 17)),
           (none, .bin 19 .neq (.t 16) (.t 18))])
        (.cond (.t 19) (.seq (.ops [(none, .mv 4 (.c (.B false)))])
          (.ret))
         (.skip)))
       (.seq (.seq (.ops [(none, .fieldAddr 20 (.t 2) 3),
            (none, .load1 21 (.t 20)),
            (none, .fieldAddr 22 (.t 3) 3),
            (none, .load1 23 (.t 22)),
            (none, .call (some 24) F.laws_eqIntS [(.t 21), (.t 23)]),
            (none, .un 25 .not (.t 24))])
         (.cond (.t 25) (.seq (.ops [(none, .mv 4 (.c (.B false)))])
           (.ret))
          (.skip)))
        (.seq (.seq (.ops [(none, .fieldAddr 26 (.t 2) 4),
             (none, .load1 27 (.t 26)),
             (none, .fieldAddr 28 (.t 3) 4),
             (none, .load1 29 (.t 28)),
             (none, .call (some 30) F.laws_eqIntS [(.t 27), (.t 29)]),
             (none, .un 31 .not (.t 30))])
          (.cond (.t 31) (.seq (.ops [(none, .mv 4 (.c (.B false)))])
            (.ret))
           (.skip)))
         (.seq (.seq (.ops [(none, .fieldAddr 32 (.t 2) 5),
              (none, .load1 33 (.t 32)),
              (none, .fieldAddr 34 (.t 3) 5),
              (none, .load1 35 (.t 34)),
              (none, .call (some 36) F.laws_eqIntS [(.t 33), (.t 35)]),
              (none, .un 37 .not (.t 36))])
           (.cond (.t 37) (.seq (.ops [(none, .mv 4 (.c (.B false)))])
             (.ret))
            (.skip)))
          (.seq (.ops [(none, .mv 4 (.c (.B true)))])
           (.ret))))))))⟩
end Go.Ab.C

/- That the program has this code. -/
namespace Go.Ab.K
open Go Go.Ab
theorem laws_szIntS : prepF Go.Proofs.Try.prog F.laws_szIntS = some C.laws_szIntS := by kernel_rfl
theorem laws_toIntS : prepF Go.Proofs.Try.prog F.laws_toIntS = some C.laws_toIntS := by kernel_rfl
theorem laws_szShadow : prepF Go.Proofs.Try.prog F.laws_szShadow = some C.laws_szShadow := by kernel_rfl
theorem laws_toShadow : prepF Go.Proofs.Try.prog F.laws_toShadow = some C.laws_toShadow := by kernel_rfl
theorem laws_eqShadow : prepF Go.Proofs.Try.prog F.laws_eqShadow = some C.laws_eqShadow := by kernel_rfl
end Go.Ab.K

/- Contracts: the laws' helpers on shadows. -/
namespace Go.Ab
open Go
set_option linter.unusedSimpArgs false
set_option linter.unusedVariables false

theorem h_szIntS {t o n : Nat} {left : Int} {M : Mem} (h : 0 ≤ left) (h' : left ≤ 10000000) (hn : n ≤ 9223372036854775807) :
    CallsTo PG F.laws_szIntS [.ref t o n, .I left] M (.I (if left < n then -1 else left - n)) M := by
  refine calls_run K.laws_szIntS rfl ?_
  simp (disch := omega) only [C.laws_szIntS, ↓SXd, SXu, slBounds, ↓sop, ↓aop, ↓reduceIte, LV.cells, AOp.dst, LV.I, LV.B, LV.U, LV.S, LV.nil, Nat.reduceEqDiff, Nat.reduceAdd, Nat.reduceMul, Nat.reduceSub, Nat.reduceLeDiff, Nat.reduceBEq, Nat.reduceDiv, Nat.reduceMod, Int.reduceToNat, Int.reduceLT, Int.reduceLE, Int.reduceAdd, Int.reduceSub, Int.reduceMul, Int.reduceEq, Int.reduceNeg, reduceCtorEq, resV, resAll, ARes.ev, LV.flat, ite_true, ite_false, exists_eq_left', exists_eq_left, keyOf, implies_true, fillC, capOf]
  refine condC_dec (fun h => ?_) (fun h => ?_)
  · simp (disch := omega) only [↓SXd, SXu, slBounds, ↓sop, ↓aop, ↓reduceIte, LV.cells, AOp.dst, LV.I, LV.B, LV.U, LV.S, LV.nil, Nat.reduceEqDiff, Nat.reduceAdd, Nat.reduceMul, Nat.reduceSub, Nat.reduceLeDiff, Nat.reduceBEq, Nat.reduceDiv, Nat.reduceMod, Int.reduceToNat, Int.reduceLT, Int.reduceLE, Int.reduceAdd, Int.reduceSub, Int.reduceMul, Int.reduceEq, Int.reduceNeg, reduceCtorEq, resV, resAll, ARes.ev, LV.flat, ite_true, ite_false, exists_eq_left', exists_eq_left, keyOf, implies_true, fillC, capOf]
    rw [if_pos (by omega)]; exact cmp_drop0 rfl
  · simp (disch := omega) only [↓SXd, SXu, slBounds, ↓sop, ↓aop, ↓reduceIte, LV.cells, AOp.dst, LV.I, LV.B, LV.U, LV.S, LV.nil, Nat.reduceEqDiff, Nat.reduceAdd, Nat.reduceMul, Nat.reduceSub, Nat.reduceLeDiff, Nat.reduceBEq, Nat.reduceDiv, Nat.reduceMod, Int.reduceToNat, Int.reduceLT, Int.reduceLE, Int.reduceAdd, Int.reduceSub, Int.reduceMul, Int.reduceEq, Int.reduceNeg, reduceCtorEq, resV, resAll, ARes.ev, LV.flat, ite_true, ite_false, exists_eq_left', exists_eq_left, keyOf, implies_true, fillC, capOf]
    rw [if_neg (by omega)]; exact cmp_drop0 rfl
theorem h_szShadow {x y z : Int} {t o n t' o' n' t2 o2 n2 : Nat} {left : Int} {M : Mem} (h : 0 ≤ left) (h' : left ≤ 10000000) (hn : n ≤ 9223372036854775807) (hn' : n' ≤ 9223372036854775807) (hn2 : n2 ≤ 9223372036854775807) :
    CallsTo PG F.laws_szShadow [.agg [.I x, .I y, .I z, .ref t o n, .ref t' o' n', .ref t2 o2 n2], .I left] M (.I (if left < n + n' + n2 then -1 else left - n - n' - n2)) M := by
  refine calls_run K.laws_szShadow rfl ?_
  simp (disch := omega) only [C.laws_szShadow, ↓SXd, SXu, slBounds, ↓sop, ↓aop, ↓reduceIte, LV.cells, AOp.dst, LV.I, LV.B, LV.U, LV.S, LV.nil, Nat.reduceEqDiff, Nat.reduceAdd, Nat.reduceMul, Nat.reduceSub, Nat.reduceLeDiff, Nat.reduceBEq, Nat.reduceDiv, Nat.reduceMod, Int.reduceToNat, Int.reduceLT, Int.reduceLE, Int.reduceAdd, Int.reduceSub, Int.reduceMul, Int.reduceEq, Int.reduceNeg, reduceCtorEq, resV, resAll, ARes.ev, LV.flat, ite_true, ite_false, exists_eq_left', exists_eq_left, keyOf, implies_true, fillC, capOf]
  refine callK_of (h_szIntS h h' hn) ?_
  simp (disch := omega) only [↓SXd, SXu, slBounds, ↓sop, ↓aop, ↓reduceIte, LV.cells, AOp.dst, LV.I, LV.B, LV.U, LV.S, LV.nil, Nat.reduceEqDiff, Nat.reduceAdd, Nat.reduceMul, Nat.reduceSub, Nat.reduceLeDiff, Nat.reduceBEq, Nat.reduceDiv, Nat.reduceMod, Int.reduceToNat, Int.reduceLT, Int.reduceLE, Int.reduceAdd, Int.reduceSub, Int.reduceMul, Int.reduceEq, Int.reduceNeg, reduceCtorEq, resV, resAll, ARes.ev, LV.flat, ite_true, ite_false, exists_eq_left', exists_eq_left, keyOf, implies_true, fillC, capOf]
  by_cases h1 : left < n
  · rw [if_pos h1, if_pos (by omega)]
    simp (disch := omega) only [Int.reduceLT, ↓SXd, SXu, slBounds, ↓sop, ↓aop, ↓reduceIte, LV.cells, AOp.dst, LV.I, LV.B, LV.U, LV.S, LV.nil, Nat.reduceEqDiff, Nat.reduceAdd, Nat.reduceMul, Nat.reduceSub, Nat.reduceLeDiff, Nat.reduceBEq, Nat.reduceDiv, Nat.reduceMod, Int.reduceToNat, Int.reduceLT, Int.reduceLE, Int.reduceAdd, Int.reduceSub, Int.reduceMul, Int.reduceEq, Int.reduceNeg, reduceCtorEq, resV, resAll, ARes.ev, LV.flat, ite_true, ite_false, exists_eq_left', exists_eq_left, keyOf, implies_true, fillC, capOf]
    exact cmp_drop rfl
  · rw [if_neg h1]
    simp (disch := omega) only [↓SXd, SXu, slBounds, ↓sop, ↓aop, ↓reduceIte, LV.cells, AOp.dst, LV.I, LV.B, LV.U, LV.S, LV.nil, Nat.reduceEqDiff, Nat.reduceAdd, Nat.reduceMul, Nat.reduceSub, Nat.reduceLeDiff, Nat.reduceBEq, Nat.reduceDiv, Nat.reduceMod, Int.reduceToNat, Int.reduceLT, Int.reduceLE, Int.reduceAdd, Int.reduceSub, Int.reduceMul, Int.reduceEq, Int.reduceNeg, reduceCtorEq, resV, resAll, ARes.ev, LV.flat, ite_true, ite_false, exists_eq_left', exists_eq_left, keyOf, implies_true, fillC, capOf]
    refine callK_of (h_szIntS (by omega) (by omega) hn') ?_
    simp (disch := omega) only [↓SXd, SXu, slBounds, ↓sop, ↓aop, ↓reduceIte, LV.cells, AOp.dst, LV.I, LV.B, LV.U, LV.S, LV.nil, Nat.reduceEqDiff, Nat.reduceAdd, Nat.reduceMul, Nat.reduceSub, Nat.reduceLeDiff, Nat.reduceBEq, Nat.reduceDiv, Nat.reduceMod, Int.reduceToNat, Int.reduceLT, Int.reduceLE, Int.reduceAdd, Int.reduceSub, Int.reduceMul, Int.reduceEq, Int.reduceNeg, reduceCtorEq, resV, resAll, ARes.ev, LV.flat, ite_true, ite_false, exists_eq_left', exists_eq_left, keyOf, implies_true, fillC, capOf]
    by_cases h2 : left - n < n'
    · rw [if_pos h2, if_pos (by omega)]
      simp (disch := omega) only [Int.reduceLT, ↓SXd, SXu, slBounds, ↓sop, ↓aop, ↓reduceIte, LV.cells, AOp.dst, LV.I, LV.B, LV.U, LV.S, LV.nil, Nat.reduceEqDiff, Nat.reduceAdd, Nat.reduceMul, Nat.reduceSub, Nat.reduceLeDiff, Nat.reduceBEq, Nat.reduceDiv, Nat.reduceMod, Int.reduceToNat, Int.reduceLT, Int.reduceLE, Int.reduceAdd, Int.reduceSub, Int.reduceMul, Int.reduceEq, Int.reduceNeg, reduceCtorEq, resV, resAll, ARes.ev, LV.flat, ite_true, ite_false, exists_eq_left', exists_eq_left, keyOf, implies_true, fillC, capOf]
      exact cmp_drop rfl
    · rw [if_neg h2]
      simp (disch := omega) only [↓SXd, SXu, slBounds, ↓sop, ↓aop, ↓reduceIte, LV.cells, AOp.dst, LV.I, LV.B, LV.U, LV.S, LV.nil, Nat.reduceEqDiff, Nat.reduceAdd, Nat.reduceMul, Nat.reduceSub, Nat.reduceLeDiff, Nat.reduceBEq, Nat.reduceDiv, Nat.reduceMod, Int.reduceToNat, Int.reduceLT, Int.reduceLE, Int.reduceAdd, Int.reduceSub, Int.reduceMul, Int.reduceEq, Int.reduceNeg, reduceCtorEq, resV, resAll, ARes.ev, LV.flat, ite_true, ite_false, exists_eq_left', exists_eq_left, keyOf, implies_true, fillC, capOf]
      refine callK_of (h_szIntS (by omega) (by omega) hn2) ?_
      simp (disch := omega) only [↓SXd, SXu, slBounds, ↓sop, ↓aop, ↓reduceIte, LV.cells, AOp.dst, LV.I, LV.B, LV.U, LV.S, LV.nil, Nat.reduceEqDiff, Nat.reduceAdd, Nat.reduceMul, Nat.reduceSub, Nat.reduceLeDiff, Nat.reduceBEq, Nat.reduceDiv, Nat.reduceMod, Int.reduceToNat, Int.reduceLT, Int.reduceLE, Int.reduceAdd, Int.reduceSub, Int.reduceMul, Int.reduceEq, Int.reduceNeg, reduceCtorEq, resV, resAll, ARes.ev, LV.flat, ite_true, ite_false, exists_eq_left', exists_eq_left, keyOf, implies_true, fillC, capOf]
      by_cases h3 : left - n - n' < n2
      · rw [if_pos h3, if_pos (by omega)]
        simp (disch := omega) only [Int.reduceLT, ↓SXd, SXu, slBounds, ↓sop, ↓aop, ↓reduceIte, LV.cells, AOp.dst, LV.I, LV.B, LV.U, LV.S, LV.nil, Nat.reduceEqDiff, Nat.reduceAdd, Nat.reduceMul, Nat.reduceSub, Nat.reduceLeDiff, Nat.reduceBEq, Nat.reduceDiv, Nat.reduceMod, Int.reduceToNat, Int.reduceLT, Int.reduceLE, Int.reduceAdd, Int.reduceSub, Int.reduceMul, Int.reduceEq, Int.reduceNeg, reduceCtorEq, resV, resAll, ARes.ev, LV.flat, ite_true, ite_false, exists_eq_left', exists_eq_left, keyOf, implies_true, fillC, capOf]
        exact cmp_drop rfl
      · rw [if_neg h3, if_neg (by omega)]
        simp (disch := omega) only [↓SXd, SXu, slBounds, ↓sop, ↓aop, ↓reduceIte, LV.cells, AOp.dst, LV.I, LV.B, LV.U, LV.S, LV.nil, Nat.reduceEqDiff, Nat.reduceAdd, Nat.reduceMul, Nat.reduceSub, Nat.reduceLeDiff, Nat.reduceBEq, Nat.reduceDiv, Nat.reduceMod, Int.reduceToNat, Int.reduceLT, Int.reduceLE, Int.reduceAdd, Int.reduceSub, Int.reduceMul, Int.reduceEq, Int.reduceNeg, reduceCtorEq, resV, resAll, ARes.ev, LV.flat, ite_true, ite_false, exists_eq_left', exists_eq_left, keyOf, implies_true, fillC, capOf]
        exact cmp_drop rfl

theorem h_eqShadow {x y z : Int} {a b c a' b' c' : LV} {tp fr sd tp' fr' sd' : List Int} {x' y' z' : Int} {M : Mem} (h1 : IntsV M a tp) (h2 : IntsV M b fr) (h3 : IntsV M c sd) (k1 : IntsV M a' tp') (k2 : IntsV M b' fr') (k3 : IntsV M c' sd')
    (l1 : tp.length ≤ 1000000000) (l2 : fr.length ≤ 1000000000) (l3 : sd.length ≤ 1000000000) (m1 : tp'.length ≤ 1000000000) (m2 : fr'.length ≤ 1000000000) (m3 : sd'.length ≤ 1000000000) :
    CallsTo PG F.laws_eqShadow [.agg [.I x, .I y, .I z, a, b, c], .agg [.I x', .I y', .I z', a', b', c']] M (.B (decide (x = x' ∧ y = y' ∧ z = z' ∧ tp = tp' ∧ fr = fr' ∧ sd = sd'))) M := by
  have hv : ∀ {v : LV} {l : List Int}, IntsV M v l → v.one = true ∧ v.cells = some [v] ∧ v.lo1 M.length = true := fun {v l} h => by
    rcases h with ⟨rfl, rfl⟩ | ⟨t, o, rfl, h⟩
    · exact ⟨rfl, rfl, rfl⟩
    · exact ⟨rfl, rfl, decide_eq_true h.lt⟩
  refine calls_run K.laws_eqShadow rfl ?_
  simp (disch := omega) only [C.laws_eqShadow, ↓SXd, SXu, slBounds, ↓sop, ↓aop, ↓reduceIte, LV.cells, AOp.dst, LV.I, LV.B, LV.U, LV.S, LV.nil, Nat.reduceEqDiff, Nat.reduceAdd, Nat.reduceMul, Nat.reduceSub, Nat.reduceLeDiff, Nat.reduceBEq, Nat.reduceDiv, Nat.reduceMod, Int.reduceToNat, Int.reduceLT, Int.reduceLE, Int.reduceAdd, Int.reduceSub, Int.reduceMul, Int.reduceEq, Int.reduceNeg, reduceCtorEq, resV, resAll, ARes.ev, LV.flat, ite_true, ite_false, exists_eq_left', exists_eq_left, keyOf, implies_true, fillC, capOf]
  by_cases e1 : x = x'
  · by_cases e2 : y = y'
    · by_cases e3 : z = z'
      · simp (disch := omega) only [e1, e2, e3, true_and, ↓SXd, SXu, slBounds, ↓sop, ↓aop, ↓reduceIte, LV.cells, AOp.dst, LV.I, LV.B, LV.U, LV.S, LV.nil, Nat.reduceEqDiff, Nat.reduceAdd, Nat.reduceMul, Nat.reduceSub, Nat.reduceLeDiff, Nat.reduceBEq, Nat.reduceDiv, Nat.reduceMod, Int.reduceToNat, Int.reduceLT, Int.reduceLE, Int.reduceAdd, Int.reduceSub, Int.reduceMul, Int.reduceEq, Int.reduceNeg, reduceCtorEq, resV, resAll, ARes.ev, LV.flat, ite_true, ite_false, exists_eq_left', exists_eq_left, keyOf, implies_true, fillC, capOf]
        refine callK_of (h_eqIntS (h1.pre (Pre.app _ _)) (k1.pre (Pre.app _ _)) l1 m1) ?_
        simp (disch := omega) only [↓SXd, SXu, slBounds, ↓sop, ↓aop, ↓reduceIte, LV.cells, AOp.dst, LV.I, LV.B, LV.U, LV.S, LV.nil, Nat.reduceEqDiff, Nat.reduceAdd, Nat.reduceMul, Nat.reduceSub, Nat.reduceLeDiff, Nat.reduceBEq, Nat.reduceDiv, Nat.reduceMod, Int.reduceToNat, Int.reduceLT, Int.reduceLE, Int.reduceAdd, Int.reduceSub, Int.reduceMul, Int.reduceEq, Int.reduceNeg, reduceCtorEq, resV, resAll, ARes.ev, LV.flat, ite_true, ite_false, exists_eq_left', exists_eq_left, keyOf, implies_true, fillC, capOf]
        by_cases e4 : tp = tp'
        · simp (disch := omega) only [e4, true_and, ↓SXd, SXu, slBounds, ↓sop, ↓aop, ↓reduceIte, LV.cells, AOp.dst, LV.I, LV.B, LV.U, LV.S, LV.nil, Nat.reduceEqDiff, Nat.reduceAdd, Nat.reduceMul, Nat.reduceSub, Nat.reduceLeDiff, Nat.reduceBEq, Nat.reduceDiv, Nat.reduceMod, Int.reduceToNat, Int.reduceLT, Int.reduceLE, Int.reduceAdd, Int.reduceSub, Int.reduceMul, Int.reduceEq, Int.reduceNeg, reduceCtorEq, resV, resAll, ARes.ev, LV.flat, ite_true, ite_false, exists_eq_left', exists_eq_left, keyOf, implies_true, fillC, capOf]
          refine callK_of (h_eqIntS (h2.pre (Pre.app _ _)) (k2.pre (Pre.app _ _)) l2 m2) ?_
          simp (disch := omega) only [↓SXd, SXu, slBounds, ↓sop, ↓aop, ↓reduceIte, LV.cells, AOp.dst, LV.I, LV.B, LV.U, LV.S, LV.nil, Nat.reduceEqDiff, Nat.reduceAdd, Nat.reduceMul, Nat.reduceSub, Nat.reduceLeDiff, Nat.reduceBEq, Nat.reduceDiv, Nat.reduceMod, Int.reduceToNat, Int.reduceLT, Int.reduceLE, Int.reduceAdd, Int.reduceSub, Int.reduceMul, Int.reduceEq, Int.reduceNeg, reduceCtorEq, resV, resAll, ARes.ev, LV.flat, ite_true, ite_false, exists_eq_left', exists_eq_left, keyOf, implies_true, fillC, capOf]
          by_cases e5 : fr = fr'
          · simp (disch := omega) only [e5, true_and, ↓SXd, SXu, slBounds, ↓sop, ↓aop, ↓reduceIte, LV.cells, AOp.dst, LV.I, LV.B, LV.U, LV.S, LV.nil, Nat.reduceEqDiff, Nat.reduceAdd, Nat.reduceMul, Nat.reduceSub, Nat.reduceLeDiff, Nat.reduceBEq, Nat.reduceDiv, Nat.reduceMod, Int.reduceToNat, Int.reduceLT, Int.reduceLE, Int.reduceAdd, Int.reduceSub, Int.reduceMul, Int.reduceEq, Int.reduceNeg, reduceCtorEq, resV, resAll, ARes.ev, LV.flat, ite_true, ite_false, exists_eq_left', exists_eq_left, keyOf, implies_true, fillC, capOf]
            refine callK_of (h_eqIntS (h3.pre (Pre.app _ _)) (k3.pre (Pre.app _ _)) l3 m3) ?_
            simp (disch := omega) only [↓SXd, SXu, slBounds, ↓sop, ↓aop, ↓reduceIte, LV.cells, AOp.dst, LV.I, LV.B, LV.U, LV.S, LV.nil, Nat.reduceEqDiff, Nat.reduceAdd, Nat.reduceMul, Nat.reduceSub, Nat.reduceLeDiff, Nat.reduceBEq, Nat.reduceDiv, Nat.reduceMod, Int.reduceToNat, Int.reduceLT, Int.reduceLE, Int.reduceAdd, Int.reduceSub, Int.reduceMul, Int.reduceEq, Int.reduceNeg, reduceCtorEq, resV, resAll, ARes.ev, LV.flat, ite_true, ite_false, exists_eq_left', exists_eq_left, keyOf, implies_true, fillC, capOf]
            by_cases e6 : sd = sd'
            · simp (disch := omega) only [e6, ↓SXd, SXu, slBounds, ↓sop, ↓aop, ↓reduceIte, LV.cells, AOp.dst, LV.I, LV.B, LV.U, LV.S, LV.nil, Nat.reduceEqDiff, Nat.reduceAdd, Nat.reduceMul, Nat.reduceSub, Nat.reduceLeDiff, Nat.reduceBEq, Nat.reduceDiv, Nat.reduceMod, Int.reduceToNat, Int.reduceLT, Int.reduceLE, Int.reduceAdd, Int.reduceSub, Int.reduceMul, Int.reduceEq, Int.reduceNeg, reduceCtorEq, resV, resAll, ARes.ev, LV.flat, ite_true, ite_false, exists_eq_left', exists_eq_left, keyOf, implies_true, fillC, capOf]
              exact cmp_drop rfl
            · simp (disch := omega) only [e6, ↓SXd, SXu, slBounds, ↓sop, ↓aop, ↓reduceIte, LV.cells, AOp.dst, LV.I, LV.B, LV.U, LV.S, LV.nil, Nat.reduceEqDiff, Nat.reduceAdd, Nat.reduceMul, Nat.reduceSub, Nat.reduceLeDiff, Nat.reduceBEq, Nat.reduceDiv, Nat.reduceMod, Int.reduceToNat, Int.reduceLT, Int.reduceLE, Int.reduceAdd, Int.reduceSub, Int.reduceMul, Int.reduceEq, Int.reduceNeg, reduceCtorEq, resV, resAll, ARes.ev, LV.flat, ite_true, ite_false, exists_eq_left', exists_eq_left, keyOf, implies_true, fillC, capOf]
              exact cmp_drop rfl
          · simp (disch := omega) only [e5, false_and, ↓SXd, SXu, slBounds, ↓sop, ↓aop, ↓reduceIte, LV.cells, AOp.dst, LV.I, LV.B, LV.U, LV.S, LV.nil, Nat.reduceEqDiff, Nat.reduceAdd, Nat.reduceMul, Nat.reduceSub, Nat.reduceLeDiff, Nat.reduceBEq, Nat.reduceDiv, Nat.reduceMod, Int.reduceToNat, Int.reduceLT, Int.reduceLE, Int.reduceAdd, Int.reduceSub, Int.reduceMul, Int.reduceEq, Int.reduceNeg, reduceCtorEq, resV, resAll, ARes.ev, LV.flat, ite_true, ite_false, exists_eq_left', exists_eq_left, keyOf, implies_true, fillC, capOf]
            exact cmp_drop rfl
        · simp (disch := omega) only [e4, false_and, ↓SXd, SXu, slBounds, ↓sop, ↓aop, ↓reduceIte, LV.cells, AOp.dst, LV.I, LV.B, LV.U, LV.S, LV.nil, Nat.reduceEqDiff, Nat.reduceAdd, Nat.reduceMul, Nat.reduceSub, Nat.reduceLeDiff, Nat.reduceBEq, Nat.reduceDiv, Nat.reduceMod, Int.reduceToNat, Int.reduceLT, Int.reduceLE, Int.reduceAdd, Int.reduceSub, Int.reduceMul, Int.reduceEq, Int.reduceNeg, reduceCtorEq, resV, resAll, ARes.ev, LV.flat, ite_true, ite_false, exists_eq_left', exists_eq_left, keyOf, implies_true, fillC, capOf]
          exact cmp_drop rfl
      · simp (disch := omega) only [e1, e2, e3, true_and, false_and, ↓SXd, SXu, slBounds, ↓sop, ↓aop, ↓reduceIte, LV.cells, AOp.dst, LV.I, LV.B, LV.U, LV.S, LV.nil, Nat.reduceEqDiff, Nat.reduceAdd, Nat.reduceMul, Nat.reduceSub, Nat.reduceLeDiff, Nat.reduceBEq, Nat.reduceDiv, Nat.reduceMod, Int.reduceToNat, Int.reduceLT, Int.reduceLE, Int.reduceAdd, Int.reduceSub, Int.reduceMul, Int.reduceEq, Int.reduceNeg, reduceCtorEq, resV, resAll, ARes.ev, LV.flat, ite_true, ite_false, exists_eq_left', exists_eq_left, keyOf, implies_true, fillC, capOf]
        exact cmp_drop rfl
    · simp (disch := omega) only [e1, e2, true_and, false_and, ↓SXd, SXu, slBounds, ↓sop, ↓aop, ↓reduceIte, LV.cells, AOp.dst, LV.I, LV.B, LV.U, LV.S, LV.nil, Nat.reduceEqDiff, Nat.reduceAdd, Nat.reduceMul, Nat.reduceSub, Nat.reduceLeDiff, Nat.reduceBEq, Nat.reduceDiv, Nat.reduceMod, Int.reduceToNat, Int.reduceLT, Int.reduceLE, Int.reduceAdd, Int.reduceSub, Int.reduceMul, Int.reduceEq, Int.reduceNeg, reduceCtorEq, resV, resAll, ARes.ev, LV.flat, ite_true, ite_false, exists_eq_left', exists_eq_left, keyOf, implies_true, fillC, capOf]
      exact cmp_drop rfl
  · simp (disch := omega) only [e1, false_and, ↓SXd, SXu, slBounds, ↓sop, ↓aop, ↓reduceIte, LV.cells, AOp.dst, LV.I, LV.B, LV.U, LV.S, LV.nil, Nat.reduceEqDiff, Nat.reduceAdd, Nat.reduceMul, Nat.reduceSub, Nat.reduceLeDiff, Nat.reduceBEq, Nat.reduceDiv, Nat.reduceMod, Int.reduceToNat, Int.reduceLT, Int.reduceLE, Int.reduceAdd, Int.reduceSub, Int.reduceMul, Int.reduceEq, Int.reduceNeg, reduceCtorEq, resV, resAll, ARes.ev, LV.flat, ite_true, ite_false, exists_eq_left', exists_eq_left, keyOf, implies_true, fillC, capOf]
    exact cmp_drop rfl

theorem h_toIntS {t o : Nat} {xs : List Int} {M : Mem} (h : Ints M t o xs) (hn : xs.length ≤ 1000000000) :
    CallsTo PG F.laws_toIntS [.ref t o xs.length] M (.ref M.length 0 xs.length) (M ++ [some (.row (intL xs) true 1)]) := by
  have ht := h.lt
  refine calls_run K.laws_toIntS rfl ?_
  simp (disch := omega) only [C.laws_toIntS, made_int, ↓SXd, SXu, slBounds, ↓sop, ↓aop, ↓reduceIte, LV.cells, AOp.dst, LV.I, LV.B, LV.U, LV.S, LV.nil, Nat.reduceEqDiff, Nat.reduceAdd, Nat.reduceMul, Nat.reduceSub, Nat.reduceLeDiff, Nat.reduceBEq, Nat.reduceDiv, Nat.reduceMod, Int.reduceToNat, Int.reduceLT, Int.reduceLE, Int.reduceAdd, Int.reduceSub, Int.reduceMul, Int.reduceEq, Int.reduceNeg, reduceCtorEq, resV, resAll, ARes.ev, LV.flat, ite_true, ite_false, exists_eq_left', exists_eq_left, keyOf, implies_true, fillC, capOf]
  refine ev_loop (fun m fr M' => ∃ k : Nat, k + m = xs.length ∧ Pre M M' ∧ Live M' M.length (.row (intL (xs.take k ++ List.replicate (xs.length - k) 0)) true 1) ∧ fr 0 = .ref t o xs.length ∧ fr 3 = .ref M.length 0 xs.length ∧ fr 4 = .I k) xs.length
    ⟨0, by omega, Pre.app _ _, by simpa using Live.new, rfl, rfl, rfl⟩ ?_
  rintro m fr M' ⟨k, hk, hpre, hout, f0, f3, f4⟩
  simp (disch := omega) only [f0, f3, f4, ↓SXd, SXu, slBounds, ↓sop, ↓aop, ↓reduceIte, LV.cells, AOp.dst, LV.I, LV.B, LV.U, LV.S, LV.nil, Nat.reduceEqDiff, Nat.reduceAdd, Nat.reduceMul, Nat.reduceSub, Nat.reduceLeDiff, Nat.reduceBEq, Nat.reduceDiv, Nat.reduceMod, Int.reduceToNat, Int.reduceLT, Int.reduceLE, Int.reduceAdd, Int.reduceSub, Int.reduceMul, Int.reduceEq, Int.reduceNeg, reduceCtorEq, resV, resAll, ARes.ev, LV.flat, ite_true, ite_false, exists_eq_left', exists_eq_left, keyOf, implies_true, fillC, capOf]
  refine condC_dec (fun hlt => ?_) (fun hlt => ?_)
  · have hkl : k < xs.length := by omega
    have hg := Ints.get (h.pre hpre) hkl
    simp (disch := omega) only [f0, f3, f4, hg, Nat.mul_one, ↓SXd, SXu, slBounds, ↓sop, ↓aop, ↓reduceIte, LV.cells, AOp.dst, LV.I, LV.B, LV.U, LV.S, LV.nil, Nat.reduceEqDiff, Nat.reduceAdd, Nat.reduceMul, Nat.reduceSub, Nat.reduceLeDiff, Nat.reduceBEq, Nat.reduceDiv, Nat.reduceMod, Int.reduceToNat, Int.reduceLT, Int.reduceLE, Int.reduceAdd, Int.reduceSub, Int.reduceMul, Int.reduceEq, Int.reduceNeg, reduceCtorEq, resV, resAll, ARes.ev, LV.flat, ite_true, ite_false, exists_eq_left', exists_eq_left, keyOf, implies_true, fillC, capOf]
    refine memK_int hout (by simp; omega) fun N l1 l2 l3 => ?_
    simp (disch := omega) only [f0, f3, f4, ↓SXd, SXu, slBounds, ↓sop, ↓aop, ↓reduceIte, LV.cells, AOp.dst, LV.I, LV.B, LV.U, LV.S, LV.nil, Nat.reduceEqDiff, Nat.reduceAdd, Nat.reduceMul, Nat.reduceSub, Nat.reduceLeDiff, Nat.reduceBEq, Nat.reduceDiv, Nat.reduceMod, Int.reduceToNat, Int.reduceLT, Int.reduceLE, Int.reduceAdd, Int.reduceSub, Int.reduceMul, Int.reduceEq, Int.reduceNeg, reduceCtorEq, resV, resAll, ARes.ev, LV.flat, ite_true, ite_false, exists_eq_left', exists_eq_left, keyOf, implies_true, fillC, capOf]
    refine ⟨m - 1, by omega, k + 1, by omega, pre_step hpre (by omega) (j := 0) l1 l3, ?_, f0, f3, eqI (natI _)⟩
    have e : (xs.take k ++ List.replicate (xs.length - k) 0).set k (xs.getD k 0) = xs.take (k + 1) ++ List.replicate (xs.length - (k + 1)) 0 := by
      have hl : (xs.take k).length = k := by simp; omega
      rw [List.set_append_right _ _ (by omega), hl, Nat.sub_self, show xs.length - k = (xs.length - (k + 1)) + 1 by omega, List.replicate_succ, List.set_cons_zero, List.take_succ, List.getElem?_eq_getElem hkl, List.append_assoc]
      simp [hkl]
    rw [e] at l2; exact l2
  · simp (disch := omega) only [f0, f3, f4, ↓SXd, SXu, slBounds, ↓sop, ↓aop, ↓reduceIte, LV.cells, AOp.dst, LV.I, LV.B, LV.U, LV.S, LV.nil, Nat.reduceEqDiff, Nat.reduceAdd, Nat.reduceMul, Nat.reduceSub, Nat.reduceLeDiff, Nat.reduceBEq, Nat.reduceDiv, Nat.reduceMod, Int.reduceToNat, Int.reduceLT, Int.reduceLE, Int.reduceAdd, Int.reduceSub, Int.reduceMul, Int.reduceEq, Int.reduceNeg, reduceCtorEq, resV, resAll, ARes.ev, LV.flat, ite_true, ite_false, exists_eq_left', exists_eq_left, keyOf, implies_true, fillC, capOf]
    have : k = xs.length := by omega
    subst this
    rw [List.take_length, Nat.sub_self, List.replicate_zero, List.append_nil] at hout
    exact cmp_keepL hpre (by omega) hout (intL_lo _) (by simp [rn, rn0, rn1])

/-- A shadow as a value, its lists in three blocks behind M. -/
def ShdRes (M : Mem) (x y z : Int) (tp fr sd : List Int) (v : LV) (N : Mem) : Prop := ∃ a b c : Nat, v = .agg [.I x, .I y, .I z, .ref a 0 tp.length, .ref b 0 fr.length, .ref c 0 sd.length] ∧ M.length ≤ a ∧ M.length ≤ b ∧ M.length ≤ c ∧ a ≠ b ∧ a ≠ c ∧ b ≠ c ∧
  Live N a (.row (intL tp) true 1) ∧ Live N b (.row (intL fr) true 1) ∧ Live N c (.row (intL sd) true 1) ∧ Pre M N
theorem h_toShadow {x y z : Int} {t o t' o' t2 o2 : Nat} {tp fr sd : List Int} {M : Mem} (h1 : Ints M t o tp) (h2 : Ints M t' o' fr) (h3 : Ints M t2 o2 sd) (l1 : tp.length ≤ 1000000000) (l2 : fr.length ≤ 1000000000) (l3 : sd.length ≤ 1000000000) :
    CallsR PG F.laws_toShadow [.agg [.I x, .I y, .I z, .ref t o tp.length, .ref t' o' fr.length, .ref t2 o2 sd.length]] M (ShdRes M x y z tp fr sd) := by
  refine callsR_run K.laws_toShadow rfl ?_
  simp (disch := omega) only [C.laws_toShadow, splice, ↓SXd, SXu, slBounds, ↓sop, ↓aop, ↓reduceIte, LV.cells, AOp.dst, LV.I, LV.B, LV.U, LV.S, LV.nil, Nat.reduceEqDiff, Nat.reduceAdd, Nat.reduceMul, Nat.reduceSub, Nat.reduceLeDiff, Nat.reduceBEq, Nat.reduceDiv, Nat.reduceMod, Int.reduceToNat, Int.reduceLT, Int.reduceLE, Int.reduceAdd, Int.reduceSub, Int.reduceMul, Int.reduceEq, Int.reduceNeg, reduceCtorEq, resV, resAll, ARes.ev, LV.flat, ite_true, ite_false, exists_eq_left', exists_eq_left, keyOf, implies_true, fillC, capOf]
  refine callK_of (h_toIntS h1.app l1) ?_
  simp (disch := omega) only [splice, ↓SXd, SXu, slBounds, ↓sop, ↓aop, ↓reduceIte, LV.cells, AOp.dst, LV.I, LV.B, LV.U, LV.S, LV.nil, Nat.reduceEqDiff, Nat.reduceAdd, Nat.reduceMul, Nat.reduceSub, Nat.reduceLeDiff, Nat.reduceBEq, Nat.reduceDiv, Nat.reduceMod, Int.reduceToNat, Int.reduceLT, Int.reduceLE, Int.reduceAdd, Int.reduceSub, Int.reduceMul, Int.reduceEq, Int.reduceNeg, reduceCtorEq, resV, resAll, ARes.ev, LV.flat, ite_true, ite_false, exists_eq_left', exists_eq_left, keyOf, implies_true, fillC, capOf]
  refine callK_of (h_toIntS h2.app l2) ?_
  simp (disch := omega) only [splice, ↓SXd, SXu, slBounds, ↓sop, ↓aop, ↓reduceIte, LV.cells, AOp.dst, LV.I, LV.B, LV.U, LV.S, LV.nil, Nat.reduceEqDiff, Nat.reduceAdd, Nat.reduceMul, Nat.reduceSub, Nat.reduceLeDiff, Nat.reduceBEq, Nat.reduceDiv, Nat.reduceMod, Int.reduceToNat, Int.reduceLT, Int.reduceLE, Int.reduceAdd, Int.reduceSub, Int.reduceMul, Int.reduceEq, Int.reduceNeg, reduceCtorEq, resV, resAll, ARes.ev, LV.flat, ite_true, ite_false, exists_eq_left', exists_eq_left, keyOf, implies_true, fillC, capOf]
  refine callK_of (h_toIntS h3.app l3) ?_
  simp (disch := omega) only [splice, ↓SXd, SXu, slBounds, ↓sop, ↓aop, ↓reduceIte, LV.cells, AOp.dst, LV.I, LV.B, LV.U, LV.S, LV.nil, Nat.reduceEqDiff, Nat.reduceAdd, Nat.reduceMul, Nat.reduceSub, Nat.reduceLeDiff, Nat.reduceBEq, Nat.reduceDiv, Nat.reduceMod, Int.reduceToNat, Int.reduceLT, Int.reduceLE, Int.reduceAdd, Int.reduceSub, Int.reduceMul, Int.reduceEq, Int.reduceNeg, reduceCtorEq, resV, resAll, ARes.ev, LV.flat, ite_true, ite_false, exists_eq_left', exists_eq_left, keyOf, implies_true, fillC, capOf]
  exact ⟨M.length + 3, M.length + 4, M.length + 5, rfl, by omega, by omega, by omega, by omega, by omega, by omega, Live.newj rfl, Live.newj rfl, Live.newj rfl, Pre.app _ _⟩
end Go.Ab

/- Contracts: marks in a shadow's lists. -/
namespace Go.Ab
open Go
set_option linter.unusedSimpArgs false
set_option linter.unusedVariables false

theorem SlC.at {M N : Mem} {w : LV} {l : List Cell} (h : SlC M w l) (hk : ∀ t o n, w = .ref t o n → N[t]? = M[t]?) : SlC N w l := by
  rcases h with h | ⟨t, ex, h1, h2⟩
  · exact .inl h
  · refine .inr ⟨t, ex, h1, ?_⟩
    unfold Live; rw [hk _ _ _ h1]; exact h2
theorem Live.at {M N : Mem} {t : Nat} {b : Blk} (h : Live M t b) (hk : N[t]? = M[t]?) : Live N t b := by unfold Live; rw [hk]; exact h

/-- What is left as it was by marks in three blocks. -/
def Pre3 (a b c : Nat) (M N : Mem) : Prop := M.length ≤ N.length ∧ ∀ u, u < M.length → u ≠ a → u ≠ b → u ≠ c → N[u]? = M[u]?
theorem Pre3.live {a b c : Nat} {M N : Mem} {t : Nat} {bl : Blk} (hp : Pre3 a b c M N) (h : Live M t bl) (h1 : t ≠ a) (h2 : t ≠ b) (h3 : t ≠ c) : Live N t bl := h.at (hp.2 t h.lt h1 h2 h3)
theorem Pre3.slC {a b c : Nat} {M N : Mem} {w : LV} {l : List Cell} (hp : Pre3 a b c M N) (h : SlC M w l) (h1 : Off w a) (h2 : Off w b) (h3 : Off w c) : SlC N w l := h.at fun t o n e => by
  subst e
  exact hp.2 t (h.older _ _ _ rfl) (fun e => h1 e.symm) (fun e => h2 e.symm) (fun e => h3 e.symm)
theorem Pre3.pre {a b c : Nat} {M0 M N : Mem} (hp : Pre3 a b c M N) (h : Pre M0 M) (h1 : M0.length ≤ a) (h2 : M0.length ≤ b) (h3 : M0.length ≤ c) : Pre M0 N := ⟨Nat.le_trans h.1 hp.1, fun u hu => by rw [hp.2 u (Nat.lt_of_lt_of_le hu h.1) (by omega) (by omega) (by omega)]; exact h.2 u hu⟩

theorem h_markShadow {x y z : Int} {a b c : Nat} {tp fr sd : List Int} {k : Int} {M : Mem} (h1 : Live M a (.row (intL tp) true 1)) (h2 : Live M b (.row (intL fr) true 1)) (h3 : Live M c (.row (intL sd) true 1)) (hab : a ≠ b) (hac : a ≠ c) (hbc : b ≠ c)
    (l1 : tp.length ≤ 10000000) (l2 : fr.length ≤ 10000000) (l3 : sd.length ≤ 10000000) (hk : 0 ≤ k ∧ k ≤ 10000000) :
    CallsR PG F.laws_markShadow [.agg [.I x, .I y, .I z, .ref a 0 tp.length, .ref b 0 fr.length, .ref c 0 sd.length], .I k] M fun r N => r = .I (k + tp.length + fr.length + sd.length) ∧ Pre3 a b c M N := by
  refine callsR_run K.laws_markShadow rfl ?_
  simp (disch := omega) only [C.laws_markShadow, ↓SXd, SXu, slBounds, ↓sop, ↓aop, ↓reduceIte, LV.cells, AOp.dst, LV.I, LV.B, LV.U, LV.S, LV.nil, Nat.reduceEqDiff, Nat.reduceAdd, Nat.reduceMul, Nat.reduceSub, Nat.reduceLeDiff, Nat.reduceBEq, Nat.reduceDiv, Nat.reduceMod, Int.reduceToNat, Int.reduceLT, Int.reduceLE, Int.reduceAdd, Int.reduceSub, Int.reduceMul, Int.reduceEq, Int.reduceNeg, reduceCtorEq, resV, resAll, ARes.ev, LV.flat, ite_true, ite_false, exists_eq_left', exists_eq_left, keyOf, implies_true, fillC, capOf]
  refine callR_of (h_markIntS (SlI.of h1.app) (by omega) (by omega)) ?_
  rintro _ N1 ⟨rfl, _, q1, p1⟩
  have ha := h1.lt
  have hb := h2.lt
  have hc := h3.lt
  have c1 : Live N1 M.length (.row [.I x, .I y, .I z, .ref a 0 tp.length, .ref b 0 fr.length, .ref c 0 sd.length] true 0) := Live.at Live.new (p1 _ (by show M.length ≠ a; omega))
  have h21 : Live N1 b (.row (intL fr) true 1) := h2.app.at (p1 _ (Ne.symm hab))
  have h31 : Live N1 c (.row (intL sd) true 1) := h3.app.at (p1 _ (Ne.symm hac))
  simp (disch := omega) only [c1.cell, c1.cells, ↓SXd, SXu, slBounds, ↓sop, ↓aop, ↓reduceIte, LV.cells, AOp.dst, LV.I, LV.B, LV.U, LV.S, LV.nil, Nat.reduceEqDiff, Nat.reduceAdd, Nat.reduceMul, Nat.reduceSub, Nat.reduceLeDiff, Nat.reduceBEq, Nat.reduceDiv, Nat.reduceMod, Int.reduceToNat, Int.reduceLT, Int.reduceLE, Int.reduceAdd, Int.reduceSub, Int.reduceMul, Int.reduceEq, Int.reduceNeg, reduceCtorEq, resV, resAll, ARes.ev, LV.flat, ite_true, ite_false, exists_eq_left', exists_eq_left, keyOf, implies_true, fillC, capOf]
  refine callR_of (h_markIntS (SlI.of h21) (by omega) (by omega)) ?_
  rintro _ N2 ⟨rfl, _, q2, p2⟩
  have c2 := c1.at (p2 _ (by show M.length ≠ b; omega))
  have h32 := h31.at (p2 _ (Ne.symm hbc))
  simp (disch := omega) only [c2.cell, c2.cells, ↓SXd, SXu, slBounds, ↓sop, ↓aop, ↓reduceIte, LV.cells, AOp.dst, LV.I, LV.B, LV.U, LV.S, LV.nil, Nat.reduceEqDiff, Nat.reduceAdd, Nat.reduceMul, Nat.reduceSub, Nat.reduceLeDiff, Nat.reduceBEq, Nat.reduceDiv, Nat.reduceMod, Int.reduceToNat, Int.reduceLT, Int.reduceLE, Int.reduceAdd, Int.reduceSub, Int.reduceMul, Int.reduceEq, Int.reduceNeg, reduceCtorEq, resV, resAll, ARes.ev, LV.flat, ite_true, ite_false, exists_eq_left', exists_eq_left, keyOf, implies_true, fillC, capOf]
  refine callR_of (h_markIntS (SlI.of h32) (by omega) (by omega)) ?_
  rintro _ N3 ⟨rfl, _, q3, p3⟩
  simp (disch := omega) only [↓SXd, SXu, slBounds, ↓sop, ↓aop, ↓reduceIte, LV.cells, AOp.dst, LV.I, LV.B, LV.U, LV.S, LV.nil, Nat.reduceEqDiff, Nat.reduceAdd, Nat.reduceMul, Nat.reduceSub, Nat.reduceLeDiff, Nat.reduceBEq, Nat.reduceDiv, Nat.reduceMod, Int.reduceToNat, Int.reduceLT, Int.reduceLE, Int.reduceAdd, Int.reduceSub, Int.reduceMul, Int.reduceEq, Int.reduceNeg, reduceCtorEq, resV, resAll, ARes.ev, LV.flat, ite_true, ite_false, exists_eq_left', exists_eq_left, keyOf, implies_true, fillC, capOf]
  refine ⟨rfl, by rw [q3, q2, q1]; simp, fun u hu e1 e2 e3 => ?_⟩
  rw [p3 u e3, p2 u e2, p1 u e1, List.getElem?_append_left hu]
end Go.Ab

/- The abstract code of some functions (written by a program of mine from the translation, by way of prepF). -/
namespace Go.Ab.C
open Go.Ab
def spec_l3Fewest : AFn :=
  ⟨1, 36, [.cellN 2 4],
    .seq (.ops [(none, .box 1 (.t 0)),
       (none, .alloc 2 [(.I 0), (.I 0), (.I 0), .nil])])
    (.seq (.ops [(none, .loadN 7 6 (.t 1)),
        (none, .call (some 8) F.spec_l3Allowed [(.t 7)]),
        (none, .field 9 (.t 8) 3 none),
        (none, .mv 3 (.t 9))])
     (.seq (.seq (.ops [(none, .mv 4 (.c (.I 0)))])
       (.block 0 (.loop (.seq (.seq (.ops [(none, .mv 10 (.t 4)),
              (none, .mv 11 (.t 3)),
              (none, .len 12 (.t 11)),
              (none, .bin 13 .leq (.t 10) (.t 12))])
           (.cond (.t 13) (.skip)
            (.exit 0)))
          (.seq (.block 1 (.seq (.ops [(none, .loadN 17 6 (.t 1)),
                (none, .mv 18 (.t 3)),
                (none, .buildSl 19 0 3 [] []),
                (none, .mv 20 (.t 4)),
                (none, .call (some 21) F.spec_l3Search [(.t 17), (.t 18), (.c (.I 0)), (.t 19), (.t 20)]),
                (none, .mv 16 (.t 21)),
                (none, .extract 22 (.t 16) 0),
                (none, .extract 23 (.t 16) 1),
                (none, .mv 5 (.t 22)),
                (none, .mv 6 (.t 23))])
             (.seq (.ops [(none, .mv 24 (.t 6))])
              (.cond (.t 24) (.seq (.ops [(none, .fieldAddr 25 (.t 1) 0),
                   (none, .load1 26 (.t 25)),
                   (none, .fieldAddr 27 (.t 1) 1),
                   (none, .load1 28 (.t 27)),
                   (none, .fieldAddr 29 (.t 1) 2),
                   (none, .load1 30 (.t 29)),
                   (none, .call (some 31) F.spec_l2Empty [(.t 26), (.t 28), (.t 30)]),
                   (none, .mv 32 (.t 5)),
                   (none, .call (some 33) F.spec_l2Made [(.t 31), (.t 32)]),
                   (none, .store 4 (.t 2) (.t 33))])
                (.ret))
               (.skip)))))
           (.ops [(none, .mv 14 (.t 4)),
              (none, .bin 15 .add (.t 14) (.c (.I 1))),
              (none, .mv 4 (.t 15))]))))))
      (.seq (.ops [(none, .loadN 34 6 (.t 1)),
          (none, .call (some 35) F.spec_l3Allowed [(.t 34)]),
          (none, .store 4 (.t 2) (.t 35))])
       (.ret))))⟩
def spec_l3Small : AFn :=
  ⟨1, 16, [.tmp 2],
    .seq (.ops [(none, .box 1 (.t 0)),
       (none, .mv 2 (.c (.B false)))])
    (.seq (.ops [(none, .loadN 3 6 (.t 1)),
        (none, .call (some 4) F.spec_l3Fit [(.t 3)]),
        (none, .mv 5 (.t 4)),
        (some (5, true), .fieldAddr 6 (.t 1) 0),
        (some (5, true), .load1 7 (.t 6)),
        (some (5, true), .fieldAddr 8 (.t 1) 1),
        (some (5, true), .load1 9 (.t 8)),
        (some (5, true), .bin 10 .mul (.t 7) (.t 9)),
        (some (5, true), .fieldAddr 11 (.t 1) 2),
        (some (5, true), .load1 12 (.t 11)),
        (some (5, true), .bin 13 .mul (.t 10) (.t 12)),
        (some (5, true), .bin 14 .leq (.t 13) (.c (.I 27))),
        (none, .pick 15 (.t 5) (.t 14) (.c (.B false))),
        (none, .mv 2 (.t 15))])
     (.ret))⟩
def spec_FirstFewest : AFn :=
  ⟨1, 10, [.cellN 2 4, .tmp 3],
    .seq (.ops [(none, .box 1 (.t 0)),
       (none, .alloc 2 [(.I 0), (.I 0), (.I 0), .nil]),
       (none, .mv 3 (.c (.B false)))])
    (.seq (.seq (.ops [(none, .loadN 4 6 (.t 1)),
         (none, .call (some 5) F.spec_l3Small [(.t 4)]),
         (none, .un 6 .not (.t 5))])
      (.cond (.t 6) (.seq (.ops [(none, .build 7 [(.I 0), (.I 0), (.I 0), .nil] []),
           (none, .store 4 (.t 2) (.t 7)),
           (none, .mv 3 (.c (.B false)))])
        (.ret))
       (.skip)))
     (.seq (.ops [(none, .loadN 8 6 (.t 1)),
         (none, .call (some 9) F.spec_l3Fewest [(.t 8)]),
         (none, .store 4 (.t 2) (.t 9)),
         (none, .mv 3 (.c (.B true)))])
      (.ret)))⟩
end Go.Ab.C

/- That the program has this code. -/
namespace Go.Ab.K
open Go Go.Ab
theorem spec_l3Fewest : prepF Go.Proofs.Try.prog F.spec_l3Fewest = some C.spec_l3Fewest := by kernel_rfl
theorem spec_l3Small : prepF Go.Proofs.Try.prog F.spec_l3Small = some C.spec_l3Small := by kernel_rfl
theorem spec_FirstFewest : prepF Go.Proofs.Try.prog F.spec_FirstFewest = some C.spec_FirstFewest := by kernel_rfl
end Go.Ab.K

/- The abstract code of some functions (written by a program of mine from the translation, by way of prepF). -/
namespace Go.Ab.C
open Go.Ab
def spec_l3Search : AFn :=
  ⟨5, 107, [.tmp 10, .tmp 11],
    .seq (.ops [(none, .box 5 (.t 0)),
       (none, .mv 10 (.c .nil)),
       (none, .mv 11 (.c (.B false)))])
    (.seq (.ops [(none, .loadN 18 6 (.t 5)),
        (none, .mv 19 (.t 3)),
        (none, .call (some 20) F.spec_l3Dark [(.t 18), (.t 19)]),
        (none, .mv 12 (.t 20))])
     (.seq (.ops [(none, .mv 13 (.c (.I 0)))])
      (.seq (.seq (.ops [(none, .mv 14 (.c (.I 0)))])
        (.block 0 (.loop (.seq (.seq (.ops [(none, .mv 21 (.t 14)),
               (none, .mv 22 (.t 12)),
               (none, .len 23 (.t 22)),
               (none, .bin 24 .lss (.t 21) (.t 23))])
            (.cond (.t 24) (.skip)
             (.exit 0)))
           (.seq (.block 1 (.seq (.ops [(none, .mv 27 (.t 12)),
                 (none, .mv 28 (.t 14)),
                 (none, .idxS 29 1 (.t 27) (.t 28)),
                 (none, .load1 30 (.t 29))])
              (.cond (.t 30) (.ops [(none, .mv 31 (.t 13)),
                  (none, .bin 32 .add (.t 31) (.c (.I 1))),
                  (none, .mv 13 (.t 32))])
               (.skip))))
            (.ops [(none, .mv 25 (.t 14)),
               (none, .bin 26 .add (.t 25) (.c (.I 1))),
               (none, .mv 14 (.t 26))]))))))
       (.seq (.seq (.ops [(none, .mv 33 (.t 13)),
            (none, .bin 34 .eql (.t 33) (.c (.I 0))),
            (none, .mv 35 (.t 34)),
            (some (35, true), .mv 36 (.t 3)),
            (some (35, true), .len 37 (.t 36)),
            (some (35, true), .mv 38 (.t 4)),
            (some (35, true), .bin 39 .eql (.t 37) (.t 38)),
            (none, .pick 40 (.t 35) (.t 39) (.c (.B false)))])
         (.cond (.t 40) (.seq (.ops [(none, .mv 41 (.t 3)),
              (none, .mv 10 (.t 41)),
              (none, .mv 11 (.c (.B true)))])
           (.ret))
          (.skip)))
        (.seq (.seq (.draw [⟨(none, .mv 42 (.t 13)), [], []⟩,
             ⟨(none, .mv 43 (.t 4)), [], []⟩,
             ⟨(none, .mv 44 (.t 3)), [], []⟩,
             ⟨(none, .len 45 (.t 44)), [], []⟩,
             ⟨(none, .bin 46 .sub (.t 43) (.t 45)), [], []⟩,
             ⟨(none, .bin 47 .mul (.c (.I 3)) (.t 46)), [], []⟩,
             ⟨(none, .bin 48 .gtr (.t 42) (.t 47)), [], []⟩,
             ⟨(none, .mv 49 (.t 48)), [], []⟩,
             ⟨(some (49, false), .mv 50 (.t 1)), [], []⟩,
             ⟨(some (49, false), .len 51 (.t 50)), [], []⟩,
             ⟨(some (49, false), .mv 52 (.t 2)), [], []⟩,
             ⟨(some (49, false), .bin 53 .sub (.t 51) (.t 52)), [], []⟩,
             ⟨(some (49, false), .mv 54 (.t 4)), [], []⟩,
             ⟨(some (49, false), .mv 55 (.t 3)), [], []⟩,
             ⟨(some (49, false), .len 56 (.t 55)), [], []⟩,
             ⟨(some (49, false), .bin 57 .sub (.t 54) (.t 56)), [], []⟩,
             ⟨(some (49, false), .bin 58 .lss (.t 53) (.t 57)), [], []⟩,
             ⟨(none, .pick 59 (.t 49) (.c (.B true)) (.t 58)), [], []⟩,
             ⟨(none, .mv 60 (.t 59)), [], []⟩,
             ⟨(some (60, false), .loadN 61 6 (.t 5)), [], []⟩,
             ⟨(some (60, false), .mv 62 (.t 1)), [], []⟩,
             ⟨(some (60, false), .mv 63 (.t 2)), [], []⟩,
             ⟨(some (60, false), .slS 64 3 (.t 62) (some (.t 63)) none), [], []⟩,
             ⟨(some (60, false), .mv 65 (.t 12)), [], []⟩,
             ⟨(some (60, false), .call (some 66) F.spec_l3Can [(.t 61), (.t 64), (.t 65)]), [], []⟩,
             ⟨(some (60, false), .un 67 .not (.t 66)), [], []⟩,
             ⟨(none, .pick 68 (.t 60) (.c (.B true)) (.t 67)), [], []⟩])
          (.cond (.t 68) (.seq (.ops [(none, .buildSl 69 0 3 [] []),
               (none, .mv 10 (.t 69)),
               (none, .mv 11 (.c (.B false)))])
            (.ret))
           (.skip)))
         (.seq (.seq (.ops [(none, .mv 70 (.t 2)),
              (none, .mv 15 (.t 70))])
           (.block 2 (.loop (.seq (.seq (.ops [(none, .mv 71 (.t 15)),
                  (none, .mv 72 (.t 1)),
                  (none, .len 73 (.t 72)),
                  (none, .bin 74 .lss (.t 71) (.t 73))])
               (.cond (.t 74) (.skip)
                (.exit 2)))
              (.seq (.block 3 (.seq (.seq (.draw [⟨(none, .loadN 78 6 (.t 5)), [], []⟩,
                     ⟨(none, .mv 79 (.t 1)), [], []⟩,
                     ⟨(none, .mv 80 (.t 15)), [], []⟩,
                     ⟨(none, .bin 81 .add (.t 80) (.c (.I 1))), [], []⟩,
                     ⟨(none, .mv 83 (.t 3)), [], []⟩,
                     ⟨(none, .mv 85 (.t 1)), [], []⟩,
                     ⟨(none, .mv 86 (.t 15)), [], []⟩,
                     ⟨(none, .idxS 87 3 (.t 85) (.t 86)), [], []⟩,
                     ⟨(none, .loadN 88 3 (.t 87)), [], []⟩,
                     ⟨(none, .mv 91 (.t 4)), [], []⟩,
                     ⟨(none, .buildSl 82 0 3 [] []), [], []⟩,
                     ⟨(none, .buildSl 89 1 3 [(.I 0), (.I 0), (.I 0)] [(0, 3, (.t 88))]), [], []⟩,
                     ⟨(none, .append 84 3 24 (.t 82) (.t 83)), [11], [0, 1, 2, 3, 5, 6, 7, 8, 9]⟩,
                     ⟨(none, .append 90 3 24 (.t 84) (.t 89)), [], [0, 1, 2, 3, 9]⟩,
                     ⟨(none, .call (some 92) F.spec_l3Search [(.t 78), (.t 79), (.t 81), (.t 90), (.t 91)]), [], []⟩,
                     ⟨(none, .mv 77 (.t 92)), [], []⟩,
                     ⟨(none, .extract 93 (.t 77) 0), [], []⟩,
                     ⟨(none, .extract 94 (.t 77) 1), [], []⟩,
                     ⟨(none, .mv 16 (.t 93)), [], []⟩,
                     ⟨(none, .mv 17 (.t 94)), [], []⟩])
                  (.seq (.ops [(none, .mv 95 (.t 17))])
                   (.cond (.t 95) (.seq (.ops [(none, .mv 96 (.t 16)),
                        (none, .mv 10 (.t 96)),
                        (none, .mv 11 (.c (.B true)))])
                     (.ret))
                    (.skip))))
                 (.seq (.draw [⟨(none, .loadN 97 6 (.t 5)), [], []⟩,
                     ⟨(none, .mv 98 (.t 1)), [], []⟩,
                     ⟨(none, .mv 99 (.t 15)), [], []⟩,
                     ⟨(none, .bin 100 .add (.t 99) (.c (.I 1))), [], []⟩,
                     ⟨(none, .slS 101 3 (.t 98) (some (.t 100)) none), [], []⟩,
                     ⟨(none, .mv 102 (.t 12)), [], []⟩,
                     ⟨(none, .call (some 103) F.spec_l3Can [(.t 97), (.t 101), (.t 102)]), [], []⟩,
                     ⟨(none, .un 104 .not (.t 103)), [], []⟩])
                  (.cond (.t 104) (.seq (.ops [(none, .buildSl 105 0 3 [] []),
                       (none, .mv 10 (.t 105)),
                       (none, .mv 11 (.c (.B false)))])
                    (.ret))
                   (.skip)))))
               (.ops [(none, .mv 75 (.t 15)),
                  (none, .bin 76 .add (.t 75) (.c (.I 1))),
                  (none, .mv 15 (.t 76))]))))))
          (.seq (.ops [(none, .buildSl 106 0 3 [] []),
              (none, .mv 10 (.t 106)),
              (none, .mv 11 (.c (.B false)))])
           (.ret))))))))⟩
end Go.Ab.C

/- That the program has this code. -/
namespace Go.Ab.K
open Go Go.Ab
theorem spec_l3Search : prepF Go.Proofs.Try.prog F.spec_l3Search = some C.spec_l3Search := by kernel_rfl
end Go.Ab.K

/- The abstract code of some functions (written by a program of mine from the translation, by way of prepF). -/
namespace Go.Ab.C
open Go.Ab
def spec_l3Can : AFn :=
  ⟨3, 53, [.tmp 6],
    .seq (.ops [(none, .box 3 (.t 0)),
       (none, .mv 6 (.c (.B false)))])
    (.seq (.ops [(none, .mv 12 (.t 2)),
        (none, .len 13 (.t 12)),
        (none, .mksl 14 1 1 [(.B false)] (.t 13) (.t 13)),
        (none, .mv 7 (.t 14))])
     (.seq (.seq (.ops [(none, .mv 8 (.c (.I 0)))])
       (.block 0 (.loop (.seq (.seq (.ops [(none, .mv 15 (.t 8)),
              (none, .mv 16 (.t 1)),
              (none, .len 17 (.t 16)),
              (none, .bin 18 .lss (.t 15) (.t 17))])
           (.cond (.t 18) (.skip)
            (.exit 0)))
          (.seq (.block 1 (.seq (.draw [⟨(none, .loadN 21 6 (.t 3)), [], []⟩,
                ⟨(none, .mv 22 (.t 1)), [], []⟩,
                ⟨(none, .mv 23 (.t 8)), [], []⟩,
                ⟨(none, .idxS 24 3 (.t 22) (.t 23)), [], []⟩,
                ⟨(none, .loadN 25 3 (.t 24)), [], []⟩,
                ⟨(none, .alloc 9 [(.I 0), (.I 0), (.I 0)]), [], []⟩,
                ⟨(none, .call (some 26) F.spec_l3Lines [(.t 21), (.t 25)]), [5], []⟩,
                ⟨(none, .store 3 (.t 9) (.t 26)), [], []⟩])
             (.seq (.ops [(none, .mv 10 (.c (.I 0)))])
              (.block 2 (.loop (.seq (.seq (.ops [(none, .mv 27 (.t 10)),
                     (none, .bin 28 .lss (.t 27) (.c (.I 3)))])
                  (.cond (.t 28) (.skip)
                   (.exit 2)))
                 (.seq (.block 3 (.ops [(none, .mv 31 (.t 7)),
                      (none, .mv 32 (.t 10)),
                      (none, .idxA 33 3 1 (.t 9) (.t 32)),
                      (none, .load1 34 (.t 33)),
                      (none, .idxS 35 1 (.t 31) (.t 34)),
                      (none, .store 1 (.t 35) (.c (.B true)))]))
                  (.ops [(none, .mv 29 (.t 10)),
                     (none, .bin 30 .add (.t 29) (.c (.I 1))),
                     (none, .mv 10 (.t 30))]))))))))
           (.ops [(none, .mv 19 (.t 8)),
              (none, .bin 20 .add (.t 19) (.c (.I 1))),
              (none, .mv 8 (.t 20))]))))))
      (.seq (.seq (.ops [(none, .mv 11 (.c (.I 0)))])
        (.block 4 (.loop (.seq (.seq (.ops [(none, .mv 36 (.t 11)),
               (none, .mv 37 (.t 2)),
               (none, .len 38 (.t 37)),
               (none, .bin 39 .lss (.t 36) (.t 38))])
            (.cond (.t 39) (.skip)
             (.exit 4)))
           (.seq (.block 5 (.seq (.ops [(none, .mv 42 (.t 2)),
                 (none, .mv 43 (.t 11)),
                 (none, .idxS 44 1 (.t 42) (.t 43)),
                 (none, .load1 45 (.t 44)),
                 (none, .mv 46 (.t 45)),
                 (some (46, true), .mv 47 (.t 7)),
                 (some (46, true), .mv 48 (.t 11)),
                 (some (46, true), .idxS 49 1 (.t 47) (.t 48)),
                 (some (46, true), .load1 50 (.t 49)),
                 (some (46, true), .un 51 .not (.t 50)),
                 (none, .pick 52 (.t 46) (.t 51) (.c (.B false)))])
              (.cond (.t 52) (.seq (.ops [(none, .mv 6 (.c (.B false)))])
                (.ret))
               (.skip))))
            (.ops [(none, .mv 40 (.t 11)),
               (none, .bin 41 .add (.t 40) (.c (.I 1))),
               (none, .mv 11 (.t 41))]))))))
       (.seq (.ops [(none, .mv 6 (.c (.B true)))])
        (.ret)))))⟩
end Go.Ab.C

/- That the program has this code. -/
namespace Go.Ab.K
open Go Go.Ab
theorem spec_l3Can : prepF Go.Proofs.Try.prog F.spec_l3Can = some C.spec_l3Can := by kernel_rfl
end Go.Ab.K

/- The abstract code of some functions (written by a program of mine from the translation, by way of prepF). -/
namespace Go.Ab.C
open Go.Ab
def spec_l1Own : AFn :=
  ⟨1, 6, [.tmp 2],
    .seq (.ops [(none, .mv 2 (.c .nil))])
    (.seq (.ops [(none, .buildSl 3 0 1 [] []),
        (none, .mv 4 (.t 0)),
        (none, .append 5 1 8 (.t 3) (.t 4)),
        (none, .mv 2 (.t 5))])
     (.ret))⟩
def spec_l3Lines : AFn :=
  ⟨2, 48, [.cellN 4 3],
    .seq (.ops [(none, .box 2 (.t 0)),
       (none, .box 3 (.t 1)),
       (none, .alloc 4 [(.I 0), (.I 0), (.I 0)])])
    (.seq (.ops [(none, .fieldAddr 7 (.t 2) 0),
        (none, .load1 8 (.t 7)),
        (none, .fieldAddr 9 (.t 2) 1),
        (none, .load1 10 (.t 9)),
        (none, .bin 11 .mul (.t 8) (.t 10)),
        (none, .mv 5 (.t 11))])
     (.seq (.ops [(none, .mv 12 (.t 5)),
         (none, .fieldAddr 13 (.t 2) 0),
         (none, .load1 14 (.t 13)),
         (none, .fieldAddr 15 (.t 2) 2),
         (none, .load1 16 (.t 15)),
         (none, .bin 17 .mul (.t 14) (.t 16)),
         (none, .bin 18 .add (.t 12) (.t 17)),
         (none, .mv 6 (.t 18))])
      (.seq (.ops [(none, .idxA 19 3 1 (.t 3) (.c (.I 0))),
          (none, .load1 20 (.t 19)),
          (none, .fieldAddr 21 (.t 2) 1),
          (none, .load1 22 (.t 21)),
          (none, .bin 23 .mul (.t 20) (.t 22)),
          (none, .idxA 24 3 1 (.t 3) (.c (.I 1))),
          (none, .load1 25 (.t 24)),
          (none, .bin 26 .add (.t 23) (.t 25)),
          (none, .mv 27 (.t 5)),
          (none, .idxA 28 3 1 (.t 3) (.c (.I 0))),
          (none, .load1 29 (.t 28)),
          (none, .fieldAddr 30 (.t 2) 2),
          (none, .load1 31 (.t 30)),
          (none, .bin 32 .mul (.t 29) (.t 31)),
          (none, .bin 33 .add (.t 27) (.t 32)),
          (none, .idxA 34 3 1 (.t 3) (.c (.I 2))),
          (none, .load1 35 (.t 34)),
          (none, .bin 36 .add (.t 33) (.t 35)),
          (none, .mv 37 (.t 6)),
          (none, .idxA 38 3 1 (.t 3) (.c (.I 1))),
          (none, .load1 39 (.t 38)),
          (none, .fieldAddr 40 (.t 2) 2),
          (none, .load1 41 (.t 40)),
          (none, .bin 42 .mul (.t 39) (.t 41)),
          (none, .bin 43 .add (.t 37) (.t 42)),
          (none, .idxA 44 3 1 (.t 3) (.c (.I 2))),
          (none, .load1 45 (.t 44)),
          (none, .bin 46 .add (.t 43) (.t 45)),
          (none, .build 47 [(.I 0), (.I 0), (.I 0)] [(0, 1, (.t 26)), (1, 1, (.t 36)), (2, 1, (.t 46))]),
          (none, .store 3 (.t 4) (.t 47))])
       (.ret))))⟩
def spec_l3Dark : AFn :=
  ⟨2, 57, [.tmp 4],
    .seq (.ops [(none, .box 2 (.t 0)),
       (none, .mv 4 (.c .nil))])
    (.seq (.ops [(none, .buildSl 11 0 1 [] []),
        (none, .mv 5 (.t 11))])
     (.seq (.draw [⟨(none, .fieldAddr 12 (.t 2) 3), [], []⟩,
         ⟨(none, .load1 13 (.t 12)), [], []⟩,
         ⟨(none, .fieldAddr 15 (.t 2) 4), [], []⟩,
         ⟨(none, .load1 16 (.t 15)), [], []⟩,
         ⟨(none, .fieldAddr 18 (.t 2) 5), [], []⟩,
         ⟨(none, .load1 19 (.t 18)), [], []⟩,
         ⟨(none, .call (some 14) F.spec_l1Own [(.t 13)]), [], [2, 3, 4, 5]⟩,
         ⟨(none, .append 17 1 8 (.t 14) (.t 16)), [], [4, 5]⟩,
         ⟨(none, .append 20 1 8 (.t 17) (.t 19)), [], []⟩,
         ⟨(none, .mv 6 (.t 20)), [], []⟩])
      (.seq (.seq (.ops [(none, .mv 7 (.c (.I 0)))])
        (.block 0 (.loop (.seq (.seq (.ops [(none, .mv 21 (.t 7)),
               (none, .mv 22 (.t 6)),
               (none, .len 23 (.t 22)),
               (none, .bin 24 .lss (.t 21) (.t 23))])
            (.cond (.t 24) (.skip)
             (.exit 0)))
           (.seq (.block 1 (.ops [(none, .mv 27 (.t 5)),
                (none, .mv 28 (.t 6)),
                (none, .mv 29 (.t 7)),
                (none, .idxS 30 1 (.t 28) (.t 29)),
                (none, .load1 31 (.t 30)),
                (none, .bin 32 .eql (.t 31) (.c (.I 1))),
                (none, .buildSl 33 1 1 [(.B false)] [(0, 1, (.t 32))]),
                (none, .append 34 1 1 (.t 27) (.t 33)),
                (none, .mv 5 (.t 34))]))
            (.ops [(none, .mv 25 (.t 7)),
               (none, .bin 26 .add (.t 25) (.c (.I 1))),
               (none, .mv 7 (.t 26))]))))))
       (.seq (.seq (.ops [(none, .mv 8 (.c (.I 0)))])
         (.block 2 (.loop (.seq (.seq (.ops [(none, .mv 35 (.t 8)),
                (none, .mv 36 (.t 1)),
                (none, .len 37 (.t 36)),
                (none, .bin 38 .lss (.t 35) (.t 37))])
             (.cond (.t 38) (.skip)
              (.exit 2)))
            (.seq (.block 3 (.seq (.draw [⟨(none, .loadN 41 6 (.t 2)), [], []⟩,
                  ⟨(none, .mv 42 (.t 1)), [], []⟩,
                  ⟨(none, .mv 43 (.t 8)), [], []⟩,
                  ⟨(none, .idxS 44 3 (.t 42) (.t 43)), [], []⟩,
                  ⟨(none, .loadN 45 3 (.t 44)), [], []⟩,
                  ⟨(none, .alloc 9 [(.I 0), (.I 0), (.I 0)]), [], []⟩,
                  ⟨(none, .call (some 46) F.spec_l3Lines [(.t 41), (.t 45)]), [5], []⟩,
                  ⟨(none, .store 3 (.t 9) (.t 46)), [], []⟩])
               (.seq (.ops [(none, .mv 10 (.c (.I 0)))])
                (.block 4 (.loop (.seq (.seq (.ops [(none, .mv 47 (.t 10)),
                       (none, .bin 48 .lss (.t 47) (.c (.I 3)))])
                    (.cond (.t 48) (.skip)
                     (.exit 4)))
                   (.seq (.block 5 (.ops [(none, .mv 51 (.t 5)),
                        (none, .mv 52 (.t 10)),
                        (none, .idxA 53 3 1 (.t 9) (.t 52)),
                        (none, .load1 54 (.t 53)),
                        (none, .idxS 55 1 (.t 51) (.t 54)),
                        (none, .store 1 (.t 55) (.c (.B false)))]))
                    (.ops [(none, .mv 49 (.t 10)),
                       (none, .bin 50 .add (.t 49) (.c (.I 1))),
                       (none, .mv 10 (.t 50))]))))))))
             (.ops [(none, .mv 39 (.t 8)),
                (none, .bin 40 .add (.t 39) (.c (.I 1))),
                (none, .mv 8 (.t 40))]))))))
        (.seq (.ops [(none, .mv 56 (.t 5)),
            (none, .mv 4 (.t 56))])
         (.ret))))))⟩
end Go.Ab.C

/- That the program has this code. -/
namespace Go.Ab.K
open Go Go.Ab
theorem spec_l1Own : prepF Go.Proofs.Try.prog F.spec_l1Own = some C.spec_l1Own := by kernel_rfl
theorem spec_l3Lines : prepF Go.Proofs.Try.prog F.spec_l3Lines = some C.spec_l3Lines := by kernel_rfl
theorem spec_l3Dark : prepF Go.Proofs.Try.prog F.spec_l3Dark = some C.spec_l3Dark := by kernel_rfl
end Go.Ab.K

/- The abstract code of some functions (written by a program of mine from the translation, by way of prepF). -/
namespace Go.Ab.C
open Go.Ab
def impl_box_view : AFn :=
  ⟨3, 33, [.tmp 6],
    .seq (.ops [(none, .box 3 (.t 0)),
       (none, .mv 6 (.c .nil))])
    (.seq (.ops [(none, .loadN 10 3 (.t 3)),
        (none, .mv 11 (.t 2)),
        (none, .call (some 12) F.impl_box_lines [(.t 10), (.t 11)]),
        (none, .mksl 13 1 8 [(.I 0)] (.t 12) (.t 12)),
        (none, .mv 7 (.t 13))])
     (.seq (.seq (.ops [(none, .loadN 14 3 (.t 3)),
          (none, .mv 15 (.t 1)),
          (none, .call (some 16) F.impl_box_list [(.t 14), (.t 15)]),
          (none, .len 17 (.t 16)),
          (none, .mv 18 (.c (.I 0)))])
       (.block 0 (.loop (.seq (.ops [(none, .bin 19 .lss (.t 18) (.t 17))])
          (.seq (.cond (.t 19) (.skip)
            (.exit 0))
           (.seq (.block 1 (.seq (.ops [(none, .idxS 20 3 (.t 16) (.t 18)),
                 (none, .loadN 21 3 (.t 20)),
                 (none, .alloc 9 [(.I 0), (.I 0), (.I 0)]),
                 (none, .store 3 (.t 9) (.t 21))])
              (.ops [(none, .mv 22 (.t 7)),
                 (none, .loadN 23 3 (.t 3)),
                 (none, .loadN 24 3 (.t 9)),
                 (none, .mv 25 (.t 2)),
                 (none, .call (some 26) F.impl_box_line [(.t 23), (.t 24), (.t 25)]),
                 (none, .idxS 27 1 (.t 22) (.t 26)),
                 (none, .load1 28 (.t 27)),
                 (none, .bin 29 .add (.t 28) (.c (.I 1))),
                 (none, .idxS 30 1 (.t 22) (.t 26)),
                 (none, .store 1 (.t 30) (.t 29))])))
            (.ops [(none, .bin 31 .add (.t 18) (.c (.I 1))),
               (none, .mv 18 (.t 31))])))))))
      (.seq (.ops [(none, .mv 32 (.t 7)),
          (none, .mv 6 (.t 32))])
       (.ret))))⟩
end Go.Ab.C

/- That the program has this code. -/
namespace Go.Ab.K
open Go Go.Ab
theorem impl_box_view : prepF Go.Proofs.Try.prog F.impl_box_view = some C.impl_box_view := by kernel_rfl
end Go.Ab.K

/- The abstract code of some functions (written by a program of mine from the translation, by way of prepF). -/
namespace Go.Ab.C
open Go.Ab
def impl_others : AFn :=
  ⟨1, 9, [.tmp 2, .tmp 3],
    .seq (.ops [(none, .mv 2 (.c (.I 0))),
       (none, .mv 3 (.c (.I 0)))])
    (.seq (.seq (.ops [(none, .mv 4 (.t 0))])
      (.block 0 (.seq (.ops [(none, .bin 6 .eql (.t 4) (.c (.I 0))),
           (none, .mv 5 (.t 6))])
        (.cond (.t 5) (.seq (.ops [(none, .mv 2 (.c (.I 1))),
             (none, .mv 3 (.c (.I 2)))])
          (.ret))
         (.seq (.ops [(none, .bin 8 .eql (.t 4) (.c (.I 1))),
             (none, .mv 7 (.t 8))])
          (.cond (.t 7) (.seq (.ops [(none, .mv 2 (.c (.I 0))),
               (none, .mv 3 (.c (.I 2)))])
            (.ret))
           (.skip)))))))
     (.seq (.ops [(none, .mv 2 (.c (.I 0))),
         (none, .mv 3 (.c (.I 1)))])
      (.ret)))⟩
def impl_box_line : AFn :=
  ⟨3, 25, [.tmp 6],
    .seq (.ops [(none, .box 3 (.t 0)),
       (none, .box 4 (.t 1)),
       (none, .mv 6 (.c (.I 0)))])
    (.seq (.ops [(none, .mv 10 (.t 2)),
        (none, .call (some 11) F.impl_others [(.t 10)]),
        (none, .mv 9 (.t 11)),
        (none, .extract 12 (.t 9) 0),
        (none, .extract 13 (.t 9) 1),
        (none, .mv 7 (.t 12)),
        (none, .mv 8 (.t 13))])
     (.seq (.draw [⟨(none, .mv 14 (.t 7)), [], []⟩,
         ⟨(none, .idxA 15 3 1 (.t 4) (.t 14)), [], []⟩,
         ⟨(none, .load1 16 (.t 15)), [], []⟩,
         ⟨(none, .mv 17 (.t 8)), [], []⟩,
         ⟨(none, .idxA 18 3 1 (.t 3) (.t 17)), [], []⟩,
         ⟨(none, .load1 19 (.t 18)), [], []⟩,
         ⟨(none, .bin 20 .mul (.t 16) (.t 19)), [], []⟩,
         ⟨(none, .mv 21 (.t 8)), [], []⟩,
         ⟨(none, .idxA 22 3 1 (.t 4) (.t 21)), [], []⟩,
         ⟨(none, .load1 23 (.t 22)), [], []⟩,
         ⟨(none, .bin 24 .add (.t 20) (.t 23)), [], []⟩,
         ⟨(none, .mv 6 (.t 24)), [], []⟩])
      (.ret)))⟩
end Go.Ab.C

/- That the program has this code. -/
namespace Go.Ab.K
open Go Go.Ab
theorem impl_others : prepF Go.Proofs.Try.prog F.impl_others = some C.impl_others := by kernel_rfl
theorem impl_box_line : prepF Go.Proofs.Try.prog F.impl_box_line = some C.impl_box_line := by kernel_rfl
end Go.Ab.K

/- The abstract code of some functions (written by a program of mine from the translation, by way of prepF). -/
namespace Go.Ab.C
open Go.Ab
def impl_IsShadow : AFn :=
  ⟨1, 28, [.tmp 2],
    .seq (.ops [(none, .box 1 (.t 0)),
       (none, .mv 2 (.c (.B false)))])
    (.seq (.seq (.ops [(none, .loadN 5 6 (.t 1)),
         (none, .call (some 6) F.impl_Shadow_box [(.t 5)]),
         (none, .call (some 7) F.impl_box_valid [(.t 6)]),
         (none, .un 8 .not (.t 7))])
      (.cond (.t 8) (.seq (.ops [(none, .mv 2 (.c (.B false)))])
        (.ret))
       (.skip)))
     (.seq (.seq (.ops [(none, .mv 9 (.c (.I 0)))])
       (.block 0 (.loop (.seq (.ops [(none, .bin 10 .lss (.t 9) (.c (.I 3)))])
          (.seq (.cond (.t 10) (.skip)
            (.exit 0))
           (.seq (.block 1 (.seq (.ops [(none, .mv 11 (.t 9)),
                 (none, .mv 3 (.t 11))])
              (.seq (.ops [(none, .loadN 12 6 (.t 1)),
                  (none, .mv 13 (.t 3)),
                  (none, .call (some 14) F.impl_Shadow_list [(.t 12), (.t 13)]),
                  (none, .mv 4 (.t 14))])
               (.seq (.ops [(none, .mv 15 (.t 4)),
                   (none, .len 16 (.t 15)),
                   (none, .loadN 17 6 (.t 1)),
                   (none, .call (some 18) F.impl_Shadow_box [(.t 17)]),
                   (none, .mv 19 (.t 3)),
                   (none, .call (some 20) F.impl_box_lines [(.t 18), (.t 19)]),
                   (none, .bin 21 .neq (.t 16) (.t 20)),
                   (none, .mv 22 (.t 21)),
                   (some (22, false), .mv 23 (.t 4)),
                   (some (22, false), .call (some 24) F.impl_allWithin [(.t 23), (.c (.I 0)), (.c (.I 1))]),
                   (some (22, false), .un 25 .not (.t 24)),
                   (none, .pick 26 (.t 22) (.c (.B true)) (.t 25))])
                (.cond (.t 26) (.seq (.ops [(none, .mv 2 (.c (.B false)))])
                  (.ret))
                 (.skip))))))
            (.ops [(none, .bin 27 .add (.t 9) (.c (.I 1))),
               (none, .mv 9 (.t 27))])))))))
      (.seq (.ops [(none, .mv 2 (.c (.B true)))])
       (.ret))))⟩
def impl_box_lines : AFn :=
  ⟨2, 11, [.tmp 4],
    .seq (.ops [(none, .box 2 (.t 0)),
       (none, .mv 4 (.c (.I 0)))])
    (.seq (.draw [⟨(none, .loadN 5 3 (.t 2)), [], []⟩,
        ⟨(none, .mv 7 (.t 1)), [], []⟩,
        ⟨(none, .idxA 8 3 1 (.t 2) (.t 7)), [], []⟩,
        ⟨(none, .load1 9 (.t 8)), [], []⟩,
        ⟨(none, .call (some 6) F.impl_box_size [(.t 5)]), [], [1, 2, 3]⟩,
        ⟨(none, .bin 10 .quo (.t 6) (.t 9)), [], []⟩,
        ⟨(none, .mv 4 (.t 10)), [], []⟩])
     (.ret))⟩
def impl_Shadow_box : AFn :=
  ⟨1, 10, [.cellN 2 3],
    .seq (.ops [(none, .box 1 (.t 0)),
       (none, .alloc 2 [(.I 0), (.I 0), (.I 0)])])
    (.seq (.ops [(none, .fieldAddr 3 (.t 1) 0),
        (none, .load1 4 (.t 3)),
        (none, .fieldAddr 5 (.t 1) 1),
        (none, .load1 6 (.t 5)),
        (none, .fieldAddr 7 (.t 1) 2),
        (none, .load1 8 (.t 7)),
        (none, .build 9 [(.I 0), (.I 0), (.I 0)] [(0, 1, (.t 4)), (1, 1, (.t 6)), (2, 1, (.t 8))]),
        (none, .store 3 (.t 2) (.t 9))])
     (.ret))⟩
def impl_Shadow_list : AFn :=
  ⟨2, 14, [.tmp 4],
    .seq (.ops [(none, .box 2 (.t 0)),
       (none, .mv 4 (.c .nil))])
    (.seq (.ops [(none, .fieldAddr 5 (.t 2) 5),
        (none, .load1 6 (.t 5)),
        (none, .fieldAddr 7 (.t 2) 4),
        (none, .load1 8 (.t 7)),
        (none, .fieldAddr 9 (.t 2) 3),
        (none, .load1 10 (.t 9)),
        (none, .build 11 [.nil, .nil, .nil] [(0, 1, (.t 6)), (1, 1, (.t 8)), (2, 1, (.t 10))]),
        (none, .mv 12 (.t 1)),
        (none, .index 13 3 1 false (.t 11) (.t 12)),
        (none, .mv 4 (.t 13))])
     (.ret))⟩
end Go.Ab.C

/- That the program has this code. -/
namespace Go.Ab.K
open Go Go.Ab
theorem impl_IsShadow : prepF Go.Proofs.Try.prog F.impl_IsShadow = some C.impl_IsShadow := by kernel_rfl
theorem impl_box_lines : prepF Go.Proofs.Try.prog F.impl_box_lines = some C.impl_box_lines := by kernel_rfl
theorem impl_Shadow_box : prepF Go.Proofs.Try.prog F.impl_Shadow_box = some C.impl_Shadow_box := by kernel_rfl
theorem impl_Shadow_list : prepF Go.Proofs.Try.prog F.impl_Shadow_list = some C.impl_Shadow_list := by kernel_rfl
end Go.Ab.K

/- The abstract code of some functions (written by a program of mine from the translation, by way of prepF). -/
namespace Go.Ab.C
open Go.Ab
def spec_l3Ones : AFn :=
  ⟨2, 22, [.tmp 4],
    .seq (.ops [(none, .mv 4 (.c (.B false)))])
    (.seq (.seq (.ops [(none, .mv 5 (.c (.I 0)))])
      (.block 0 (.loop (.seq (.seq (.ops [(none, .mv 6 (.t 5)),
             (none, .mv 7 (.t 0)),
             (none, .len 8 (.t 7)),
             (none, .bin 9 .lss (.t 6) (.t 8))])
          (.cond (.t 9) (.skip)
           (.exit 0)))
         (.seq (.block 1 (.seq (.ops [(none, .mv 12 (.t 0)),
               (none, .mv 13 (.t 5)),
               (none, .idxS 14 1 (.t 12) (.t 13)),
               (none, .load1 15 (.t 14)),
               (none, .call (some 16) F.spec_l1In [(.t 15), (.c (.I 0)), (.c (.I 1))]),
               (none, .un 17 .not (.t 16))])
            (.cond (.t 17) (.seq (.ops [(none, .mv 4 (.c (.B false)))])
              (.ret))
             (.skip))))
          (.ops [(none, .mv 10 (.t 5)),
             (none, .bin 11 .add (.t 10) (.c (.I 1))),
             (none, .mv 5 (.t 11))]))))))
     (.seq (.ops [(none, .mv 18 (.t 0)),
         (none, .len 19 (.t 18)),
         (none, .mv 20 (.t 1)),
         (none, .bin 21 .eql (.t 19) (.t 20)),
         (none, .mv 4 (.t 21))])
      (.ret)))⟩
def spec_l3Shadow : AFn :=
  ⟨1, 40, [.tmp 2],
    .seq (.ops [(none, .box 1 (.t 0)),
       (none, .mv 2 (.c (.B false)))])
    (.seq (.ops [(none, .fieldAddr 3 (.t 1) 0),
        (none, .load1 4 (.t 3)),
        (none, .fieldAddr 5 (.t 1) 1),
        (none, .load1 6 (.t 5)),
        (none, .fieldAddr 7 (.t 1) 2),
        (none, .load1 8 (.t 7)),
        (none, .call (some 9) F.spec_l2Sides [(.t 4), (.t 6), (.t 8)]),
        (none, .mv 10 (.t 9)),
        (some (10, true), .fieldAddr 11 (.t 1) 3),
        (some (10, true), .load1 12 (.t 11)),
        (some (10, true), .fieldAddr 13 (.t 1) 0),
        (some (10, true), .load1 14 (.t 13)),
        (some (10, true), .fieldAddr 15 (.t 1) 1),
        (some (10, true), .load1 16 (.t 15)),
        (some (10, true), .bin 17 .mul (.t 14) (.t 16)),
        (some (10, true), .call (some 18) F.spec_l3Ones [(.t 12), (.t 17)]),
        (none, .pick 19 (.t 10) (.t 18) (.c (.B false))),
        (none, .mv 20 (.t 19)),
        (some (20, true), .fieldAddr 21 (.t 1) 4),
        (some (20, true), .load1 22 (.t 21)),
        (some (20, true), .fieldAddr 23 (.t 1) 0),
        (some (20, true), .load1 24 (.t 23)),
        (some (20, true), .fieldAddr 25 (.t 1) 2),
        (some (20, true), .load1 26 (.t 25)),
        (some (20, true), .bin 27 .mul (.t 24) (.t 26)),
        (some (20, true), .call (some 28) F.spec_l3Ones [(.t 22), (.t 27)]),
        (none, .pick 29 (.t 20) (.t 28) (.c (.B false))),
        (none, .mv 30 (.t 29)),
        (some (30, true), .fieldAddr 31 (.t 1) 5),
        (some (30, true), .load1 32 (.t 31)),
        (some (30, true), .fieldAddr 33 (.t 1) 1),
        (some (30, true), .load1 34 (.t 33)),
        (some (30, true), .fieldAddr 35 (.t 1) 2),
        (some (30, true), .load1 36 (.t 35)),
        (some (30, true), .bin 37 .mul (.t 34) (.t 36)),
        (some (30, true), .call (some 38) F.spec_l3Ones [(.t 32), (.t 37)]),
        (none, .pick 39 (.t 30) (.t 38) (.c (.B false))),
        (none, .mv 2 (.t 39))])
     (.ret))⟩
def impl_allWithin : AFn :=
  ⟨3, 21, [.tmp 6],
    .seq (.ops [(none, .mv 6 (.c (.B false)))])
    (.seq (.seq (.ops [(none, .mv 9 (.t 0)),
         (none, .len 10 (.t 9)),
         (none, .mv 11 (.c (.I 0)))])
      (.block 0 (.loop (.seq (.ops [(none, .bin 12 .lss (.t 11) (.t 10))])
         (.seq (.cond (.t 12) (.skip)
           (.exit 0))
          (.seq (.block 1 (.seq (.ops [(none, .idxS 13 1 (.t 9) (.t 11)),
                (none, .load1 14 (.t 13)),
                (none, .mv 8 (.t 14))])
             (.seq (.ops [(none, .mv 15 (.t 8)),
                 (none, .mv 16 (.t 1)),
                 (none, .mv 17 (.t 2)),
                 (none, .call (some 18) F.impl_within [(.t 15), (.t 16), (.t 17)]),
                 (none, .un 19 .not (.t 18))])
              (.cond (.t 19) (.seq (.ops [(none, .mv 6 (.c (.B false)))])
                (.ret))
               (.skip)))))
           (.ops [(none, .bin 20 .add (.t 11) (.c (.I 1))),
              (none, .mv 11 (.t 20))])))))))
     (.seq (.ops [(none, .mv 6 (.c (.B true)))])
      (.ret)))⟩
end Go.Ab.C

/- That the program has this code. -/
namespace Go.Ab.K
open Go Go.Ab
theorem spec_l3Ones : prepF Go.Proofs.Try.prog F.spec_l3Ones = some C.spec_l3Ones := by kernel_rfl
theorem spec_l3Shadow : prepF Go.Proofs.Try.prog F.spec_l3Shadow = some C.spec_l3Shadow := by kernel_rfl
theorem impl_allWithin : prepF Go.Proofs.Try.prog F.impl_allWithin = some C.impl_allWithin := by kernel_rfl
end Go.Ab.K

/- The abstract code of some functions (written by a program of mine from the translation, by way of prepF). -/
namespace Go.Ab.C
open Go.Ab
def impl_within : AFn :=
  ⟨3, 15, [.tmp 6],
    .seq (.ops [(none, .mv 6 (.c (.B false)))])
    (.seq (.ops [(none, .mv 7 (.t 0)),
        (none, .mv 8 (.t 1)),
        (none, .bin 9 .geq (.t 7) (.t 8)),
        (none, .mv 10 (.t 9)),
        (some (10, true), .mv 11 (.t 0)),
        (some (10, true), .mv 12 (.t 2)),
        (some (10, true), .bin 13 .leq (.t 11) (.t 12)),
        (none, .pick 14 (.t 10) (.t 13) (.c (.B false))),
        (none, .mv 6 (.t 14))])
     (.ret))⟩
def impl_box_valid : AFn :=
  ⟨1, 16, [.tmp 2],
    .seq (.ops [(none, .box 1 (.t 0)),
       (none, .mv 2 (.c (.B false)))])
    (.seq (.ops [(none, .idxA 3 3 1 (.t 1) (.c (.I 0))),
        (none, .load1 4 (.t 3)),
        (none, .call (some 5) F.impl_within [(.t 4), (.c (.I 1)), (.c (.I 4))]),
        (none, .mv 6 (.t 5)),
        (some (6, true), .idxA 7 3 1 (.t 1) (.c (.I 1))),
        (some (6, true), .load1 8 (.t 7)),
        (some (6, true), .call (some 9) F.impl_within [(.t 8), (.c (.I 1)), (.c (.I 4))]),
        (none, .pick 10 (.t 6) (.t 9) (.c (.B false))),
        (none, .mv 11 (.t 10)),
        (some (11, true), .idxA 12 3 1 (.t 1) (.c (.I 2))),
        (some (11, true), .load1 13 (.t 12)),
        (some (11, true), .call (some 14) F.impl_within [(.t 13), (.c (.I 1)), (.c (.I 4))]),
        (none, .pick 15 (.t 11) (.t 14) (.c (.B false))),
        (none, .mv 2 (.t 15))])
     (.ret))⟩
end Go.Ab.C

/- That the program has this code. -/
namespace Go.Ab.K
open Go Go.Ab
theorem impl_within : prepF Go.Proofs.Try.prog F.impl_within = some C.impl_within := by kernel_rfl
theorem impl_box_valid : prepF Go.Proofs.Try.prog F.impl_box_valid = some C.impl_box_valid := by kernel_rfl
end Go.Ab.K

/- Plain words for heaps: sides, cells, order, heights of columns. -/
namespace Go.Ab

def Sides (x y z : Int) : Prop := (1 ≤ x ∧ x ≤ 4) ∧ (1 ≤ y ∧ y ≤ 4) ∧ (1 ≤ z ∧ z ≤ 4)
instance (x y z : Int) : Decidable (Sides x y z) := by unfold Sides; infer_instance
def Cell.lt (p q : Cell) : Prop := p.a < q.a ∨ (p.a = q.a ∧ (p.b < q.b ∨ (p.b = q.b ∧ p.c < q.c)))
instance (p q : Cell) : Decidable (p.lt q) := by unfold Cell.lt; infer_instance
def Cell.inBox (x y z : Int) (c : Cell) : Prop := (0 ≤ c.a ∧ c.a ≤ x - 1) ∧ (0 ≤ c.b ∧ c.b ≤ y - 1) ∧ (0 ≤ c.c ∧ c.c ≤ z - 1)
instance (x y z : Int) (c : Cell) : Decidable (c.inBox x y z) := by unfold Cell.inBox; infer_instance
/-- A valid heap. -/
def HeapOK (x y z : Int) (cs : List Cell) : Prop :=
  Sides x y z ∧ ∀ k, k < cs.length → (cs.getD k default).inBox x y z ∧ (0 < k → (cs.getD (k - 1) default).lt (cs.getD k default))
noncomputable instance (x y z : Int) (cs : List Cell) : Decidable (HeapOK x y z cs) := Classical.propDecidable _

/-- The heights of columns. -/
def topStep (y : Int) (out : List Int) (c : Cell) : List Int := out.set (c.a * y + c.b).toNat (max (out.getD (c.a * y + c.b).toNat 0) (c.c + 1))
def topsOf (x y : Int) (cs : List Cell) : List Int := cs.foldl (topStep y) (List.replicate (x * y).toNat 0)

def apart (p q : Cell) : Int := max (p.a - q.a) (q.a - p.a) + max (p.b - q.b) (q.b - p.b) + max (p.c - q.c) (q.c - p.c)
def colOf (y p : Int) : Cell := ⟨p.tdiv y, p.tmod y, 0⟩
def nums (n : Nat) : List Int := (List.range n).map Int.ofNat
def nexts (x y p : Int) : List Int := (nums (x * y).toNat).filter fun q => decide (apart (colOf y p) (colOf y q) = 1)
def gap (a b : Int) : Int := max (a - b) (b - a)
def stepsOf (x y : Int) (ts : List Int) (p s : Int) : List Int := (nexts x y p).filter fun q => decide (gap (ts.getD q.toNat 0) (ts.getD p.toNat 0) ≤ s)

end Go.Ab

/- Contracts: the program's boxes, cells, valid heaps. -/
namespace Go.Ab
open Go
set_option linter.unusedSimpArgs false
set_option linter.unusedVariables false

theorem g_within {n lo hi : Int} {M : Mem} : CallsTo PG F.impl_within [.I n, .I lo, .I hi] M (.B (decide (lo ≤ n ∧ n ≤ hi))) M := by
  refine calls_run K.impl_within rfl ?_
  simp (disch := omega) only [C.impl_within, ↓SXd, SXu, slBounds, ↓sop, ↓aop, ↓reduceIte, LV.cells, AOp.dst, LV.I, LV.B, LV.U, LV.S, LV.nil, Nat.reduceEqDiff, Nat.reduceAdd, Nat.reduceMul, Nat.reduceSub, Nat.reduceLeDiff, Nat.reduceBEq, Nat.reduceDiv, Nat.reduceMod, Int.reduceToNat, Int.reduceLT, Int.reduceLE, Int.reduceAdd, Int.reduceSub, Int.reduceMul, Int.reduceEq, Int.reduceNeg, reduceCtorEq, resV, resAll, ARes.ev, LV.flat, ite_true, ite_false, exists_eq_left', exists_eq_left, keyOf, implies_true, fillC, capOf]
  by_cases h1 : lo ≤ n
  · simp (disch := omega) only [h1, ↓SXd, SXu, slBounds, ↓sop, ↓aop, ↓reduceIte, LV.cells, AOp.dst, LV.I, LV.B, LV.U, LV.S, LV.nil, Nat.reduceEqDiff, Nat.reduceAdd, Nat.reduceMul, Nat.reduceSub, Nat.reduceLeDiff, Nat.reduceBEq, Nat.reduceDiv, Nat.reduceMod, Int.reduceToNat, Int.reduceLT, Int.reduceLE, Int.reduceAdd, Int.reduceSub, Int.reduceMul, Int.reduceEq, Int.reduceNeg, reduceCtorEq, resV, resAll, ARes.ev, LV.flat, ite_true, ite_false, exists_eq_left', exists_eq_left, keyOf, implies_true, fillC, capOf]
    exact cmp_drop0 rfl
  · simp (disch := omega) only [h1, ↓SXd, SXu, slBounds, ↓sop, ↓aop, ↓reduceIte, LV.cells, AOp.dst, LV.I, LV.B, LV.U, LV.S, LV.nil, Nat.reduceEqDiff, Nat.reduceAdd, Nat.reduceMul, Nat.reduceSub, Nat.reduceLeDiff, Nat.reduceBEq, Nat.reduceDiv, Nat.reduceMod, Int.reduceToNat, Int.reduceLT, Int.reduceLE, Int.reduceAdd, Int.reduceSub, Int.reduceMul, Int.reduceEq, Int.reduceNeg, reduceCtorEq, resV, resAll, ARes.ev, LV.flat, ite_true, ite_false, exists_eq_left', exists_eq_left, keyOf, implies_true, fillC, capOf]
    exact cmp_drop0 rfl

theorem g_valid {x y z : Int} {M : Mem} : CallsTo PG F.impl_box_valid [.agg [.I x, .I y, .I z]] M (.B (decide (Sides x y z))) M := by
  refine calls_run K.impl_box_valid rfl ?_
  simp (disch := omega) only [C.impl_box_valid, ↓SXd, SXu, slBounds, ↓sop, ↓aop, ↓reduceIte, LV.cells, AOp.dst, LV.I, LV.B, LV.U, LV.S, LV.nil, Nat.reduceEqDiff, Nat.reduceAdd, Nat.reduceMul, Nat.reduceSub, Nat.reduceLeDiff, Nat.reduceBEq, Nat.reduceDiv, Nat.reduceMod, Int.reduceToNat, Int.reduceLT, Int.reduceLE, Int.reduceAdd, Int.reduceSub, Int.reduceMul, Int.reduceEq, Int.reduceNeg, reduceCtorEq, resV, resAll, ARes.ev, LV.flat, ite_true, ite_false, exists_eq_left', exists_eq_left, keyOf, implies_true, fillC, capOf]
  refine callK_of g_within ?_
  simp (disch := omega) only [↓SXd, SXu, slBounds, ↓sop, ↓aop, ↓reduceIte, LV.cells, AOp.dst, LV.I, LV.B, LV.U, LV.S, LV.nil, Nat.reduceEqDiff, Nat.reduceAdd, Nat.reduceMul, Nat.reduceSub, Nat.reduceLeDiff, Nat.reduceBEq, Nat.reduceDiv, Nat.reduceMod, Int.reduceToNat, Int.reduceLT, Int.reduceLE, Int.reduceAdd, Int.reduceSub, Int.reduceMul, Int.reduceEq, Int.reduceNeg, reduceCtorEq, resV, resAll, ARes.ev, LV.flat, ite_true, ite_false, exists_eq_left', exists_eq_left, keyOf, implies_true, fillC, capOf]
  unfold Sides
  by_cases h1 : 1 ≤ x ∧ x ≤ 4
  · simp (disch := omega) only [h1, ↓SXd, SXu, slBounds, ↓sop, ↓aop, ↓reduceIte, LV.cells, AOp.dst, LV.I, LV.B, LV.U, LV.S, LV.nil, Nat.reduceEqDiff, Nat.reduceAdd, Nat.reduceMul, Nat.reduceSub, Nat.reduceLeDiff, Nat.reduceBEq, Nat.reduceDiv, Nat.reduceMod, Int.reduceToNat, Int.reduceLT, Int.reduceLE, Int.reduceAdd, Int.reduceSub, Int.reduceMul, Int.reduceEq, Int.reduceNeg, reduceCtorEq, resV, resAll, ARes.ev, LV.flat, ite_true, ite_false, exists_eq_left', exists_eq_left, keyOf, implies_true, fillC, capOf]
    refine callK_of g_within ?_
    simp (disch := omega) only [↓SXd, SXu, slBounds, ↓sop, ↓aop, ↓reduceIte, LV.cells, AOp.dst, LV.I, LV.B, LV.U, LV.S, LV.nil, Nat.reduceEqDiff, Nat.reduceAdd, Nat.reduceMul, Nat.reduceSub, Nat.reduceLeDiff, Nat.reduceBEq, Nat.reduceDiv, Nat.reduceMod, Int.reduceToNat, Int.reduceLT, Int.reduceLE, Int.reduceAdd, Int.reduceSub, Int.reduceMul, Int.reduceEq, Int.reduceNeg, reduceCtorEq, resV, resAll, ARes.ev, LV.flat, ite_true, ite_false, exists_eq_left', exists_eq_left, keyOf, implies_true, fillC, capOf]
    by_cases h2 : 1 ≤ y ∧ y ≤ 4
    · simp (disch := omega) only [h2, ↓SXd, SXu, slBounds, ↓sop, ↓aop, ↓reduceIte, LV.cells, AOp.dst, LV.I, LV.B, LV.U, LV.S, LV.nil, Nat.reduceEqDiff, Nat.reduceAdd, Nat.reduceMul, Nat.reduceSub, Nat.reduceLeDiff, Nat.reduceBEq, Nat.reduceDiv, Nat.reduceMod, Int.reduceToNat, Int.reduceLT, Int.reduceLE, Int.reduceAdd, Int.reduceSub, Int.reduceMul, Int.reduceEq, Int.reduceNeg, reduceCtorEq, resV, resAll, ARes.ev, LV.flat, ite_true, ite_false, exists_eq_left', exists_eq_left, keyOf, implies_true, fillC, capOf]
      refine callK_of g_within ?_
      simp (disch := omega) only [↓SXd, SXu, slBounds, ↓sop, ↓aop, ↓reduceIte, LV.cells, AOp.dst, LV.I, LV.B, LV.U, LV.S, LV.nil, Nat.reduceEqDiff, Nat.reduceAdd, Nat.reduceMul, Nat.reduceSub, Nat.reduceLeDiff, Nat.reduceBEq, Nat.reduceDiv, Nat.reduceMod, Int.reduceToNat, Int.reduceLT, Int.reduceLE, Int.reduceAdd, Int.reduceSub, Int.reduceMul, Int.reduceEq, Int.reduceNeg, reduceCtorEq, resV, resAll, ARes.ev, LV.flat, ite_true, ite_false, exists_eq_left', exists_eq_left, keyOf, implies_true, fillC, capOf]
      exact cmp_drop rfl
    · simp (disch := omega) only [h2, false_and, ↓SXd, SXu, slBounds, ↓sop, ↓aop, ↓reduceIte, LV.cells, AOp.dst, LV.I, LV.B, LV.U, LV.S, LV.nil, Nat.reduceEqDiff, Nat.reduceAdd, Nat.reduceMul, Nat.reduceSub, Nat.reduceLeDiff, Nat.reduceBEq, Nat.reduceDiv, Nat.reduceMod, Int.reduceToNat, Int.reduceLT, Int.reduceLE, Int.reduceAdd, Int.reduceSub, Int.reduceMul, Int.reduceEq, Int.reduceNeg, reduceCtorEq, resV, resAll, ARes.ev, LV.flat, ite_true, ite_false, exists_eq_left', exists_eq_left, keyOf, implies_true, fillC, capOf]
      exact cmp_drop rfl
  · simp (disch := omega) only [h1, false_and, ↓SXd, SXu, slBounds, ↓sop, ↓aop, ↓reduceIte, LV.cells, AOp.dst, LV.I, LV.B, LV.U, LV.S, LV.nil, Nat.reduceEqDiff, Nat.reduceAdd, Nat.reduceMul, Nat.reduceSub, Nat.reduceLeDiff, Nat.reduceBEq, Nat.reduceDiv, Nat.reduceMod, Int.reduceToNat, Int.reduceLT, Int.reduceLE, Int.reduceAdd, Int.reduceSub, Int.reduceMul, Int.reduceEq, Int.reduceNeg, reduceCtorEq, resV, resAll, ARes.ev, LV.flat, ite_true, ite_false, exists_eq_left', exists_eq_left, keyOf, implies_true, fillC, capOf]
    exact cmp_drop rfl

def cmpI (a b : Int) : Int := if a < b then -1 else if b < a then 1 else 0
/-- Two lists of numbers, compared. -/
def cmpL : List Int → List Int → Int
  | [], [] => 0
  | [], _ :: _ => -1
  | _ :: _, [] => 1
  | a :: r, b :: r' => if cmpI a b = 0 then cmpL r r' else cmpI a b

end Go.Ab

/- The abstract code of some functions (written by a program of mine from the translation, by way of prepF). -/
namespace Go.Ab.C
open Go.Ab
def spec_l1In : AFn :=
  ⟨3, 15, [.tmp 6],
    .seq (.ops [(none, .mv 6 (.c (.B false)))])
    (.seq (.ops [(none, .mv 7 (.t 0)),
        (none, .mv 8 (.t 1)),
        (none, .bin 9 .geq (.t 7) (.t 8)),
        (none, .mv 10 (.t 9)),
        (some (10, true), .mv 11 (.t 0)),
        (some (10, true), .mv 12 (.t 2)),
        (some (10, true), .bin 13 .leq (.t 11) (.t 12)),
        (none, .pick 14 (.t 10) (.t 13) (.c (.B false))),
        (none, .mv 6 (.t 14))])
     (.ret))⟩
def spec_l2Sides : AFn :=
  ⟨3, 17, [.tmp 6],
    .seq (.ops [(none, .mv 6 (.c (.B false)))])
    (.seq (.ops [(none, .mv 7 (.t 0)),
        (none, .call (some 8) F.spec_l1In [(.t 7), (.c (.I 1)), (.c (.I 4))]),
        (none, .mv 9 (.t 8)),
        (some (9, true), .mv 10 (.t 1)),
        (some (9, true), .call (some 11) F.spec_l1In [(.t 10), (.c (.I 1)), (.c (.I 4))]),
        (none, .pick 12 (.t 9) (.t 11) (.c (.B false))),
        (none, .mv 13 (.t 12)),
        (some (13, true), .mv 14 (.t 2)),
        (some (13, true), .call (some 15) F.spec_l1In [(.t 14), (.c (.I 1)), (.c (.I 4))]),
        (none, .pick 16 (.t 13) (.t 15) (.c (.B false))),
        (none, .mv 6 (.t 16))])
     (.ret))⟩
end Go.Ab.C

/- That the program has this code. -/
namespace Go.Ab.K
open Go Go.Ab
theorem spec_l1In : prepF Go.Proofs.Try.prog F.spec_l1In = some C.spec_l1In := by kernel_rfl
theorem spec_l2Sides : prepF Go.Proofs.Try.prog F.spec_l2Sides = some C.spec_l2Sides := by kernel_rfl
end Go.Ab.K

/- Contracts: the reference's heaps and columns. -/
namespace Go.Ab
open Go
set_option linter.unusedSimpArgs false
set_option linter.unusedVariables false

theorem h_l1In {n lo hi : Int} {M : Mem} : CallsTo PG F.spec_l1In [.I n, .I lo, .I hi] M (.B (decide (lo ≤ n ∧ n ≤ hi))) M := by
  refine calls_run K.spec_l1In rfl ?_
  simp (disch := omega) only [C.spec_l1In, ↓SXd, SXu, slBounds, ↓sop, ↓aop, ↓reduceIte, LV.cells, AOp.dst, LV.I, LV.B, LV.U, LV.S, LV.nil, Nat.reduceEqDiff, Nat.reduceAdd, Nat.reduceMul, Nat.reduceSub, Nat.reduceLeDiff, Nat.reduceBEq, Nat.reduceDiv, Nat.reduceMod, Int.reduceToNat, Int.reduceLT, Int.reduceLE, Int.reduceAdd, Int.reduceSub, Int.reduceMul, Int.reduceEq, Int.reduceNeg, reduceCtorEq, resV, resAll, ARes.ev, LV.flat, ite_true, ite_false, exists_eq_left', exists_eq_left, keyOf, implies_true, fillC, capOf]
  by_cases h1 : lo ≤ n
  · simp (disch := omega) only [h1, ↓SXd, SXu, slBounds, ↓sop, ↓aop, ↓reduceIte, LV.cells, AOp.dst, LV.I, LV.B, LV.U, LV.S, LV.nil, Nat.reduceEqDiff, Nat.reduceAdd, Nat.reduceMul, Nat.reduceSub, Nat.reduceLeDiff, Nat.reduceBEq, Nat.reduceDiv, Nat.reduceMod, Int.reduceToNat, Int.reduceLT, Int.reduceLE, Int.reduceAdd, Int.reduceSub, Int.reduceMul, Int.reduceEq, Int.reduceNeg, reduceCtorEq, resV, resAll, ARes.ev, LV.flat, ite_true, ite_false, exists_eq_left', exists_eq_left, keyOf, implies_true, fillC, capOf]
    exact cmp_drop0 rfl
  · simp (disch := omega) only [h1, ↓SXd, SXu, slBounds, ↓sop, ↓aop, ↓reduceIte, LV.cells, AOp.dst, LV.I, LV.B, LV.U, LV.S, LV.nil, Nat.reduceEqDiff, Nat.reduceAdd, Nat.reduceMul, Nat.reduceSub, Nat.reduceLeDiff, Nat.reduceBEq, Nat.reduceDiv, Nat.reduceMod, Int.reduceToNat, Int.reduceLT, Int.reduceLE, Int.reduceAdd, Int.reduceSub, Int.reduceMul, Int.reduceEq, Int.reduceNeg, reduceCtorEq, resV, resAll, ARes.ev, LV.flat, ite_true, ite_false, exists_eq_left', exists_eq_left, keyOf, implies_true, fillC, capOf]
    exact cmp_drop0 rfl

theorem h_l2Sides {x y z : Int} {M : Mem} : CallsTo PG F.spec_l2Sides [.I x, .I y, .I z] M (.B (decide (Sides x y z))) M := by
  refine calls_run K.spec_l2Sides rfl ?_
  simp (disch := omega) only [C.spec_l2Sides, ↓SXd, SXu, slBounds, ↓sop, ↓aop, ↓reduceIte, LV.cells, AOp.dst, LV.I, LV.B, LV.U, LV.S, LV.nil, Nat.reduceEqDiff, Nat.reduceAdd, Nat.reduceMul, Nat.reduceSub, Nat.reduceLeDiff, Nat.reduceBEq, Nat.reduceDiv, Nat.reduceMod, Int.reduceToNat, Int.reduceLT, Int.reduceLE, Int.reduceAdd, Int.reduceSub, Int.reduceMul, Int.reduceEq, Int.reduceNeg, reduceCtorEq, resV, resAll, ARes.ev, LV.flat, ite_true, ite_false, exists_eq_left', exists_eq_left, keyOf, implies_true, fillC, capOf]
  refine callK_of h_l1In ?_
  simp (disch := omega) only [↓SXd, SXu, slBounds, ↓sop, ↓aop, ↓reduceIte, LV.cells, AOp.dst, LV.I, LV.B, LV.U, LV.S, LV.nil, Nat.reduceEqDiff, Nat.reduceAdd, Nat.reduceMul, Nat.reduceSub, Nat.reduceLeDiff, Nat.reduceBEq, Nat.reduceDiv, Nat.reduceMod, Int.reduceToNat, Int.reduceLT, Int.reduceLE, Int.reduceAdd, Int.reduceSub, Int.reduceMul, Int.reduceEq, Int.reduceNeg, reduceCtorEq, resV, resAll, ARes.ev, LV.flat, ite_true, ite_false, exists_eq_left', exists_eq_left, keyOf, implies_true, fillC, capOf]
  unfold Sides
  by_cases h1 : 1 ≤ x ∧ x ≤ 4
  · simp (disch := omega) only [h1, ↓SXd, SXu, slBounds, ↓sop, ↓aop, ↓reduceIte, LV.cells, AOp.dst, LV.I, LV.B, LV.U, LV.S, LV.nil, Nat.reduceEqDiff, Nat.reduceAdd, Nat.reduceMul, Nat.reduceSub, Nat.reduceLeDiff, Nat.reduceBEq, Nat.reduceDiv, Nat.reduceMod, Int.reduceToNat, Int.reduceLT, Int.reduceLE, Int.reduceAdd, Int.reduceSub, Int.reduceMul, Int.reduceEq, Int.reduceNeg, reduceCtorEq, resV, resAll, ARes.ev, LV.flat, ite_true, ite_false, exists_eq_left', exists_eq_left, keyOf, implies_true, fillC, capOf]
    refine callK_of h_l1In ?_
    simp (disch := omega) only [↓SXd, SXu, slBounds, ↓sop, ↓aop, ↓reduceIte, LV.cells, AOp.dst, LV.I, LV.B, LV.U, LV.S, LV.nil, Nat.reduceEqDiff, Nat.reduceAdd, Nat.reduceMul, Nat.reduceSub, Nat.reduceLeDiff, Nat.reduceBEq, Nat.reduceDiv, Nat.reduceMod, Int.reduceToNat, Int.reduceLT, Int.reduceLE, Int.reduceAdd, Int.reduceSub, Int.reduceMul, Int.reduceEq, Int.reduceNeg, reduceCtorEq, resV, resAll, ARes.ev, LV.flat, ite_true, ite_false, exists_eq_left', exists_eq_left, keyOf, implies_true, fillC, capOf]
    by_cases h2 : 1 ≤ y ∧ y ≤ 4
    · simp (disch := omega) only [h2, ↓SXd, SXu, slBounds, ↓sop, ↓aop, ↓reduceIte, LV.cells, AOp.dst, LV.I, LV.B, LV.U, LV.S, LV.nil, Nat.reduceEqDiff, Nat.reduceAdd, Nat.reduceMul, Nat.reduceSub, Nat.reduceLeDiff, Nat.reduceBEq, Nat.reduceDiv, Nat.reduceMod, Int.reduceToNat, Int.reduceLT, Int.reduceLE, Int.reduceAdd, Int.reduceSub, Int.reduceMul, Int.reduceEq, Int.reduceNeg, reduceCtorEq, resV, resAll, ARes.ev, LV.flat, ite_true, ite_false, exists_eq_left', exists_eq_left, keyOf, implies_true, fillC, capOf]
      refine callK_of h_l1In ?_
      simp (disch := omega) only [↓SXd, SXu, slBounds, ↓sop, ↓aop, ↓reduceIte, LV.cells, AOp.dst, LV.I, LV.B, LV.U, LV.S, LV.nil, Nat.reduceEqDiff, Nat.reduceAdd, Nat.reduceMul, Nat.reduceSub, Nat.reduceLeDiff, Nat.reduceBEq, Nat.reduceDiv, Nat.reduceMod, Int.reduceToNat, Int.reduceLT, Int.reduceLE, Int.reduceAdd, Int.reduceSub, Int.reduceMul, Int.reduceEq, Int.reduceNeg, reduceCtorEq, resV, resAll, ARes.ev, LV.flat, ite_true, ite_false, exists_eq_left', exists_eq_left, keyOf, implies_true, fillC, capOf]
      exact cmp_drop0 rfl
    · simp (disch := omega) only [h2, false_and, ↓SXd, SXu, slBounds, ↓sop, ↓aop, ↓reduceIte, LV.cells, AOp.dst, LV.I, LV.B, LV.U, LV.S, LV.nil, Nat.reduceEqDiff, Nat.reduceAdd, Nat.reduceMul, Nat.reduceSub, Nat.reduceLeDiff, Nat.reduceBEq, Nat.reduceDiv, Nat.reduceMod, Int.reduceToNat, Int.reduceLT, Int.reduceLE, Int.reduceAdd, Int.reduceSub, Int.reduceMul, Int.reduceEq, Int.reduceNeg, reduceCtorEq, resV, resAll, ARes.ev, LV.flat, ite_true, ite_false, exists_eq_left', exists_eq_left, keyOf, implies_true, fillC, capOf]
      exact cmp_drop0 rfl
  · simp (disch := omega) only [h1, false_and, ↓SXd, SXu, slBounds, ↓sop, ↓aop, ↓reduceIte, LV.cells, AOp.dst, LV.I, LV.B, LV.U, LV.S, LV.nil, Nat.reduceEqDiff, Nat.reduceAdd, Nat.reduceMul, Nat.reduceSub, Nat.reduceLeDiff, Nat.reduceBEq, Nat.reduceDiv, Nat.reduceMod, Int.reduceToNat, Int.reduceLT, Int.reduceLE, Int.reduceAdd, Int.reduceSub, Int.reduceMul, Int.reduceEq, Int.reduceNeg, reduceCtorEq, resV, resAll, ARes.ev, LV.flat, ite_true, ite_false, exists_eq_left', exists_eq_left, keyOf, implies_true, fillC, capOf]
    exact cmp_drop0 rfl

end Go.Ab
