/- Parts of the proof of FnTakingSaid: Je C_Ul K_Ul Ul Bu Bv Bw C_By K_By C_Bx K_Bx C_On K_On Om On C_Jd K_Jd C_He K_He Sg C_Hd K_Hd C_Hc K_Hc. -/
import Derived.Test.YtebgcnpkhojejaaA8
import Derived.Test.YtebgcnpkhojejaaA4
import Derived.Test.YtebgcnpkhojejaaA6
import Derived.Test.YtebgcnpkhojejaaA3
import Derived.Test.YtebgcnpkhojejaaProg
import Derived.KernelRfl
import Derived.Test.YtebgcnpkhojejaaA7
import Derived.Test.YtebgcnpkhojejaaA2
set_option linter.all false
/- Contracts: the law of pieces' helpers. -/
namespace Go.Ab
open Go
set_option linter.unusedSimpArgs false
set_option linter.unusedVariables false
set_option maxRecDepth 20000

theorem CellsV.lenV {N : Mem} {v : LV} {l : List Cell} (h : CellsV N v l) : lenV v = some (l.length : Int) := by
  rcases h with ⟨rfl, rfl⟩ | ⟨t, o, rfl, _⟩ <;> rfl
theorem CellsV.at {N : Mem} {v : LV} {l : List Cell} {k : Nat} (h : CellsV N v l) (hk : k < l.length) : ∃ t o, v = .ref t o l.length ∧ getCells N t (o + k * 3) 3 = some (l.getD k default).row := by
  rcases h with ⟨rfl, rfl⟩ | ⟨t, o, rfl, h⟩
  · simp at hk
  · exact ⟨t, o, rfl, Tri.get h hk⟩
theorem list_ext {α : Type} {l l' : List α} {d : α} (hl : l.length = l'.length) (h : ∀ j, j < l.length → l.getD j d = l'.getD j d) : l = l' := by
  apply List.ext_getElem hl
  intro i h2 h3
  have := h i h2
  simpa [h2, h3] using this
theorem k_vCells {l l' : List Cell} {v v' : LV} {M : Mem} (h : CellsV M v l) (h' : CellsV M v' l') (hn : l.length ≤ 1000000000) (hn' : l'.length ≤ 1000000000) : CallsTo PG F.laws_vCells [v, v'] M (.B (decide (l = l'))) M := by
  refine calls_run K.laws_vCells rfl ?_
  have hv := h.lenV
  have hv' := h'.lenV
  by_cases hl : (l.length : Int) = l'.length
  rotate_left
  · rw [decide_eq_false (fun e => hl (by rw [e]))]
    simp (disch := omega) only [C.laws_vCells, hv, hv', hl, ↓SXd, SXu, slBounds, ↓sop, ↓aop, ↓reduceIte, LV.cells, AOp.dst, LV.I, LV.B, LV.U, LV.S, LV.nil, Nat.reduceEqDiff, Nat.reduceAdd, Nat.reduceMul, Nat.reduceSub, Nat.reduceLeDiff, Nat.reduceBEq, Nat.reduceDiv, Nat.reduceMod, Int.reduceToNat, Int.reduceLT, Int.reduceLE, Int.reduceAdd, Int.reduceSub, Int.reduceMul, Int.reduceEq, Int.reduceNeg, reduceCtorEq, resV, resAll, ARes.ev, LV.flat, ite_true, ite_false, exists_eq_left', exists_eq_left, keyOf, implies_true, fillC, capOf]
    exact cmp_drop0 rfl
  have hln : l.length = l'.length := by omega
  simp (disch := omega) only [C.laws_vCells, hv, hv', hl, ↓SXd, SXu, slBounds, ↓sop, ↓aop, ↓reduceIte, LV.cells, AOp.dst, LV.I, LV.B, LV.U, LV.S, LV.nil, Nat.reduceEqDiff, Nat.reduceAdd, Nat.reduceMul, Nat.reduceSub, Nat.reduceLeDiff, Nat.reduceBEq, Nat.reduceDiv, Nat.reduceMod, Int.reduceToNat, Int.reduceLT, Int.reduceLE, Int.reduceAdd, Int.reduceSub, Int.reduceMul, Int.reduceEq, Int.reduceNeg, reduceCtorEq, resV, resAll, ARes.ev, LV.flat, ite_true, ite_false, exists_eq_left', exists_eq_left, keyOf, implies_true, fillC, capOf]
  refine ev_loop (fun m fr M' => ∃ k : Nat, k + m = l.length ∧ M' = M ∧ fr 0 = v ∧ fr 1 = v' ∧ fr 5 = .I k ∧ ∀ j, j < k → l.getD j default = l'.getD j default) l.length ⟨0, by omega, rfl, rfl, rfl, rfl, by omega⟩ ?_
  rintro m fr M' ⟨k, hk, rfl, h0, h1, h5, hj⟩
  simp (disch := omega) only [h0, h1, h5, hv, ↓SXd, SXu, slBounds, ↓sop, ↓aop, ↓reduceIte, LV.cells, AOp.dst, LV.I, LV.B, LV.U, LV.S, LV.nil, Nat.reduceEqDiff, Nat.reduceAdd, Nat.reduceMul, Nat.reduceSub, Nat.reduceLeDiff, Nat.reduceBEq, Nat.reduceDiv, Nat.reduceMod, Int.reduceToNat, Int.reduceLT, Int.reduceLE, Int.reduceAdd, Int.reduceSub, Int.reduceMul, Int.reduceEq, Int.reduceNeg, reduceCtorEq, resV, resAll, ARes.ev, LV.flat, ite_true, ite_false, exists_eq_left', exists_eq_left, keyOf, implies_true, fillC, capOf]
  refine condC_dec (fun hlt => ?_) (fun hlt => ?_)
  · obtain ⟨t, o, rfl, hg⟩ := h.at (k := k) (by omega)
    obtain ⟨t', o', rfl, hg'⟩ := h'.at (k := k) (by omega)
    simp (disch := omega) only [h0, h1, h5, hg, hg', Cell.row, eqV, eqC, if_true, ite_true, Bool.and_true, ↓SXd, SXu, slBounds, ↓sop, ↓aop, ↓reduceIte, LV.cells, AOp.dst, LV.I, LV.B, LV.U, LV.S, LV.nil, Nat.reduceEqDiff, Nat.reduceAdd, Nat.reduceMul, Nat.reduceSub, Nat.reduceLeDiff, Nat.reduceBEq, Nat.reduceDiv, Nat.reduceMod, Int.reduceToNat, Int.reduceLT, Int.reduceLE, Int.reduceAdd, Int.reduceSub, Int.reduceMul, Int.reduceEq, Int.reduceNeg, reduceCtorEq, resV, resAll, ARes.ev, LV.flat, ite_true, ite_false, exists_eq_left', exists_eq_left, keyOf, implies_true, fillC, capOf]
    rw [beq3]
    by_cases he : l.getD k default = l'.getD k default
    · simp (disch := omega) only [h0, h1, h5, he, ↓SXd, SXu, slBounds, ↓sop, ↓aop, ↓reduceIte, LV.cells, AOp.dst, LV.I, LV.B, LV.U, LV.S, LV.nil, Nat.reduceEqDiff, Nat.reduceAdd, Nat.reduceMul, Nat.reduceSub, Nat.reduceLeDiff, Nat.reduceBEq, Nat.reduceDiv, Nat.reduceMod, Int.reduceToNat, Int.reduceLT, Int.reduceLE, Int.reduceAdd, Int.reduceSub, Int.reduceMul, Int.reduceEq, Int.reduceNeg, reduceCtorEq, resV, resAll, ARes.ev, LV.flat, ite_true, ite_false, exists_eq_left', exists_eq_left, keyOf, implies_true, fillC, capOf]
      exact ⟨m - 1, by omega, k + 1, by omega, rfl, h0, h1, eqI (natI _), fun j hj1 => by
        rcases Nat.lt_or_ge j k with h2 | h2
        · exact hj j h2
        · rw [show j = k by omega]; exact he⟩
    · simp (disch := omega) only [h0, h1, h5, he, ↓SXd, SXu, slBounds, ↓sop, ↓aop, ↓reduceIte, LV.cells, AOp.dst, LV.I, LV.B, LV.U, LV.S, LV.nil, Nat.reduceEqDiff, Nat.reduceAdd, Nat.reduceMul, Nat.reduceSub, Nat.reduceLeDiff, Nat.reduceBEq, Nat.reduceDiv, Nat.reduceMod, Int.reduceToNat, Int.reduceLT, Int.reduceLE, Int.reduceAdd, Int.reduceSub, Int.reduceMul, Int.reduceEq, Int.reduceNeg, reduceCtorEq, resV, resAll, ARes.ev, LV.flat, ite_true, ite_false, exists_eq_left', exists_eq_left, keyOf, implies_true, fillC, capOf]
      rw [decide_eq_false (fun e => he (by rw [e]))]
      exact cmp_drop0 rfl
  · simp (disch := omega) only [h0, h1, h5, ↓SXd, SXu, slBounds, ↓sop, ↓aop, ↓reduceIte, LV.cells, AOp.dst, LV.I, LV.B, LV.U, LV.S, LV.nil, Nat.reduceEqDiff, Nat.reduceAdd, Nat.reduceMul, Nat.reduceSub, Nat.reduceLeDiff, Nat.reduceBEq, Nat.reduceDiv, Nat.reduceMod, Int.reduceToNat, Int.reduceLT, Int.reduceLE, Int.reduceAdd, Int.reduceSub, Int.reduceMul, Int.reduceEq, Int.reduceNeg, reduceCtorEq, resV, resAll, ARes.ev, LV.flat, ite_true, ite_false, exists_eq_left', exists_eq_left, keyOf, implies_true, fillC, capOf]
    rw [decide_eq_true (list_ext hln fun j hj1 => hj j (by omega))]
    exact cmp_drop0 rfl
theorem k_vIn {l : List Cell} {v : LV} {c : Cell} {M : Mem} (h : CellsV M v l) (hn : l.length ≤ 1000000000) : CallsTo PG F.laws_vIn [v, .agg [.I c.a, .I c.b, .I c.c]] M (.B (decide (c ∈ l))) M := by
  refine calls_run K.laws_vIn rfl ?_
  have hv := h.lenV
  simp (disch := omega) only [C.laws_vIn, ↓SXd, SXu, slBounds, ↓sop, ↓aop, ↓reduceIte, LV.cells, AOp.dst, LV.I, LV.B, LV.U, LV.S, LV.nil, Nat.reduceEqDiff, Nat.reduceAdd, Nat.reduceMul, Nat.reduceSub, Nat.reduceLeDiff, Nat.reduceBEq, Nat.reduceDiv, Nat.reduceMod, Int.reduceToNat, Int.reduceLT, Int.reduceLE, Int.reduceAdd, Int.reduceSub, Int.reduceMul, Int.reduceEq, Int.reduceNeg, reduceCtorEq, resV, resAll, ARes.ev, LV.flat, ite_true, ite_false, exists_eq_left', exists_eq_left, keyOf, implies_true, fillC, capOf]
  refine ev_loop (fun m fr M' => ∃ k : Nat, k + m = l.length ∧ Pre M M' ∧ Live M' M.length (.row c.row true 0) ∧ fr 0 = v ∧ fr 3 = .ptr M.length 0 ∧ fr 5 = .I k ∧ ∀ j, j < k → l.getD j default ≠ c) l.length ⟨0, by omega, Pre.app _ _, Live.new, rfl, rfl, rfl, by omega⟩ ?_
  rintro m fr M' ⟨k, hk, hpre, b3, h0, h3, h5, hj⟩
  simp (disch := omega) only [h0, h3, h5, hv, ↓SXd, SXu, slBounds, ↓sop, ↓aop, ↓reduceIte, LV.cells, AOp.dst, LV.I, LV.B, LV.U, LV.S, LV.nil, Nat.reduceEqDiff, Nat.reduceAdd, Nat.reduceMul, Nat.reduceSub, Nat.reduceLeDiff, Nat.reduceBEq, Nat.reduceDiv, Nat.reduceMod, Int.reduceToNat, Int.reduceLT, Int.reduceLE, Int.reduceAdd, Int.reduceSub, Int.reduceMul, Int.reduceEq, Int.reduceNeg, reduceCtorEq, resV, resAll, ARes.ev, LV.flat, ite_true, ite_false, exists_eq_left', exists_eq_left, keyOf, implies_true, fillC, capOf]
  refine condC_dec (fun hlt => ?_) (fun hlt => ?_)
  · obtain ⟨t, o, rfl, hg⟩ := (h.pre hpre).at (k := k) (by omega)
    simp (disch := omega) only [h0, h3, h5, hg, b3.cells, Cell.row, eqV, eqC, if_true, ite_true, Bool.and_true, ↓SXd, SXu, slBounds, ↓sop, ↓aop, ↓reduceIte, LV.cells, AOp.dst, LV.I, LV.B, LV.U, LV.S, LV.nil, Nat.reduceEqDiff, Nat.reduceAdd, Nat.reduceMul, Nat.reduceSub, Nat.reduceLeDiff, Nat.reduceBEq, Nat.reduceDiv, Nat.reduceMod, Int.reduceToNat, Int.reduceLT, Int.reduceLE, Int.reduceAdd, Int.reduceSub, Int.reduceMul, Int.reduceEq, Int.reduceNeg, reduceCtorEq, resV, resAll, ARes.ev, LV.flat, ite_true, ite_false, exists_eq_left', exists_eq_left, keyOf, implies_true, fillC, capOf]
    rw [beq3]
    by_cases he : l.getD k default = c
    · have hin : c ∈ l := by rw [← he]; exact getD_mem' (by omega)
      simp (disch := omega) only [h0, h3, h5, he, ↓SXd, SXu, slBounds, ↓sop, ↓aop, ↓reduceIte, LV.cells, AOp.dst, LV.I, LV.B, LV.U, LV.S, LV.nil, Nat.reduceEqDiff, Nat.reduceAdd, Nat.reduceMul, Nat.reduceSub, Nat.reduceLeDiff, Nat.reduceBEq, Nat.reduceDiv, Nat.reduceMod, Int.reduceToNat, Int.reduceLT, Int.reduceLE, Int.reduceAdd, Int.reduceSub, Int.reduceMul, Int.reduceEq, Int.reduceNeg, reduceCtorEq, resV, resAll, ARes.ev, LV.flat, ite_true, ite_false, exists_eq_left', exists_eq_left, keyOf, implies_true, fillC, capOf]
      rw [decide_eq_true hin]
      exact cmp_pre hpre rfl
    · simp (disch := omega) only [h0, h3, h5, he, ↓SXd, SXu, slBounds, ↓sop, ↓aop, ↓reduceIte, LV.cells, AOp.dst, LV.I, LV.B, LV.U, LV.S, LV.nil, Nat.reduceEqDiff, Nat.reduceAdd, Nat.reduceMul, Nat.reduceSub, Nat.reduceLeDiff, Nat.reduceBEq, Nat.reduceDiv, Nat.reduceMod, Int.reduceToNat, Int.reduceLT, Int.reduceLE, Int.reduceAdd, Int.reduceSub, Int.reduceMul, Int.reduceEq, Int.reduceNeg, reduceCtorEq, resV, resAll, ARes.ev, LV.flat, ite_true, ite_false, exists_eq_left', exists_eq_left, keyOf, implies_true, fillC, capOf]
      exact ⟨m - 1, by omega, k + 1, by omega, hpre, b3, h0, h3, eqI (natI _), fun j hj1 => by
        rcases Nat.lt_or_ge j k with h2 | h2
        · exact hj j h2
        · rw [show j = k by omega]; exact he⟩
  · simp (disch := omega) only [h0, h3, h5, ↓SXd, SXu, slBounds, ↓sop, ↓aop, ↓reduceIte, LV.cells, AOp.dst, LV.I, LV.B, LV.U, LV.S, LV.nil, Nat.reduceEqDiff, Nat.reduceAdd, Nat.reduceMul, Nat.reduceSub, Nat.reduceLeDiff, Nat.reduceBEq, Nat.reduceDiv, Nat.reduceMod, Int.reduceToNat, Int.reduceLT, Int.reduceLE, Int.reduceAdd, Int.reduceSub, Int.reduceMul, Int.reduceEq, Int.reduceNeg, reduceCtorEq, resV, resAll, ARes.ev, LV.flat, ite_true, ite_false, exists_eq_left', exists_eq_left, keyOf, implies_true, fillC, capOf]
    have hno : c ∉ l := fun hin => by
      obtain ⟨j, hjl, rfl⟩ := List.getElem_of_mem hin
      exact hj j (by omega) (by simp [hjl])
    rw [decide_eq_false hno]
    exact cmp_pre hpre rfl
end Go.Ab

/- The abstract code of some functions (written by a program of mine from the translation, by way of prepF). -/
namespace Go.Ab.C
open Go.Ab
end Go.Ab.C

/- That the program has this code. -/
namespace Go.Ab.K
open Go Go.Ab
end Go.Ab.K

/- Contracts: shadows of sets, the program's side. -/
namespace Go.Ab
open Go
set_option linter.unusedSimpArgs false
set_option linter.unusedVariables false
set_option maxRecDepth 20000

theorem keepL_pr {M N : Mem} (h : Pre M N) (ks : List Nat) : KeepL ks M N = True := by
  simp only [eq_iff_iff, iff_true]
  intro k _ b hb
  rw [h.2 k (by
    rcases Nat.lt_or_ge k M.length with h1 | h1
    · exact h1
    · rw [List.getElem?_eq_none h1] at hb; cases hb)]
  exact hb
def onesTo (k : Nat) (v : List Int) : List Int := onesL (v.take k) ++ v.drop k
end Go.Ab

/- Contracts: keys, taking orders and their number, the reference's side. -/
namespace Go.Ab
open Go
set_option linter.unusedSimpArgs false
set_option linter.unusedVariables false
set_option maxRecDepth 20000

/-- A list of cells and a truth value. -/
def CellsY (M : Mem) (r : Option (List Cell)) (v : LV) (N : Mem) : Prop := ∃ w, v = .tup [w, .B r.isSome] ∧ CellsV N w (r.getD []) ∧ Pre M N
theorem CellsRes.y {M N : Mem} {r : Option (List Cell)} {v : LV} (h : CellsRes M r v N) : CellsY M r v N := by
  obtain ⟨w, h1, h2, _, h3⟩ := h
  exact ⟨w, h1, h2.v, h3⟩
theorem cellsY_yes {M N : Mem} {r : Option (List Cell)} {l : List Cell} {u : Nat} {v : LV} {w : Bool} (hr : r = some l) (hv : v = .tup [.ref u 0 l.length, .B true]) (hu : Live N u (.row (triL l) w 3)) (hp : Pre M N) : CellsY M r v N := by
  subst hr hv
  exact ⟨_, rfl, .inr ⟨u, 0, rfl, hu.has⟩, hp⟩
theorem cellsY_no {M N : Mem} {r : Option (List Cell)} {u : Nat} {v : LV} {w : Bool} (hr : r = none) (hv : v = .tup [.ref u 0 0, .B false]) (hu : Live N u (.row [] w 3)) (hp : Pre M N) : CellsY M r v N := by
  subst hr hv
  exact ⟨_, rfl, .inr ⟨u, 0, rfl, Live.has (cs := []) hu⟩, hp⟩
theorem cellsY_nil {M N : Mem} {r : Option (List Cell)} {v : LV} (hr : r = none) (hv : v = .tup [.nil, .B false]) (hp : Pre M N) : CellsY M r v N := by
  subst hr hv
  exact ⟨_, rfl, .inl ⟨rfl, rfl⟩, hp⟩

noncomputable def canB (x y z : Int) (cs : List Cell) (c : Cell) : Bool := stdB x y z cs && decide (c.inBox x y z)
noncomputable def canR (x y z : Int) (cs : List Cell) (c : Cell) : Bool := canB x y z cs c && canTake x y z (fun d => decide (d ∈ cs)) c
noncomputable def ordR (x y z : Int) (cs l : List Cell) : Bool := stdB x y z cs && tkOrd x y z cs l
noncomputable def tksB (x y z : Int) (cs : List Cell) : Bool := stdB x y z cs && decide (cs.length ≤ 8)
noncomputable def tksN (x y z : Int) (cs : List Cell) : Nat := if tksB x y z cs = true then tkN x y z cs.length (fun d => decide (d ∈ cs)) else 0

theorem std_yes {x y z : Int} {cs : List Cell} (h : HeapOK x y z cs ∧ Firm x y z fun c => decide (c ∈ cs)) : stdB x y z cs = true := stdB_iff.2 h
theorem std_no {x y z : Int} {cs : List Cell} (h : ¬ (HeapOK x y z cs ∧ Firm x y z fun c => decide (c ∈ cs))) : stdB x y z cs = false := by
  cases e : stdB x y z cs with
  | false => rfl
  | true => exact absurd (stdB_iff.1 e) h
theorem key_filter {x y z : Int} {cs : List Cell} (hH : HeapOK x y z cs) : cs.filter (fun d => !canTake x y z (fun d => decide (d ∈ cs)) d) = keyL x y z cs := by
  unfold keyL
  conv => lhs; rw [hH.pick]
  rw [filter_pick]
  refine pick_congr hH.1 fun d _ => ?_
  rw [← hH.pick]

section
variable {x y z : Int} {t : Nat} {w : Bool} {cs : List Cell} {M : Mem} (h : Live M t (.row (triL cs) w 3)) (hn : cs.length ≤ 1000000000)
include h hn
theorem h_sCanTake {c : Cell} : CallsTo PG F.spec_CanTake [.agg [.I x, .I y, .I z, .ref t 0 cs.length], .agg [.I c.a, .I c.b, .I c.c]] M (.tup [.B (canR x y z cs c), .B (canB x y z cs c)]) M := by
  refine calls_run K.spec_CanTake rfl ?_
  simp (disch := omega) only [C.spec_CanTake, ↓SXd, SXu, slBounds, ↓sop, ↓aop, ↓reduceIte, LV.cells, AOp.dst, LV.I, LV.B, LV.U, LV.S, LV.nil, Nat.reduceEqDiff, Nat.reduceAdd, Nat.reduceMul, Nat.reduceSub, Nat.reduceLeDiff, Nat.reduceBEq, Nat.reduceDiv, Nat.reduceMod, Int.reduceToNat, Int.reduceLT, Int.reduceLE, Int.reduceAdd, Int.reduceSub, Int.reduceMul, Int.reduceEq, Int.reduceNeg, reduceCtorEq, resV, resAll, ARes.ev, LV.flat, ite_true, ite_false, exists_eq_left', exists_eq_left, keyOf, implies_true, fillC, capOf]
  refine callK_of (h_l7Stands h.app hn) ?_
  simp (disch := omega) only [↓SXd, SXu, slBounds, ↓sop, ↓aop, ↓reduceIte, LV.cells, AOp.dst, LV.I, LV.B, LV.U, LV.S, LV.nil, Nat.reduceEqDiff, Nat.reduceAdd, Nat.reduceMul, Nat.reduceSub, Nat.reduceLeDiff, Nat.reduceBEq, Nat.reduceDiv, Nat.reduceMod, Int.reduceToNat, Int.reduceLT, Int.reduceLE, Int.reduceAdd, Int.reduceSub, Int.reduceMul, Int.reduceEq, Int.reduceNeg, reduceCtorEq, resV, resAll, ARes.ev, LV.flat, ite_true, ite_false, exists_eq_left', exists_eq_left, keyOf, implies_true, fillC, capOf]
  unfold canR canB
  by_cases hV : HeapOK x y z cs ∧ Firm x y z (fun c => decide (c ∈ cs))
  · rw [std_yes hV]
    simp (disch := omega) only [hV, ↓SXd, SXu, slBounds, ↓sop, ↓aop, ↓reduceIte, LV.cells, AOp.dst, LV.I, LV.B, LV.U, LV.S, LV.nil, Nat.reduceEqDiff, Nat.reduceAdd, Nat.reduceMul, Nat.reduceSub, Nat.reduceLeDiff, Nat.reduceBEq, Nat.reduceDiv, Nat.reduceMod, Int.reduceToNat, Int.reduceLT, Int.reduceLE, Int.reduceAdd, Int.reduceSub, Int.reduceMul, Int.reduceEq, Int.reduceNeg, reduceCtorEq, resV, resAll, ARes.ev, LV.flat, ite_true, ite_false, exists_eq_left', exists_eq_left, keyOf, implies_true, fillC, capOf]
    refine callK_of (h_l2In hV.1.1) ?_
    simp (disch := omega) only [↓SXd, SXu, slBounds, ↓sop, ↓aop, ↓reduceIte, LV.cells, AOp.dst, LV.I, LV.B, LV.U, LV.S, LV.nil, Nat.reduceEqDiff, Nat.reduceAdd, Nat.reduceMul, Nat.reduceSub, Nat.reduceLeDiff, Nat.reduceBEq, Nat.reduceDiv, Nat.reduceMod, Int.reduceToNat, Int.reduceLT, Int.reduceLE, Int.reduceAdd, Int.reduceSub, Int.reduceMul, Int.reduceEq, Int.reduceNeg, reduceCtorEq, resV, resAll, ARes.ev, LV.flat, ite_true, ite_false, exists_eq_left', exists_eq_left, keyOf, implies_true, fillC, capOf]
    rw [cell_eta]
    by_cases hc : c.inBox x y z
    · rw [decide_eq_true hc]
      simp (disch := omega) only [hc, ↓SXd, SXu, slBounds, ↓sop, ↓aop, ↓reduceIte, LV.cells, AOp.dst, LV.I, LV.B, LV.U, LV.S, LV.nil, Nat.reduceEqDiff, Nat.reduceAdd, Nat.reduceMul, Nat.reduceSub, Nat.reduceLeDiff, Nat.reduceBEq, Nat.reduceDiv, Nat.reduceMod, Int.reduceToNat, Int.reduceLT, Int.reduceLE, Int.reduceAdd, Int.reduceSub, Int.reduceMul, Int.reduceEq, Int.reduceNeg, reduceCtorEq, resV, resAll, ARes.ev, LV.flat, ite_true, ite_false, exists_eq_left', exists_eq_left, keyOf, implies_true, fillC, capOf]
      refine callK_of (h_l7Can h.app hV.1) ?_
      simp (disch := omega) only [↓SXd, SXu, slBounds, ↓sop, ↓aop, ↓reduceIte, LV.cells, AOp.dst, LV.I, LV.B, LV.U, LV.S, LV.nil, Nat.reduceEqDiff, Nat.reduceAdd, Nat.reduceMul, Nat.reduceSub, Nat.reduceLeDiff, Nat.reduceBEq, Nat.reduceDiv, Nat.reduceMod, Int.reduceToNat, Int.reduceLT, Int.reduceLE, Int.reduceAdd, Int.reduceSub, Int.reduceMul, Int.reduceEq, Int.reduceNeg, reduceCtorEq, resV, resAll, ARes.ev, LV.flat, ite_true, ite_false, exists_eq_left', exists_eq_left, keyOf, implies_true, fillC, capOf]
      exact cmp_drop rfl
    · rw [decide_eq_false hc]
      simp (disch := omega) only [hc, ↓SXd, SXu, slBounds, ↓sop, ↓aop, ↓reduceIte, LV.cells, AOp.dst, LV.I, LV.B, LV.U, LV.S, LV.nil, Nat.reduceEqDiff, Nat.reduceAdd, Nat.reduceMul, Nat.reduceSub, Nat.reduceLeDiff, Nat.reduceBEq, Nat.reduceDiv, Nat.reduceMod, Int.reduceToNat, Int.reduceLT, Int.reduceLE, Int.reduceAdd, Int.reduceSub, Int.reduceMul, Int.reduceEq, Int.reduceNeg, reduceCtorEq, resV, resAll, ARes.ev, LV.flat, ite_true, ite_false, exists_eq_left', exists_eq_left, keyOf, implies_true, fillC, capOf]
      exact cmp_drop rfl
  · rw [std_no hV]
    simp (disch := omega) only [hV, ↓SXd, SXu, slBounds, ↓sop, ↓aop, ↓reduceIte, LV.cells, AOp.dst, LV.I, LV.B, LV.U, LV.S, LV.nil, Nat.reduceEqDiff, Nat.reduceAdd, Nat.reduceMul, Nat.reduceSub, Nat.reduceLeDiff, Nat.reduceBEq, Nat.reduceDiv, Nat.reduceMod, Int.reduceToNat, Int.reduceLT, Int.reduceLE, Int.reduceAdd, Int.reduceSub, Int.reduceMul, Int.reduceEq, Int.reduceNeg, reduceCtorEq, resV, resAll, ARes.ev, LV.flat, ite_true, ite_false, exists_eq_left', exists_eq_left, keyOf, implies_true, fillC, capOf]
    exact cmp_drop rfl

theorem h_sKeyCubes : CallsR PG F.spec_KeyCubes [.agg [.I x, .I y, .I z, .ref t 0 cs.length]] M (CellsY M (keyOf' x y z cs)) := by
  refine callsR_run K.spec_KeyCubes rfl ?_
  simp (disch := omega) only [C.spec_KeyCubes, ↓SXd, SXu, slBounds, ↓sop, ↓aop, ↓reduceIte, LV.cells, AOp.dst, LV.I, LV.B, LV.U, LV.S, LV.nil, Nat.reduceEqDiff, Nat.reduceAdd, Nat.reduceMul, Nat.reduceSub, Nat.reduceLeDiff, Nat.reduceBEq, Nat.reduceDiv, Nat.reduceMod, Int.reduceToNat, Int.reduceLT, Int.reduceLE, Int.reduceAdd, Int.reduceSub, Int.reduceMul, Int.reduceEq, Int.reduceNeg, reduceCtorEq, resV, resAll, ARes.ev, LV.flat, ite_true, ite_false, exists_eq_left', exists_eq_left, keyOf, implies_true, fillC, capOf]
  refine callK_of (h_l7Stands h.app hn) ?_
  simp (disch := omega) only [↓SXd, SXu, slBounds, ↓sop, ↓aop, ↓reduceIte, LV.cells, AOp.dst, LV.I, LV.B, LV.U, LV.S, LV.nil, Nat.reduceEqDiff, Nat.reduceAdd, Nat.reduceMul, Nat.reduceSub, Nat.reduceLeDiff, Nat.reduceBEq, Nat.reduceDiv, Nat.reduceMod, Int.reduceToNat, Int.reduceLT, Int.reduceLE, Int.reduceAdd, Int.reduceSub, Int.reduceMul, Int.reduceEq, Int.reduceNeg, reduceCtorEq, resV, resAll, ARes.ev, LV.flat, ite_true, ite_false, exists_eq_left', exists_eq_left, keyOf, implies_true, fillC, capOf]
  by_cases hV : HeapOK x y z cs ∧ Firm x y z (fun c => decide (c ∈ cs))
  rotate_left
  · simp (disch := omega) only [hV, ↓SXd, SXu, slBounds, ↓sop, ↓aop, ↓reduceIte, LV.cells, AOp.dst, LV.I, LV.B, LV.U, LV.S, LV.nil, Nat.reduceEqDiff, Nat.reduceAdd, Nat.reduceMul, Nat.reduceSub, Nat.reduceLeDiff, Nat.reduceBEq, Nat.reduceDiv, Nat.reduceMod, Int.reduceToNat, Int.reduceLT, Int.reduceLE, Int.reduceAdd, Int.reduceSub, Int.reduceMul, Int.reduceEq, Int.reduceNeg, reduceCtorEq, resV, resAll, ARes.ev, LV.flat, ite_true, ite_false, exists_eq_left', exists_eq_left, keyOf, implies_true, fillC, capOf]
    exact cellsY_no (if_neg (by rw [std_no hV]; simp)) rfl (Live.newj (j := 1) rfl) (Pre.app _ _)
  have hlen := hV.1.len
  simp (disch := omega) only [hV, ↓SXd, SXu, slBounds, ↓sop, ↓aop, ↓reduceIte, LV.cells, AOp.dst, LV.I, LV.B, LV.U, LV.S, LV.nil, Nat.reduceEqDiff, Nat.reduceAdd, Nat.reduceMul, Nat.reduceSub, Nat.reduceLeDiff, Nat.reduceBEq, Nat.reduceDiv, Nat.reduceMod, Int.reduceToNat, Int.reduceLT, Int.reduceLE, Int.reduceAdd, Int.reduceSub, Int.reduceMul, Int.reduceEq, Int.reduceNeg, reduceCtorEq, resV, resAll, ARes.ev, LV.flat, ite_true, ite_false, exists_eq_left', exists_eq_left, keyOf, implies_true, fillC, capOf]
  refine ev_loop (fun m fr M' => ∃ (i u : Nat), i + m = cs.length ∧ Pre M M' ∧ Live M' M.length (.row [.I x, .I y, .I z, .ref t 0 cs.length] true 0) ∧ M.length ≤ u ∧ Live M' u (.row (triL ((cs.take i).filter fun d => !canTake x y z (fun d => decide (d ∈ cs)) d)) true 3) ∧
    fr 1 = .ptr M.length 0 ∧ fr 4 = .ref u 0 ((cs.take i).filter fun d => !canTake x y z (fun d => decide (d ∈ cs)) d).length ∧ fr 5 = .I i) cs.length
    ⟨0, M.length + 1, by omega, Pre.app _ _, Live.new, by omega, Live.newj rfl, rfl, rfl, rfl⟩ ?_
  rintro m fr M' ⟨i, u, hi, hpre, b1, hu, b4, f1, f4, f5⟩
  simp (disch := omega) only [f1, f4, f5, b1.cell, ↓SXd, SXu, slBounds, ↓sop, ↓aop, ↓reduceIte, LV.cells, AOp.dst, LV.I, LV.B, LV.U, LV.S, LV.nil, Nat.reduceEqDiff, Nat.reduceAdd, Nat.reduceMul, Nat.reduceSub, Nat.reduceLeDiff, Nat.reduceBEq, Nat.reduceDiv, Nat.reduceMod, Int.reduceToNat, Int.reduceLT, Int.reduceLE, Int.reduceAdd, Int.reduceSub, Int.reduceMul, Int.reduceEq, Int.reduceNeg, reduceCtorEq, resV, resAll, ARes.ev, LV.flat, ite_true, ite_false, exists_eq_left', exists_eq_left, keyOf, implies_true, fillC, capOf]
  have hM := hpre.1
  have hb1 := b1.lt
  refine condC_dec (fun hlt => ?_) (fun hlt => ?_)
  · have hil : i < cs.length := by omega
    have hc := (h.pre hpre).tri0 hil
    have hts : cs.take (i + 1) = cs.take i ++ [cs.getD i default] := by
      rw [List.take_succ, List.getElem?_eq_getElem hil]; simp [hil]
    have hfl := List.length_filter_le (fun d => !canTake x y z (fun d => decide (d ∈ cs)) d) (cs.take i)
    have htl : (cs.take i).length = i := by simp; omega
    generalize cs.getD i default = c at hc hts
    simp (disch := omega) only [f1, f4, f5, b1.cell, b1.cells, hc, Cell.row, ↓SXd, SXu, slBounds, ↓sop, ↓aop, ↓reduceIte, LV.cells, AOp.dst, LV.I, LV.B, LV.U, LV.S, LV.nil, Nat.reduceEqDiff, Nat.reduceAdd, Nat.reduceMul, Nat.reduceSub, Nat.reduceLeDiff, Nat.reduceBEq, Nat.reduceDiv, Nat.reduceMod, Int.reduceToNat, Int.reduceLT, Int.reduceLE, Int.reduceAdd, Int.reduceSub, Int.reduceMul, Int.reduceEq, Int.reduceNeg, reduceCtorEq, resV, resAll, ARes.ev, LV.flat, ite_true, ite_false, exists_eq_left', exists_eq_left, keyOf, implies_true, fillC, capOf]
    refine callK_of (h_l7Can (h.pre hpre) hV.1) ?_
    simp (disch := omega) only [f1, f4, f5, ↓SXd, SXu, slBounds, ↓sop, ↓aop, ↓reduceIte, LV.cells, AOp.dst, LV.I, LV.B, LV.U, LV.S, LV.nil, Nat.reduceEqDiff, Nat.reduceAdd, Nat.reduceMul, Nat.reduceSub, Nat.reduceLeDiff, Nat.reduceBEq, Nat.reduceDiv, Nat.reduceMod, Int.reduceToNat, Int.reduceLT, Int.reduceLE, Int.reduceAdd, Int.reduceSub, Int.reduceMul, Int.reduceEq, Int.reduceNeg, reduceCtorEq, resV, resAll, ARes.ev, LV.flat, ite_true, ite_false, exists_eq_left', exists_eq_left, keyOf, implies_true, fillC, capOf]
    by_cases hk : canTake x y z (fun d => decide (d ∈ cs)) c = true
    · simp (disch := omega) only [f1, f4, f5, hk, ↓SXd, SXu, slBounds, ↓sop, ↓aop, ↓reduceIte, LV.cells, AOp.dst, LV.I, LV.B, LV.U, LV.S, LV.nil, Nat.reduceEqDiff, Nat.reduceAdd, Nat.reduceMul, Nat.reduceSub, Nat.reduceLeDiff, Nat.reduceBEq, Nat.reduceDiv, Nat.reduceMod, Int.reduceToNat, Int.reduceLT, Int.reduceLE, Int.reduceAdd, Int.reduceSub, Int.reduceMul, Int.reduceEq, Int.reduceNeg, reduceCtorEq, resV, resAll, ARes.ev, LV.flat, ite_true, ite_false, exists_eq_left', exists_eq_left, keyOf, implies_true, fillC, capOf]
      refine ⟨m - 1, by omega, i + 1, u, by omega, hpre, b1, hu, ?_, f1, ?_, eqI (natI _)⟩
      · rw [hts, List.filter_append, List.filter_cons_of_neg (by simp [hk]), List.filter_nil, List.append_nil]; exact b4
      · rw [hts, List.filter_append, List.filter_cons_of_neg (by simp [hk]), List.filter_nil, List.append_nil]; exact f4
    · have hk' : canTake x y z (fun d => decide (d ∈ cs)) c = false := by simpa using hk
      have hfs : (cs.take (i + 1)).filter (fun d => !canTake x y z (fun d => decide (d ∈ cs)) d) = (cs.take i).filter (fun d => !canTake x y z (fun d => decide (d ∈ cs)) d) ++ [c] := by
        rw [hts, List.filter_append, List.filter_cons_of_pos (by simp [hk']), List.filter_nil]
      simp (disch := omega) only [f1, f4, f5, hk', b1.cell, hc, Cell.row, splice, ↓SXd, SXu, slBounds, ↓sop, ↓aop, ↓reduceIte, LV.cells, AOp.dst, LV.I, LV.B, LV.U, LV.S, LV.nil, Nat.reduceEqDiff, Nat.reduceAdd, Nat.reduceMul, Nat.reduceSub, Nat.reduceLeDiff, Nat.reduceBEq, Nat.reduceDiv, Nat.reduceMod, Int.reduceToNat, Int.reduceLT, Int.reduceLE, Int.reduceAdd, Int.reduceSub, Int.reduceMul, Int.reduceEq, Int.reduceNeg, reduceCtorEq, resV, resAll, ARes.ev, LV.flat, ite_true, ite_false, exists_eq_left', exists_eq_left, keyOf, implies_true, fillC, capOf]
      refine appendK_cell b4 (by omega) fun N5 l1 l2 l3 => ?_
      rw [cell_eta, ← hfs] at l2
      simp (disch := omega) only [f1, f4, f5, ↓SXd, SXu, slBounds, ↓sop, ↓aop, ↓reduceIte, LV.cells, AOp.dst, LV.I, LV.B, LV.U, LV.S, LV.nil, Nat.reduceEqDiff, Nat.reduceAdd, Nat.reduceMul, Nat.reduceSub, Nat.reduceLeDiff, Nat.reduceBEq, Nat.reduceDiv, Nat.reduceMod, Int.reduceToNat, Int.reduceLT, Int.reduceLE, Int.reduceAdd, Int.reduceSub, Int.reduceMul, Int.reduceEq, Int.reduceNeg, reduceCtorEq, resV, resAll, ARes.ev, LV.flat, ite_true, ite_false, exists_eq_left', exists_eq_left, keyOf, implies_true, fillC, capOf]
      refine ⟨m - 1, by omega, i + 1, M'.length + 1, by omega, pre_step hpre (by omega) l1 l3, live_step b1 (b1.ne_esz b4 (by decide)) l3, by omega, l2, f1, ?_, eqI (natI _)⟩
      rw [hfs, List.length_append, List.length_singleton]; rfl
  · have : i = cs.length := by omega
    subst this
    rw [List.take_length, key_filter hV.1] at b4 f4
    simp (disch := omega) only [f1, f4, f5, ↓SXd, SXu, slBounds, ↓sop, ↓aop, ↓reduceIte, LV.cells, AOp.dst, LV.I, LV.B, LV.U, LV.S, LV.nil, Nat.reduceEqDiff, Nat.reduceAdd, Nat.reduceMul, Nat.reduceSub, Nat.reduceLeDiff, Nat.reduceBEq, Nat.reduceDiv, Nat.reduceMod, Int.reduceToNat, Int.reduceLT, Int.reduceLE, Int.reduceAdd, Int.reduceSub, Int.reduceMul, Int.reduceEq, Int.reduceNeg, reduceCtorEq, resV, resAll, ARes.ev, LV.flat, ite_true, ite_false, exists_eq_left', exists_eq_left, keyOf, implies_true, fillC, capOf]
    exact cellsY_yes (if_pos (std_yes hV)) rfl b4 hpre

end
theorem heap_without {x y z : Int} {cs : List Cell} (hH : HeapOK x y z cs) (c : Cell) : HeapOK x y z (cs.filter fun d => !decide (d = c)) := by
  have : cs.filter (fun d => !decide (d = c)) = pick x y z fun d => decide (d ∈ cs) && !decide (d = c) := by
    conv => lhs; rw [hH.pick]
    rw [filter_pick]
  rw [this]
  exact pick_ok hH.1 _
theorem without_len {x y z : Int} {cs : List Cell} (hH : HeapOK x y z cs) {c : Cell} (hc : c ∈ cs) : (cs.filter fun d => !decide (d = c)).length + 1 = cs.length := by
  have h1 : cs.filter (fun d => !decide (d = c)) = pick x y z fun d => decide (d ∈ cs) && !decide (d = c) := by
    conv => lhs; rw [hH.pick]
    rw [filter_pick]
  have h2 := pick_less hH.1 (p := fun d => decide (d ∈ cs)) (hH.mem hc) (by simp [hc])
  rw [h1, h2, ← hH.pick]

theorem h_sIsTakingOrder {x y z : Int} {t : Nat} {w : Bool} {cs l : List Cell} {v : LV} {M : Mem} (h : Live M t (.row (triL cs) w 3)) (hn : cs.length ≤ 1000000000) (hv : CellsV M v l) (hl : l.length ≤ 1000000000) :
    CallsTo PG F.spec_IsTakingOrder [.agg [.I x, .I y, .I z, .ref t 0 cs.length], v] M (.tup [.B (ordR x y z cs l), .B (stdB x y z cs)]) M := by
  refine calls_run K.spec_IsTakingOrder rfl ?_
  simp (disch := omega) only [C.spec_IsTakingOrder, ↓SXd, SXu, slBounds, ↓sop, ↓aop, ↓reduceIte, LV.cells, AOp.dst, LV.I, LV.B, LV.U, LV.S, LV.nil, Nat.reduceEqDiff, Nat.reduceAdd, Nat.reduceMul, Nat.reduceSub, Nat.reduceLeDiff, Nat.reduceBEq, Nat.reduceDiv, Nat.reduceMod, Int.reduceToNat, Int.reduceLT, Int.reduceLE, Int.reduceAdd, Int.reduceSub, Int.reduceMul, Int.reduceEq, Int.reduceNeg, reduceCtorEq, resV, resAll, ARes.ev, LV.flat, ite_true, ite_false, exists_eq_left', exists_eq_left, keyOf, implies_true, fillC, capOf]
  refine callK_of (h_l7Stands h.app hn) ?_
  simp (disch := omega) only [↓SXd, SXu, slBounds, ↓sop, ↓aop, ↓reduceIte, LV.cells, AOp.dst, LV.I, LV.B, LV.U, LV.S, LV.nil, Nat.reduceEqDiff, Nat.reduceAdd, Nat.reduceMul, Nat.reduceSub, Nat.reduceLeDiff, Nat.reduceBEq, Nat.reduceDiv, Nat.reduceMod, Int.reduceToNat, Int.reduceLT, Int.reduceLE, Int.reduceAdd, Int.reduceSub, Int.reduceMul, Int.reduceEq, Int.reduceNeg, reduceCtorEq, resV, resAll, ARes.ev, LV.flat, ite_true, ite_false, exists_eq_left', exists_eq_left, keyOf, implies_true, fillC, capOf]
  unfold ordR
  by_cases hV : HeapOK x y z cs ∧ Firm x y z (fun c => decide (c ∈ cs))
  rotate_left
  · rw [std_no hV]
    simp (disch := omega) only [hV, ↓SXd, SXu, slBounds, ↓sop, ↓aop, ↓reduceIte, LV.cells, AOp.dst, LV.I, LV.B, LV.U, LV.S, LV.nil, Nat.reduceEqDiff, Nat.reduceAdd, Nat.reduceMul, Nat.reduceSub, Nat.reduceLeDiff, Nat.reduceBEq, Nat.reduceDiv, Nat.reduceMod, Int.reduceToNat, Int.reduceLT, Int.reduceLE, Int.reduceAdd, Int.reduceSub, Int.reduceMul, Int.reduceEq, Int.reduceNeg, reduceCtorEq, resV, resAll, ARes.ev, LV.flat, ite_true, ite_false, exists_eq_left', exists_eq_left, keyOf, implies_true, fillC, capOf]
    exact cmp_drop rfl
  rw [std_yes hV, Bool.true_and]
  simp (disch := omega) only [hV, ↓SXd, SXu, slBounds, ↓sop, ↓aop, ↓reduceIte, LV.cells, AOp.dst, LV.I, LV.B, LV.U, LV.S, LV.nil, Nat.reduceEqDiff, Nat.reduceAdd, Nat.reduceMul, Nat.reduceSub, Nat.reduceLeDiff, Nat.reduceBEq, Nat.reduceDiv, Nat.reduceMod, Int.reduceToNat, Int.reduceLT, Int.reduceLE, Int.reduceAdd, Int.reduceSub, Int.reduceMul, Int.reduceEq, Int.reduceNeg, reduceCtorEq, resV, resAll, ARes.ev, LV.flat, ite_true, ite_false, exists_eq_left', exists_eq_left, keyOf, implies_true, fillC, capOf]
  refine ev_loop (fun m fr M' => ∃ (i u : Nat) (w : Bool) (ds : List Cell), i + m = l.length ∧ Pre M M' ∧ Live M' M.length (.row [.I x, .I y, .I z, .ref u 0 ds.length] true 0) ∧ Live M' u (.row (triL ds) w 3) ∧ HeapOK x y z ds ∧ tkOrd x y z cs l = tkOrd x y z ds (l.drop i) ∧
    fr 1 = v ∧ fr 2 = .ptr M.length 0 ∧ fr 6 = .I i) l.length
    ⟨0, t, w, cs, by omega, Pre.app _ _, Live.new, h.app, hV.1, by simp, rfl, rfl, rfl⟩ ?_
  rintro m fr M' ⟨i, u, w, ds, hi, hpre, b2, bd, hH, hord, f1, f2, f6⟩
  have hlv := (hv.pre hpre).lenV
  have hdl := hH.len
  simp (disch := omega) only [f1, f2, f6, hlv, ↓SXd, SXu, slBounds, ↓sop, ↓aop, ↓reduceIte, LV.cells, AOp.dst, LV.I, LV.B, LV.U, LV.S, LV.nil, Nat.reduceEqDiff, Nat.reduceAdd, Nat.reduceMul, Nat.reduceSub, Nat.reduceLeDiff, Nat.reduceBEq, Nat.reduceDiv, Nat.reduceMod, Int.reduceToNat, Int.reduceLT, Int.reduceLE, Int.reduceAdd, Int.reduceSub, Int.reduceMul, Int.reduceEq, Int.reduceNeg, reduceCtorEq, resV, resAll, ARes.ev, LV.flat, ite_true, ite_false, exists_eq_left', exists_eq_left, keyOf, implies_true, fillC, capOf]
  refine condC_dec (fun hlt => ?_) (fun hlt => ?_)
  · have hil : i < l.length := by omega
    obtain ⟨tv, ov, rfl, hg⟩ := (hv.pre hpre).at hil
    have hdr : l.drop i = l.getD i default :: l.drop (i + 1) := by
      rw [List.drop_eq_getElem_cons hil]; simp [List.getD_eq_getElem?_getD, List.getElem?_eq_getElem hil]
    rw [hdr] at hord
    generalize hc : l.getD i default = c at hg hord
    rw [show tkOrd x y z ds (c :: l.drop (i + 1)) = (canTake x y z (fun d => decide (d ∈ ds)) c && tkOrd x y z (ds.filter fun d => !decide (d = c)) (l.drop (i + 1))) from rfl] at hord
    simp (disch := omega) only [f1, f2, f6, b2.cells, hg, Cell.row, ↓SXd, SXu, slBounds, ↓sop, ↓aop, ↓reduceIte, LV.cells, AOp.dst, LV.I, LV.B, LV.U, LV.S, LV.nil, Nat.reduceEqDiff, Nat.reduceAdd, Nat.reduceMul, Nat.reduceSub, Nat.reduceLeDiff, Nat.reduceBEq, Nat.reduceDiv, Nat.reduceMod, Int.reduceToNat, Int.reduceLT, Int.reduceLE, Int.reduceAdd, Int.reduceSub, Int.reduceMul, Int.reduceEq, Int.reduceNeg, reduceCtorEq, resV, resAll, ARes.ev, LV.flat, ite_true, ite_false, exists_eq_left', exists_eq_left, keyOf, implies_true, fillC, capOf]
    refine callK_of (h_l7Can bd hH) ?_
    simp (disch := omega) only [f1, f2, f6, ↓SXd, SXu, slBounds, ↓sop, ↓aop, ↓reduceIte, LV.cells, AOp.dst, LV.I, LV.B, LV.U, LV.S, LV.nil, Nat.reduceEqDiff, Nat.reduceAdd, Nat.reduceMul, Nat.reduceSub, Nat.reduceLeDiff, Nat.reduceBEq, Nat.reduceDiv, Nat.reduceMod, Int.reduceToNat, Int.reduceLT, Int.reduceLE, Int.reduceAdd, Int.reduceSub, Int.reduceMul, Int.reduceEq, Int.reduceNeg, reduceCtorEq, resV, resAll, ARes.ev, LV.flat, ite_true, ite_false, exists_eq_left', exists_eq_left, keyOf, implies_true, fillC, capOf]
    by_cases hk : canTake x y z (fun d => decide (d ∈ ds)) c = true
    · rw [hk, Bool.true_and] at hord
      simp (disch := omega) only [f1, f2, f6, hk, b2.cells, hg, Cell.row, ↓SXd, SXu, slBounds, ↓sop, ↓aop, ↓reduceIte, LV.cells, AOp.dst, LV.I, LV.B, LV.U, LV.S, LV.nil, Nat.reduceEqDiff, Nat.reduceAdd, Nat.reduceMul, Nat.reduceSub, Nat.reduceLeDiff, Nat.reduceBEq, Nat.reduceDiv, Nat.reduceMod, Int.reduceToNat, Int.reduceLT, Int.reduceLE, Int.reduceAdd, Int.reduceSub, Int.reduceMul, Int.reduceEq, Int.reduceNeg, reduceCtorEq, resV, resAll, ARes.ev, LV.flat, ite_true, ite_false, exists_eq_left', exists_eq_left, keyOf, implies_true, fillC, capOf]
      refine callH_of (h_l2Without bd.has (by omega)) ?_
      intro u2 N2 hu2 hp2 hb2
      rw [cell_eta] at hb2 ⊢
      simp (disch := omega) only [f1, f2, f6, ↓SXd, SXu, slBounds, ↓sop, ↓aop, ↓reduceIte, LV.cells, AOp.dst, LV.I, LV.B, LV.U, LV.S, LV.nil, Nat.reduceEqDiff, Nat.reduceAdd, Nat.reduceMul, Nat.reduceSub, Nat.reduceLeDiff, Nat.reduceBEq, Nat.reduceDiv, Nat.reduceMod, Int.reduceToNat, Int.reduceLT, Int.reduceLE, Int.reduceAdd, Int.reduceSub, Int.reduceMul, Int.reduceEq, Int.reduceNeg, reduceCtorEq, resV, resAll, ARes.ev, LV.flat, ite_true, ite_false, exists_eq_left', exists_eq_left, keyOf, implies_true, fillC, capOf]
      refine memK_box (b2.pre hp2) (by simp) fun N3 k1 k2 k3 => ?_
      have hM := hpre.1
      have hbl := b2.lt
      simp (disch := omega) only [f1, f2, f6, ↓SXd, SXu, slBounds, ↓sop, ↓aop, ↓reduceIte, LV.cells, AOp.dst, LV.I, LV.B, LV.U, LV.S, LV.nil, Nat.reduceEqDiff, Nat.reduceAdd, Nat.reduceMul, Nat.reduceSub, Nat.reduceLeDiff, Nat.reduceBEq, Nat.reduceDiv, Nat.reduceMod, Int.reduceToNat, Int.reduceLT, Int.reduceLE, Int.reduceAdd, Int.reduceSub, Int.reduceMul, Int.reduceEq, Int.reduceNeg, reduceCtorEq, resV, resAll, ARes.ev, LV.flat, ite_true, ite_false, exists_eq_left', exists_eq_left, keyOf, implies_true, fillC, capOf]
      exact ⟨m - 1, by omega, i + 1, u2, true, _, by omega, pre_step (hpre.trans hp2) (by omega) (j := 0) k1 k3, k2, live_step hb2 (by omega) k3, heap_without hH c, hord, f1, f2, eqI (natI _)⟩
    · have hk' : canTake x y z (fun d => decide (d ∈ ds)) c = false := by simpa using hk
      rw [hk', Bool.false_and] at hord
      rw [hord]
      simp (disch := omega) only [f1, f2, f6, hk', ↓SXd, SXu, slBounds, ↓sop, ↓aop, ↓reduceIte, LV.cells, AOp.dst, LV.I, LV.B, LV.U, LV.S, LV.nil, Nat.reduceEqDiff, Nat.reduceAdd, Nat.reduceMul, Nat.reduceSub, Nat.reduceLeDiff, Nat.reduceBEq, Nat.reduceDiv, Nat.reduceMod, Int.reduceToNat, Int.reduceLT, Int.reduceLE, Int.reduceAdd, Int.reduceSub, Int.reduceMul, Int.reduceEq, Int.reduceNeg, reduceCtorEq, resV, resAll, ARes.ev, LV.flat, ite_true, ite_false, exists_eq_left', exists_eq_left, keyOf, implies_true, fillC, capOf]
      exact cmp_pre hpre rfl
  · have : i = l.length := by omega
    subst this
    rw [List.drop_length] at hord
    rw [hord]
    have hz : decide (((ds.length : Nat) : Int) = 0) = tkOrd x y z ds [] := by
      unfold tkOrd
      rw [Bool.eq_iff_iff, decide_eq_true_iff, decide_eq_true_iff]
      exact ⟨fun h => List.eq_nil_of_length_eq_zero (by omega), fun h => by rw [h]; rfl⟩
    simp (disch := omega) only [f1, f2, f6, b2.cell, ↓SXd, SXu, slBounds, ↓sop, ↓aop, ↓reduceIte, LV.cells, AOp.dst, LV.I, LV.B, LV.U, LV.S, LV.nil, Nat.reduceEqDiff, Nat.reduceAdd, Nat.reduceMul, Nat.reduceSub, Nat.reduceLeDiff, Nat.reduceBEq, Nat.reduceDiv, Nat.reduceMod, Int.reduceToNat, Int.reduceLT, Int.reduceLE, Int.reduceAdd, Int.reduceSub, Int.reduceMul, Int.reduceEq, Int.reduceNeg, reduceCtorEq, resV, resAll, ARes.ev, LV.flat, ite_true, ite_false, exists_eq_left', exists_eq_left, keyOf, implies_true, fillC, capOf]
    rw [hz]
    exact cmp_pre hpre rfl

theorem h_l7Takings {x y z : Int} : ∀ (n : Nat) {cs : List Cell} {t : Nat} {w : Bool} {M : Mem}, Live M t (.row (triL cs) w 3) → HeapOK x y z cs → cs.length = n → n ≤ 8 →
    CallsTo PG F.spec_l7Takings [.agg [.I x, .I y, .I z, .ref t 0 cs.length]] M (.I (tkN x y z n fun d => decide (d ∈ cs) : Nat)) M
  | 0, cs, t, w, M, h, hH, hn, _ => by
    refine calls_run K.spec_l7Takings rfl ?_
    simp (disch := omega) only [C.spec_l7Takings, hn, ↓SXd, SXu, slBounds, ↓sop, ↓aop, ↓reduceIte, LV.cells, AOp.dst, LV.I, LV.B, LV.U, LV.S, LV.nil, Nat.reduceEqDiff, Nat.reduceAdd, Nat.reduceMul, Nat.reduceSub, Nat.reduceLeDiff, Nat.reduceBEq, Nat.reduceDiv, Nat.reduceMod, Int.reduceToNat, Int.reduceLT, Int.reduceLE, Int.reduceAdd, Int.reduceSub, Int.reduceMul, Int.reduceEq, Int.reduceNeg, reduceCtorEq, resV, resAll, ARes.ev, LV.flat, ite_true, ite_false, exists_eq_left', exists_eq_left, keyOf, implies_true, fillC, capOf]
    exact cmp_drop rfl
  | n + 1, cs, t, w, M, h, hH, hn, h8 => by
    have hS := hH.1
    have hne : ¬ (((cs.length : Nat) : Int) = 0) := by omega
    have hfac : ∀ n, n ≤ 7 → facN n ≤ 5040 := by decide
    have hfc := hfac n (by omega)
    have hfb : ∀ c ∈ cs, tkN x y z n (fun d => decide (d ∈ cs) && !decide (d = c)) ≤ 5040 := fun c hc => by
      have h1 := pick_less hS (p := fun d => decide (d ∈ cs)) (hH.mem hc) (by simp [hc])
      rw [← hH.pick] at h1
      have := tkN_le hS (n := n) (p := fun d => decide (d ∈ cs) && !decide (d = c)) (by omega)
      omega
    have hall : tkN x y z (n + 1) (fun d => decide (d ∈ cs)) = ((cs.filter fun c => canTake x y z (fun d => decide (d ∈ cs)) c).map fun c => tkN x y z n fun d => decide (d ∈ cs) && !decide (d = c)).sum := by
      have : cs.filter (fun c => canTake x y z (fun d => decide (d ∈ cs)) c) = pick x y z (canTake x y z fun d => decide (d ∈ cs)) := by
        conv => lhs; rw [hH.pick]
        rw [filter_pick]
        refine pick_congr hS fun d _ => ?_
        rw [← hH.pick]
        cases hd : canTake x y z (fun d => decide (d ∈ cs)) d with
        | false => simp
        | true => rw [canTake_sub hd]; rfl
      rw [this]; rfl
    rw [hall]
    refine calls_run K.spec_l7Takings rfl ?_
    simp (disch := omega) only [C.spec_l7Takings, hne, ↓SXd, SXu, slBounds, ↓sop, ↓aop, ↓reduceIte, LV.cells, AOp.dst, LV.I, LV.B, LV.U, LV.S, LV.nil, Nat.reduceEqDiff, Nat.reduceAdd, Nat.reduceMul, Nat.reduceSub, Nat.reduceLeDiff, Nat.reduceBEq, Nat.reduceDiv, Nat.reduceMod, Int.reduceToNat, Int.reduceLT, Int.reduceLE, Int.reduceAdd, Int.reduceSub, Int.reduceMul, Int.reduceEq, Int.reduceNeg, reduceCtorEq, resV, resAll, ARes.ev, LV.flat, ite_true, ite_false, exists_eq_left', exists_eq_left, keyOf, implies_true, fillC, capOf]
    refine ev_loop (fun m fr M' => ∃ i : Nat, i + m = cs.length ∧ Pre M M' ∧ Live M' M.length (.row [.I x, .I y, .I z, .ref t 0 cs.length] true 0) ∧
      fr 1 = .ptr M.length 0 ∧ fr 3 = .I ((((cs.take i).filter fun c => canTake x y z (fun d => decide (d ∈ cs)) c).map fun c => tkN x y z n fun d => decide (d ∈ cs) && !decide (d = c)).sum : Nat) ∧ fr 4 = .I i) cs.length
      ⟨0, by omega, Pre.app _ _, Live.new, rfl, rfl, rfl⟩ ?_
    rintro m fr M' ⟨i, hi, hpre, b1, f1, f3, f4⟩
    simp (disch := omega) only [f1, f3, f4, b1.cell, ↓SXd, SXu, slBounds, ↓sop, ↓aop, ↓reduceIte, LV.cells, AOp.dst, LV.I, LV.B, LV.U, LV.S, LV.nil, Nat.reduceEqDiff, Nat.reduceAdd, Nat.reduceMul, Nat.reduceSub, Nat.reduceLeDiff, Nat.reduceBEq, Nat.reduceDiv, Nat.reduceMod, Int.reduceToNat, Int.reduceLT, Int.reduceLE, Int.reduceAdd, Int.reduceSub, Int.reduceMul, Int.reduceEq, Int.reduceNeg, reduceCtorEq, resV, resAll, ARes.ev, LV.flat, ite_true, ite_false, exists_eq_left', exists_eq_left, keyOf, implies_true, fillC, capOf]
    refine condC_dec (fun hlt => ?_) (fun hlt => ?_)
    · have hil : i < cs.length := by omega
      have hc := (h.pre hpre).tri0 hil
      have hcm := getD_mem' (d := default) hil
      have hts : cs.take (i + 1) = cs.take i ++ [cs.getD i default] := by
        rw [List.take_succ, List.getElem?_eq_getElem hil]; simp [hil]
      generalize cs.getD i default = c at hc hts hcm
      simp (disch := omega) only [f1, f3, f4, b1.cell, b1.cells, hc, Cell.row, ↓SXd, SXu, slBounds, ↓sop, ↓aop, ↓reduceIte, LV.cells, AOp.dst, LV.I, LV.B, LV.U, LV.S, LV.nil, Nat.reduceEqDiff, Nat.reduceAdd, Nat.reduceMul, Nat.reduceSub, Nat.reduceLeDiff, Nat.reduceBEq, Nat.reduceDiv, Nat.reduceMod, Int.reduceToNat, Int.reduceLT, Int.reduceLE, Int.reduceAdd, Int.reduceSub, Int.reduceMul, Int.reduceEq, Int.reduceNeg, reduceCtorEq, resV, resAll, ARes.ev, LV.flat, ite_true, ite_false, exists_eq_left', exists_eq_left, keyOf, implies_true, fillC, capOf]
      refine callK_of (h_l7Can (h.pre hpre) hH) ?_
      simp (disch := omega) only [f1, f3, f4, ↓SXd, SXu, slBounds, ↓sop, ↓aop, ↓reduceIte, LV.cells, AOp.dst, LV.I, LV.B, LV.U, LV.S, LV.nil, Nat.reduceEqDiff, Nat.reduceAdd, Nat.reduceMul, Nat.reduceSub, Nat.reduceLeDiff, Nat.reduceBEq, Nat.reduceDiv, Nat.reduceMod, Int.reduceToNat, Int.reduceLT, Int.reduceLE, Int.reduceAdd, Int.reduceSub, Int.reduceMul, Int.reduceEq, Int.reduceNeg, reduceCtorEq, resV, resAll, ARes.ev, LV.flat, ite_true, ite_false, exists_eq_left', exists_eq_left, keyOf, implies_true, fillC, capOf]
      by_cases hk : canTake x y z (fun d => decide (d ∈ cs)) c = true
      · have hfs : (cs.take (i + 1)).filter (fun c => canTake x y z (fun d => decide (d ∈ cs)) c) = (cs.take i).filter (fun c => canTake x y z (fun d => decide (d ∈ cs)) c) ++ [c] := by
          rw [hts, List.filter_append, List.filter_cons_of_pos hk, List.filter_nil]
        have hsb : (((cs.take i).filter fun c => canTake x y z (fun d => decide (d ∈ cs)) c).map fun c => tkN x y z n fun d => decide (d ∈ cs) && !decide (d = c)).sum ≤ 8 * 5040 := by
          refine Nat.le_trans (sum_le (b := 5040) fun d hd => hfb d (List.mem_of_mem_take (List.mem_filter.1 hd).1)) (Nat.mul_le_mul_right _ ?_)
          have h1 := List.length_filter_le (fun c => canTake x y z (fun d => decide (d ∈ cs)) c) (cs.take i)
          have h2 : (cs.take i).length = i := by simp; omega
          omega
        have hcb := hfb c hcm
        have hwl := without_len hH hcm
        have hrec : tkN x y z n (fun d => decide (d ∈ cs.filter fun d => !decide (d = c))) = tkN x y z n fun d => decide (d ∈ cs) && !decide (d = c) := tkN_congr hS fun d _ => by
          simp only [List.mem_filter, Bool.decide_and, Bool.not_eq_true', decide_eq_false_iff_not]
          rw [Bool.eq_iff_iff]; simp
        have hcall := fun {u : Nat} {N : Mem} (hu : Live N u (.row (triL (cs.filter fun d => !decide (d = c))) true 3)) => h_l7Takings n hu (heap_without hH c) (by omega) (by omega)
        rw [hrec] at hcall
        generalize hst : (((cs.take i).filter fun c => canTake x y z (fun d => decide (d ∈ cs)) c).map fun c => tkN x y z n fun d => decide (d ∈ cs) && !decide (d = c)).sum = s0 at f3 hsb
        simp (disch := omega) only [f1, f3, f4, hk, b1.cell, b1.cells, hc, Cell.row, ↓SXd, SXu, slBounds, ↓sop, ↓aop, ↓reduceIte, LV.cells, AOp.dst, LV.I, LV.B, LV.U, LV.S, LV.nil, Nat.reduceEqDiff, Nat.reduceAdd, Nat.reduceMul, Nat.reduceSub, Nat.reduceLeDiff, Nat.reduceBEq, Nat.reduceDiv, Nat.reduceMod, Int.reduceToNat, Int.reduceLT, Int.reduceLE, Int.reduceAdd, Int.reduceSub, Int.reduceMul, Int.reduceEq, Int.reduceNeg, reduceCtorEq, resV, resAll, ARes.ev, LV.flat, ite_true, ite_false, exists_eq_left', exists_eq_left, keyOf, implies_true, fillC, capOf]
        refine callH_of (h_l2Without (h.pre hpre).has (by omega)) ?_
        intro u2 N2 hu2 hp2 hb2
        rw [cell_eta] at hb2 ⊢
        simp (disch := omega) only [f1, f3, f4, (keepL_pr hp2), ↓SXd, SXu, slBounds, ↓sop, ↓aop, ↓reduceIte, LV.cells, AOp.dst, LV.I, LV.B, LV.U, LV.S, LV.nil, Nat.reduceEqDiff, Nat.reduceAdd, Nat.reduceMul, Nat.reduceSub, Nat.reduceLeDiff, Nat.reduceBEq, Nat.reduceDiv, Nat.reduceMod, Int.reduceToNat, Int.reduceLT, Int.reduceLE, Int.reduceAdd, Int.reduceSub, Int.reduceMul, Int.reduceEq, Int.reduceNeg, reduceCtorEq, resV, resAll, ARes.ev, LV.flat, ite_true, ite_false, exists_eq_left', exists_eq_left, keyOf, implies_true, fillC, capOf]
        refine callK_of (hcall hb2) ?_
        simp (disch := omega) only [f1, f3, f4, ↓SXd, SXu, slBounds, ↓sop, ↓aop, ↓reduceIte, LV.cells, AOp.dst, LV.I, LV.B, LV.U, LV.S, LV.nil, Nat.reduceEqDiff, Nat.reduceAdd, Nat.reduceMul, Nat.reduceSub, Nat.reduceLeDiff, Nat.reduceBEq, Nat.reduceDiv, Nat.reduceMod, Int.reduceToNat, Int.reduceLT, Int.reduceLE, Int.reduceAdd, Int.reduceSub, Int.reduceMul, Int.reduceEq, Int.reduceNeg, reduceCtorEq, resV, resAll, ARes.ev, LV.flat, ite_true, ite_false, exists_eq_left', exists_eq_left, keyOf, implies_true, fillC, capOf]
        refine ⟨m - 1, by omega, i + 1, by omega, hpre.trans hp2, b1.pre hp2, f1, ?_, eqI (natI _)⟩
        rw [hfs, List.map_append, List.sum_append, hst]
        exact eqI (by simp)
      · simp (disch := omega) only [f1, f3, f4, hk, ↓SXd, SXu, slBounds, ↓sop, ↓aop, ↓reduceIte, LV.cells, AOp.dst, LV.I, LV.B, LV.U, LV.S, LV.nil, Nat.reduceEqDiff, Nat.reduceAdd, Nat.reduceMul, Nat.reduceSub, Nat.reduceLeDiff, Nat.reduceBEq, Nat.reduceDiv, Nat.reduceMod, Int.reduceToNat, Int.reduceLT, Int.reduceLE, Int.reduceAdd, Int.reduceSub, Int.reduceMul, Int.reduceEq, Int.reduceNeg, reduceCtorEq, resV, resAll, ARes.ev, LV.flat, ite_true, ite_false, exists_eq_left', exists_eq_left, keyOf, implies_true, fillC, capOf]
        refine ⟨m - 1, by omega, i + 1, by omega, hpre, b1, f1, ?_, eqI (natI _)⟩
        rw [hts, List.filter_append, List.filter_cons_of_neg hk, List.filter_nil, List.append_nil]; exact f3
    · have : i = cs.length := by omega
      subst this
      rw [List.take_length] at f3
      simp (disch := omega) only [f1, f3, f4, ↓SXd, SXu, slBounds, ↓sop, ↓aop, ↓reduceIte, LV.cells, AOp.dst, LV.I, LV.B, LV.U, LV.S, LV.nil, Nat.reduceEqDiff, Nat.reduceAdd, Nat.reduceMul, Nat.reduceSub, Nat.reduceLeDiff, Nat.reduceBEq, Nat.reduceDiv, Nat.reduceMod, Int.reduceToNat, Int.reduceLT, Int.reduceLE, Int.reduceAdd, Int.reduceSub, Int.reduceMul, Int.reduceEq, Int.reduceNeg, reduceCtorEq, resV, resAll, ARes.ev, LV.flat, ite_true, ite_false, exists_eq_left', exists_eq_left, keyOf, implies_true, fillC, capOf]
      exact cmp_pre hpre rfl

theorem h_sCountTakings {x y z : Int} {t : Nat} {w : Bool} {cs : List Cell} {M : Mem} (h : Live M t (.row (triL cs) w 3)) (hn : cs.length ≤ 1000000000) :
    CallsTo PG F.spec_CountTakings [.agg [.I x, .I y, .I z, .ref t 0 cs.length]] M (.tup [.I (tksN x y z cs : Nat), .B (tksB x y z cs)]) M := by
  refine calls_run K.spec_CountTakings rfl ?_
  simp (disch := omega) only [C.spec_CountTakings, ↓SXd, SXu, slBounds, ↓sop, ↓aop, ↓reduceIte, LV.cells, AOp.dst, LV.I, LV.B, LV.U, LV.S, LV.nil, Nat.reduceEqDiff, Nat.reduceAdd, Nat.reduceMul, Nat.reduceSub, Nat.reduceLeDiff, Nat.reduceBEq, Nat.reduceDiv, Nat.reduceMod, Int.reduceToNat, Int.reduceLT, Int.reduceLE, Int.reduceAdd, Int.reduceSub, Int.reduceMul, Int.reduceEq, Int.reduceNeg, reduceCtorEq, resV, resAll, ARes.ev, LV.flat, ite_true, ite_false, exists_eq_left', exists_eq_left, keyOf, implies_true, fillC, capOf]
  refine callK_of (h_l7Stands h.app hn) ?_
  simp (disch := omega) only [↓SXd, SXu, slBounds, ↓sop, ↓aop, ↓reduceIte, LV.cells, AOp.dst, LV.I, LV.B, LV.U, LV.S, LV.nil, Nat.reduceEqDiff, Nat.reduceAdd, Nat.reduceMul, Nat.reduceSub, Nat.reduceLeDiff, Nat.reduceBEq, Nat.reduceDiv, Nat.reduceMod, Int.reduceToNat, Int.reduceLT, Int.reduceLE, Int.reduceAdd, Int.reduceSub, Int.reduceMul, Int.reduceEq, Int.reduceNeg, reduceCtorEq, resV, resAll, ARes.ev, LV.flat, ite_true, ite_false, exists_eq_left', exists_eq_left, keyOf, implies_true, fillC, capOf]
  unfold tksN tksB
  by_cases hV : HeapOK x y z cs ∧ Firm x y z (fun c => decide (c ∈ cs))
  · rw [std_yes hV, Bool.true_and]
    by_cases h8 : cs.length ≤ 8
    · have h8' : ¬ ((8 : Int) < (cs.length : Nat)) := by omega
      rw [decide_eq_true h8, if_pos rfl]
      simp (disch := omega) only [hV, h8', ↓SXd, SXu, slBounds, ↓sop, ↓aop, ↓reduceIte, LV.cells, AOp.dst, LV.I, LV.B, LV.U, LV.S, LV.nil, Nat.reduceEqDiff, Nat.reduceAdd, Nat.reduceMul, Nat.reduceSub, Nat.reduceLeDiff, Nat.reduceBEq, Nat.reduceDiv, Nat.reduceMod, Int.reduceToNat, Int.reduceLT, Int.reduceLE, Int.reduceAdd, Int.reduceSub, Int.reduceMul, Int.reduceEq, Int.reduceNeg, reduceCtorEq, resV, resAll, ARes.ev, LV.flat, ite_true, ite_false, exists_eq_left', exists_eq_left, keyOf, implies_true, fillC, capOf]
      refine callK_of (h_l7Takings cs.length h.app hV.1 rfl h8) ?_
      simp (disch := omega) only [↓SXd, SXu, slBounds, ↓sop, ↓aop, ↓reduceIte, LV.cells, AOp.dst, LV.I, LV.B, LV.U, LV.S, LV.nil, Nat.reduceEqDiff, Nat.reduceAdd, Nat.reduceMul, Nat.reduceSub, Nat.reduceLeDiff, Nat.reduceBEq, Nat.reduceDiv, Nat.reduceMod, Int.reduceToNat, Int.reduceLT, Int.reduceLE, Int.reduceAdd, Int.reduceSub, Int.reduceMul, Int.reduceEq, Int.reduceNeg, reduceCtorEq, resV, resAll, ARes.ev, LV.flat, ite_true, ite_false, exists_eq_left', exists_eq_left, keyOf, implies_true, fillC, capOf]
      exact cmp_drop rfl
    · have h8' : (8 : Int) < (cs.length : Nat) := by omega
      rw [decide_eq_false h8, if_neg (by simp)]
      simp (disch := omega) only [hV, h8', ↓SXd, SXu, slBounds, ↓sop, ↓aop, ↓reduceIte, LV.cells, AOp.dst, LV.I, LV.B, LV.U, LV.S, LV.nil, Nat.reduceEqDiff, Nat.reduceAdd, Nat.reduceMul, Nat.reduceSub, Nat.reduceLeDiff, Nat.reduceBEq, Nat.reduceDiv, Nat.reduceMod, Int.reduceToNat, Int.reduceLT, Int.reduceLE, Int.reduceAdd, Int.reduceSub, Int.reduceMul, Int.reduceEq, Int.reduceNeg, reduceCtorEq, resV, resAll, ARes.ev, LV.flat, ite_true, ite_false, exists_eq_left', exists_eq_left, keyOf, implies_true, fillC, capOf]
      exact cmp_drop rfl
  · rw [std_no hV, Bool.false_and, if_neg (by simp)]
    simp (disch := omega) only [hV, ↓SXd, SXu, slBounds, ↓sop, ↓aop, ↓reduceIte, LV.cells, AOp.dst, LV.I, LV.B, LV.U, LV.S, LV.nil, Nat.reduceEqDiff, Nat.reduceAdd, Nat.reduceMul, Nat.reduceSub, Nat.reduceLeDiff, Nat.reduceBEq, Nat.reduceDiv, Nat.reduceMod, Int.reduceToNat, Int.reduceLT, Int.reduceLE, Int.reduceAdd, Int.reduceSub, Int.reduceMul, Int.reduceEq, Int.reduceNeg, reduceCtorEq, resV, resAll, ARes.ev, LV.flat, ite_true, ite_false, exists_eq_left', exists_eq_left, keyOf, implies_true, fillC, capOf]
    exact cmp_drop rfl
end Go.Ab

/- Contracts: keys, taking orders, the program's side. Maps with sets as keys. -/
namespace Go.Ab
open Go
set_option linter.unusedSimpArgs false
set_option linter.unusedVariables false
set_option maxRecDepth 20000

theorem neg_not (b : BitVec 64) : -b = ~~~(b - 1#64) := by
  apply BitVec.eq_of_toNat_eq
  have := b.isLt
  rw [BitVec.toNat_neg, BitVec.toNat_not, BitVec.toNat_sub]
  simp only [BitVec.toNat_ofNat]
  omega
theorem clear_low (b : BitVec 64) : b &&& (b - 1#64) = b &&& ~~~(b &&& -b) := by
  rw [neg_not]
  apply BitVec.eq_of_getLsbD_eq
  intro i hi
  simp only [BitVec.getLsbD_and, BitVec.getLsbD_not, hi, decide_true, Bool.true_and]
  cases b.getLsbD i <;> cases (b - 1#64).getLsbD i <;> rfl

section
variable {x y z : Int} {t : Nat} {w : Bool} {cs : List Cell} {M : Mem} (h : Live M t (.row (triL cs) w 3)) (hn : cs.length ≤ 1000000000)
include h hn
theorem g_CanTake {c : Cell} : CallsTo PG F.impl_CanTake [.agg [.I x, .I y, .I z, .ref t 0 cs.length], .agg [.I c.a, .I c.b, .I c.c]] M (.tup [.B (canR x y z cs c), .B (canB x y z cs c)]) M := by
  refine calls_run K.impl_CanTake rfl ?_
  simp (disch := omega) only [C.impl_CanTake, ↓SXd, SXu, slBounds, ↓sop, ↓aop, ↓reduceIte, LV.cells, AOp.dst, LV.I, LV.B, LV.U, LV.S, LV.nil, Nat.reduceEqDiff, Nat.reduceAdd, Nat.reduceMul, Nat.reduceSub, Nat.reduceLeDiff, Nat.reduceBEq, Nat.reduceDiv, Nat.reduceMod, Int.reduceToNat, Int.reduceLT, Int.reduceLE, Int.reduceAdd, Int.reduceSub, Int.reduceMul, Int.reduceEq, Int.reduceNeg, reduceCtorEq, resV, resAll, ARes.ev, LV.flat, ite_true, ite_false, exists_eq_left', exists_eq_left, keyOf, implies_true, fillC, capOf]
  refine callK_of (g_isStanding (Has.app h.has) hn) ?_
  simp (disch := omega) only [↓SXd, SXu, slBounds, ↓sop, ↓aop, ↓reduceIte, LV.cells, AOp.dst, LV.I, LV.B, LV.U, LV.S, LV.nil, Nat.reduceEqDiff, Nat.reduceAdd, Nat.reduceMul, Nat.reduceSub, Nat.reduceLeDiff, Nat.reduceBEq, Nat.reduceDiv, Nat.reduceMod, Int.reduceToNat, Int.reduceLT, Int.reduceLE, Int.reduceAdd, Int.reduceSub, Int.reduceMul, Int.reduceEq, Int.reduceNeg, reduceCtorEq, resV, resAll, ARes.ev, LV.flat, ite_true, ite_false, exists_eq_left', exists_eq_left, keyOf, implies_true, fillC, capOf]
  unfold canR canB
  by_cases hV : HeapOK x y z cs ∧ Firm x y z (fun c => decide (c ∈ cs))
  · rw [std_yes hV]
    have hS := hV.1.1
    simp (disch := omega) only [hV, ↓SXd, SXu, slBounds, ↓sop, ↓aop, ↓reduceIte, LV.cells, AOp.dst, LV.I, LV.B, LV.U, LV.S, LV.nil, Nat.reduceEqDiff, Nat.reduceAdd, Nat.reduceMul, Nat.reduceSub, Nat.reduceLeDiff, Nat.reduceBEq, Nat.reduceDiv, Nat.reduceMod, Int.reduceToNat, Int.reduceLT, Int.reduceLE, Int.reduceAdd, Int.reduceSub, Int.reduceMul, Int.reduceEq, Int.reduceNeg, reduceCtorEq, resV, resAll, ARes.ev, LV.flat, ite_true, ite_false, exists_eq_left', exists_eq_left, keyOf, implies_true, fillC, capOf]
    refine callK_of (g_box) ?_
    simp (disch := omega) only [↓SXd, SXu, slBounds, ↓sop, ↓aop, ↓reduceIte, LV.cells, AOp.dst, LV.I, LV.B, LV.U, LV.S, LV.nil, Nat.reduceEqDiff, Nat.reduceAdd, Nat.reduceMul, Nat.reduceSub, Nat.reduceLeDiff, Nat.reduceBEq, Nat.reduceDiv, Nat.reduceMod, Int.reduceToNat, Int.reduceLT, Int.reduceLE, Int.reduceAdd, Int.reduceSub, Int.reduceMul, Int.reduceEq, Int.reduceNeg, reduceCtorEq, resV, resAll, ARes.ev, LV.flat, ite_true, ite_false, exists_eq_left', exists_eq_left, keyOf, implies_true, fillC, capOf]
    refine callK_of (g_has hS) ?_
    simp (disch := omega) only [↓SXd, SXu, slBounds, ↓sop, ↓aop, ↓reduceIte, LV.cells, AOp.dst, LV.I, LV.B, LV.U, LV.S, LV.nil, Nat.reduceEqDiff, Nat.reduceAdd, Nat.reduceMul, Nat.reduceSub, Nat.reduceLeDiff, Nat.reduceBEq, Nat.reduceDiv, Nat.reduceMod, Int.reduceToNat, Int.reduceLT, Int.reduceLE, Int.reduceAdd, Int.reduceSub, Int.reduceMul, Int.reduceEq, Int.reduceNeg, reduceCtorEq, resV, resAll, ARes.ev, LV.flat, ite_true, ite_false, exists_eq_left', exists_eq_left, keyOf, implies_true, fillC, capOf]
    rw [cell_eta]
    by_cases hc : c.inBox x y z
    · rw [decide_eq_true hc]
      simp (disch := omega) only [hc, ↓SXd, SXu, slBounds, ↓sop, ↓aop, ↓reduceIte, LV.cells, AOp.dst, LV.I, LV.B, LV.U, LV.S, LV.nil, Nat.reduceEqDiff, Nat.reduceAdd, Nat.reduceMul, Nat.reduceSub, Nat.reduceLeDiff, Nat.reduceBEq, Nat.reduceDiv, Nat.reduceMod, Int.reduceToNat, Int.reduceLT, Int.reduceLE, Int.reduceAdd, Int.reduceSub, Int.reduceMul, Int.reduceEq, Int.reduceNeg, reduceCtorEq, resV, resAll, ARes.ev, LV.flat, ite_true, ite_false, exists_eq_left', exists_eq_left, keyOf, implies_true, fillC, capOf]
      refine callK_of (g_box) ?_
      simp (disch := omega) only [↓SXd, SXu, slBounds, ↓sop, ↓aop, ↓reduceIte, LV.cells, AOp.dst, LV.I, LV.B, LV.U, LV.S, LV.nil, Nat.reduceEqDiff, Nat.reduceAdd, Nat.reduceMul, Nat.reduceSub, Nat.reduceLeDiff, Nat.reduceBEq, Nat.reduceDiv, Nat.reduceMod, Int.reduceToNat, Int.reduceLT, Int.reduceLE, Int.reduceAdd, Int.reduceSub, Int.reduceMul, Int.reduceEq, Int.reduceNeg, reduceCtorEq, resV, resAll, ARes.ev, LV.flat, ite_true, ite_false, exists_eq_left', exists_eq_left, keyOf, implies_true, fillC, capOf]
      refine callK_of (g_cubes (Has.app h.has) hn hS (fun c hc => hV.1.mem hc)) ?_
      simp (disch := omega) only [↓SXd, SXu, slBounds, ↓sop, ↓aop, ↓reduceIte, LV.cells, AOp.dst, LV.I, LV.B, LV.U, LV.S, LV.nil, Nat.reduceEqDiff, Nat.reduceAdd, Nat.reduceMul, Nat.reduceSub, Nat.reduceLeDiff, Nat.reduceBEq, Nat.reduceDiv, Nat.reduceMod, Int.reduceToNat, Int.reduceLT, Int.reduceLE, Int.reduceAdd, Int.reduceSub, Int.reduceMul, Int.reduceEq, Int.reduceNeg, reduceCtorEq, resV, resAll, ARes.ev, LV.flat, ite_true, ite_false, exists_eq_left', exists_eq_left, keyOf, implies_true, fillC, capOf]
      refine callK_of (g_takeable hS) ?_
      simp (disch := omega) only [↓SXd, SXu, slBounds, ↓sop, ↓aop, ↓reduceIte, LV.cells, AOp.dst, LV.I, LV.B, LV.U, LV.S, LV.nil, Nat.reduceEqDiff, Nat.reduceAdd, Nat.reduceMul, Nat.reduceSub, Nat.reduceLeDiff, Nat.reduceBEq, Nat.reduceDiv, Nat.reduceMod, Int.reduceToNat, Int.reduceLT, Int.reduceLE, Int.reduceAdd, Int.reduceSub, Int.reduceMul, Int.reduceEq, Int.reduceNeg, reduceCtorEq, resV, resAll, ARes.ev, LV.flat, ite_true, ite_false, exists_eq_left', exists_eq_left, keyOf, implies_true, fillC, capOf]
      refine callK_of (g_box) ?_
      simp (disch := omega) only [↓SXd, SXu, slBounds, ↓sop, ↓aop, ↓reduceIte, LV.cells, AOp.dst, LV.I, LV.B, LV.U, LV.S, LV.nil, Nat.reduceEqDiff, Nat.reduceAdd, Nat.reduceMul, Nat.reduceSub, Nat.reduceLeDiff, Nat.reduceBEq, Nat.reduceDiv, Nat.reduceMod, Int.reduceToNat, Int.reduceLT, Int.reduceLE, Int.reduceAdd, Int.reduceSub, Int.reduceMul, Int.reduceEq, Int.reduceNeg, reduceCtorEq, resV, resAll, ARes.ev, LV.flat, ite_true, ite_false, exists_eq_left', exists_eq_left, keyOf, implies_true, fillC, capOf]
      refine callK_of (g_index hS hc) ?_
      simp (disch := omega) only [↓SXd, SXu, slBounds, ↓sop, ↓aop, ↓reduceIte, LV.cells, AOp.dst, LV.I, LV.B, LV.U, LV.S, LV.nil, Nat.reduceEqDiff, Nat.reduceAdd, Nat.reduceMul, Nat.reduceSub, Nat.reduceLeDiff, Nat.reduceBEq, Nat.reduceDiv, Nat.reduceMod, Int.reduceToNat, Int.reduceLT, Int.reduceLE, Int.reduceAdd, Int.reduceSub, Int.reduceMul, Int.reduceEq, Int.reduceNeg, reduceCtorEq, resV, resAll, ARes.ev, LV.flat, ite_true, ite_false, exists_eq_left', exists_eq_left, keyOf, implies_true, fillC, capOf]
      refine callK_of (g_has_set (idx_in hS hc).1) ?_
      simp (disch := omega) only [↓SXd, SXu, slBounds, ↓sop, ↓aop, ↓reduceIte, LV.cells, AOp.dst, LV.I, LV.B, LV.U, LV.S, LV.nil, Nat.reduceEqDiff, Nat.reduceAdd, Nat.reduceMul, Nat.reduceSub, Nat.reduceLeDiff, Nat.reduceBEq, Nat.reduceDiv, Nat.reduceMod, Int.reduceToNat, Int.reduceLT, Int.reduceLE, Int.reduceAdd, Int.reduceSub, Int.reduceMul, Int.reduceEq, Int.reduceNeg, reduceCtorEq, resV, resAll, ARes.ev, LV.flat, ite_true, ite_false, exists_eq_left', exists_eq_left, keyOf, implies_true, fillC, capOf]
      rw [bs_has hS hc]
      exact cmp_drop rfl
    · rw [decide_eq_false hc]
      simp (disch := omega) only [hc, ↓SXd, SXu, slBounds, ↓sop, ↓aop, ↓reduceIte, LV.cells, AOp.dst, LV.I, LV.B, LV.U, LV.S, LV.nil, Nat.reduceEqDiff, Nat.reduceAdd, Nat.reduceMul, Nat.reduceSub, Nat.reduceLeDiff, Nat.reduceBEq, Nat.reduceDiv, Nat.reduceMod, Int.reduceToNat, Int.reduceLT, Int.reduceLE, Int.reduceAdd, Int.reduceSub, Int.reduceMul, Int.reduceEq, Int.reduceNeg, reduceCtorEq, resV, resAll, ARes.ev, LV.flat, ite_true, ite_false, exists_eq_left', exists_eq_left, keyOf, implies_true, fillC, capOf]
      exact cmp_drop rfl
  · rw [std_no hV]
    simp (disch := omega) only [hV, ↓SXd, SXu, slBounds, ↓sop, ↓aop, ↓reduceIte, LV.cells, AOp.dst, LV.I, LV.B, LV.U, LV.S, LV.nil, Nat.reduceEqDiff, Nat.reduceAdd, Nat.reduceMul, Nat.reduceSub, Nat.reduceLeDiff, Nat.reduceBEq, Nat.reduceDiv, Nat.reduceMod, Int.reduceToNat, Int.reduceLT, Int.reduceLE, Int.reduceAdd, Int.reduceSub, Int.reduceMul, Int.reduceEq, Int.reduceNeg, reduceCtorEq, resV, resAll, ARes.ev, LV.flat, ite_true, ite_false, exists_eq_left', exists_eq_left, keyOf, implies_true, fillC, capOf]
    exact cmp_drop rfl

theorem g_KeyCubes : CallsR PG F.impl_KeyCubes [.agg [.I x, .I y, .I z, .ref t 0 cs.length]] M (CellsY M (keyOf' x y z cs)) := by
  refine callsR_run K.impl_KeyCubes rfl ?_
  simp (disch := omega) only [C.impl_KeyCubes, ↓SXd, SXu, slBounds, ↓sop, ↓aop, ↓reduceIte, LV.cells, AOp.dst, LV.I, LV.B, LV.U, LV.S, LV.nil, Nat.reduceEqDiff, Nat.reduceAdd, Nat.reduceMul, Nat.reduceSub, Nat.reduceLeDiff, Nat.reduceBEq, Nat.reduceDiv, Nat.reduceMod, Int.reduceToNat, Int.reduceLT, Int.reduceLE, Int.reduceAdd, Int.reduceSub, Int.reduceMul, Int.reduceEq, Int.reduceNeg, reduceCtorEq, resV, resAll, ARes.ev, LV.flat, ite_true, ite_false, exists_eq_left', exists_eq_left, keyOf, implies_true, fillC, capOf]
  refine callK_of (g_isStanding (Has.app h.has) hn) ?_
  simp (disch := omega) only [↓SXd, SXu, slBounds, ↓sop, ↓aop, ↓reduceIte, LV.cells, AOp.dst, LV.I, LV.B, LV.U, LV.S, LV.nil, Nat.reduceEqDiff, Nat.reduceAdd, Nat.reduceMul, Nat.reduceSub, Nat.reduceLeDiff, Nat.reduceBEq, Nat.reduceDiv, Nat.reduceMod, Int.reduceToNat, Int.reduceLT, Int.reduceLE, Int.reduceAdd, Int.reduceSub, Int.reduceMul, Int.reduceEq, Int.reduceNeg, reduceCtorEq, resV, resAll, ARes.ev, LV.flat, ite_true, ite_false, exists_eq_left', exists_eq_left, keyOf, implies_true, fillC, capOf]
  by_cases hV : HeapOK x y z cs ∧ Firm x y z (fun c => decide (c ∈ cs))
  rotate_left
  · simp (disch := omega) only [hV, ↓SXd, SXu, slBounds, ↓sop, ↓aop, ↓reduceIte, LV.cells, AOp.dst, LV.I, LV.B, LV.U, LV.S, LV.nil, Nat.reduceEqDiff, Nat.reduceAdd, Nat.reduceMul, Nat.reduceSub, Nat.reduceLeDiff, Nat.reduceBEq, Nat.reduceDiv, Nat.reduceMod, Int.reduceToNat, Int.reduceLT, Int.reduceLE, Int.reduceAdd, Int.reduceSub, Int.reduceMul, Int.reduceEq, Int.reduceNeg, reduceCtorEq, resV, resAll, ARes.ev, LV.flat, ite_true, ite_false, exists_eq_left', exists_eq_left, keyOf, implies_true, fillC, capOf]
    exact cellsY_nil (if_neg (by rw [std_no hV]; simp)) rfl (Pre.app _ _)
  have hS := hV.1.1
  simp (disch := omega) only [hV, ↓SXd, SXu, slBounds, ↓sop, ↓aop, ↓reduceIte, LV.cells, AOp.dst, LV.I, LV.B, LV.U, LV.S, LV.nil, Nat.reduceEqDiff, Nat.reduceAdd, Nat.reduceMul, Nat.reduceSub, Nat.reduceLeDiff, Nat.reduceBEq, Nat.reduceDiv, Nat.reduceMod, Int.reduceToNat, Int.reduceLT, Int.reduceLE, Int.reduceAdd, Int.reduceSub, Int.reduceMul, Int.reduceEq, Int.reduceNeg, reduceCtorEq, resV, resAll, ARes.ev, LV.flat, ite_true, ite_false, exists_eq_left', exists_eq_left, keyOf, implies_true, fillC, capOf]
  refine callK_of (g_box) ?_
  simp (disch := omega) only [↓SXd, SXu, slBounds, ↓sop, ↓aop, ↓reduceIte, LV.cells, AOp.dst, LV.I, LV.B, LV.U, LV.S, LV.nil, Nat.reduceEqDiff, Nat.reduceAdd, Nat.reduceMul, Nat.reduceSub, Nat.reduceLeDiff, Nat.reduceBEq, Nat.reduceDiv, Nat.reduceMod, Int.reduceToNat, Int.reduceLT, Int.reduceLE, Int.reduceAdd, Int.reduceSub, Int.reduceMul, Int.reduceEq, Int.reduceNeg, reduceCtorEq, resV, resAll, ARes.ev, LV.flat, ite_true, ite_false, exists_eq_left', exists_eq_left, keyOf, implies_true, fillC, capOf]
  refine callK_of (g_cubes (Has.app h.has) hn hS (fun c hc => hV.1.mem hc)) ?_
  simp (disch := omega) only [↓SXd, SXu, slBounds, ↓sop, ↓aop, ↓reduceIte, LV.cells, AOp.dst, LV.I, LV.B, LV.U, LV.S, LV.nil, Nat.reduceEqDiff, Nat.reduceAdd, Nat.reduceMul, Nat.reduceSub, Nat.reduceLeDiff, Nat.reduceBEq, Nat.reduceDiv, Nat.reduceMod, Int.reduceToNat, Int.reduceLT, Int.reduceLE, Int.reduceAdd, Int.reduceSub, Int.reduceMul, Int.reduceEq, Int.reduceNeg, reduceCtorEq, resV, resAll, ARes.ev, LV.flat, ite_true, ite_false, exists_eq_left', exists_eq_left, keyOf, implies_true, fillC, capOf]
  refine callK_of (g_box) ?_
  simp (disch := omega) only [↓SXd, SXu, slBounds, ↓sop, ↓aop, ↓reduceIte, LV.cells, AOp.dst, LV.I, LV.B, LV.U, LV.S, LV.nil, Nat.reduceEqDiff, Nat.reduceAdd, Nat.reduceMul, Nat.reduceSub, Nat.reduceLeDiff, Nat.reduceBEq, Nat.reduceDiv, Nat.reduceMod, Int.reduceToNat, Int.reduceLT, Int.reduceLE, Int.reduceAdd, Int.reduceSub, Int.reduceMul, Int.reduceEq, Int.reduceNeg, reduceCtorEq, resV, resAll, ARes.ev, LV.flat, ite_true, ite_false, exists_eq_left', exists_eq_left, keyOf, implies_true, fillC, capOf]
  refine callK_of (g_cubes (Has.app h.has) hn hS (fun c hc => hV.1.mem hc)) ?_
  simp (disch := omega) only [↓SXd, SXu, slBounds, ↓sop, ↓aop, ↓reduceIte, LV.cells, AOp.dst, LV.I, LV.B, LV.U, LV.S, LV.nil, Nat.reduceEqDiff, Nat.reduceAdd, Nat.reduceMul, Nat.reduceSub, Nat.reduceLeDiff, Nat.reduceBEq, Nat.reduceDiv, Nat.reduceMod, Int.reduceToNat, Int.reduceLT, Int.reduceLE, Int.reduceAdd, Int.reduceSub, Int.reduceMul, Int.reduceEq, Int.reduceNeg, reduceCtorEq, resV, resAll, ARes.ev, LV.flat, ite_true, ite_false, exists_eq_left', exists_eq_left, keyOf, implies_true, fillC, capOf]
  refine callK_of (g_takeable hS) ?_
  simp (disch := omega) only [↓SXd, SXu, slBounds, ↓sop, ↓aop, ↓reduceIte, LV.cells, AOp.dst, LV.I, LV.B, LV.U, LV.S, LV.nil, Nat.reduceEqDiff, Nat.reduceAdd, Nat.reduceMul, Nat.reduceSub, Nat.reduceLeDiff, Nat.reduceBEq, Nat.reduceDiv, Nat.reduceMod, Int.reduceToNat, Int.reduceLT, Int.reduceLE, Int.reduceAdd, Int.reduceSub, Int.reduceMul, Int.reduceEq, Int.reduceNeg, reduceCtorEq, resV, resAll, ARes.ev, LV.flat, ite_true, ite_false, exists_eq_left', exists_eq_left, keyOf, implies_true, fillC, capOf]
  rw [bs_diff hS]
  refine callK_of (g_list hS) ?_
  simp (disch := omega) only [↓SXd, SXu, slBounds, ↓sop, ↓aop, ↓reduceIte, LV.cells, AOp.dst, LV.I, LV.B, LV.U, LV.S, LV.nil, Nat.reduceEqDiff, Nat.reduceAdd, Nat.reduceMul, Nat.reduceSub, Nat.reduceLeDiff, Nat.reduceBEq, Nat.reduceDiv, Nat.reduceMod, Int.reduceToNat, Int.reduceLT, Int.reduceLE, Int.reduceAdd, Int.reduceSub, Int.reduceMul, Int.reduceEq, Int.reduceNeg, reduceCtorEq, resV, resAll, ARes.ev, LV.flat, ite_true, ite_false, exists_eq_left', exists_eq_left, keyOf, implies_true, fillC, capOf]
  exact cellsY_yes (l := keyL x y z cs) (if_pos (std_yes hV)) rfl (Live.newj (j := 1) rfl) (Pre.app _ _)
end

theorem g_IsTakingOrder {x y z : Int} {t : Nat} {w : Bool} {cs l : List Cell} {v : LV} {M : Mem} (h : Live M t (.row (triL cs) w 3)) (hn : cs.length ≤ 1000000000) (hv : CellsV M v l) (hl : l.length ≤ 1000000000) :
    CallsTo PG F.impl_IsTakingOrder [.agg [.I x, .I y, .I z, .ref t 0 cs.length], v] M (.tup [.B (ordR x y z cs l), .B (stdB x y z cs)]) M := by
  refine calls_run K.impl_IsTakingOrder rfl ?_
  simp (disch := omega) only [C.impl_IsTakingOrder, ↓SXd, SXu, slBounds, ↓sop, ↓aop, ↓reduceIte, LV.cells, AOp.dst, LV.I, LV.B, LV.U, LV.S, LV.nil, Nat.reduceEqDiff, Nat.reduceAdd, Nat.reduceMul, Nat.reduceSub, Nat.reduceLeDiff, Nat.reduceBEq, Nat.reduceDiv, Nat.reduceMod, Int.reduceToNat, Int.reduceLT, Int.reduceLE, Int.reduceAdd, Int.reduceSub, Int.reduceMul, Int.reduceEq, Int.reduceNeg, reduceCtorEq, resV, resAll, ARes.ev, LV.flat, ite_true, ite_false, exists_eq_left', exists_eq_left, keyOf, implies_true, fillC, capOf]
  refine callK_of (g_isStanding (Has.app h.has) hn) ?_
  simp (disch := omega) only [↓SXd, SXu, slBounds, ↓sop, ↓aop, ↓reduceIte, LV.cells, AOp.dst, LV.I, LV.B, LV.U, LV.S, LV.nil, Nat.reduceEqDiff, Nat.reduceAdd, Nat.reduceMul, Nat.reduceSub, Nat.reduceLeDiff, Nat.reduceBEq, Nat.reduceDiv, Nat.reduceMod, Int.reduceToNat, Int.reduceLT, Int.reduceLE, Int.reduceAdd, Int.reduceSub, Int.reduceMul, Int.reduceEq, Int.reduceNeg, reduceCtorEq, resV, resAll, ARes.ev, LV.flat, ite_true, ite_false, exists_eq_left', exists_eq_left, keyOf, implies_true, fillC, capOf]
  unfold ordR
  by_cases hV : HeapOK x y z cs ∧ Firm x y z (fun c => decide (c ∈ cs))
  rotate_left
  · rw [std_no hV]
    simp (disch := omega) only [hV, ↓SXd, SXu, slBounds, ↓sop, ↓aop, ↓reduceIte, LV.cells, AOp.dst, LV.I, LV.B, LV.U, LV.S, LV.nil, Nat.reduceEqDiff, Nat.reduceAdd, Nat.reduceMul, Nat.reduceSub, Nat.reduceLeDiff, Nat.reduceBEq, Nat.reduceDiv, Nat.reduceMod, Int.reduceToNat, Int.reduceLT, Int.reduceLE, Int.reduceAdd, Int.reduceSub, Int.reduceMul, Int.reduceEq, Int.reduceNeg, reduceCtorEq, resV, resAll, ARes.ev, LV.flat, ite_true, ite_false, exists_eq_left', exists_eq_left, keyOf, implies_true, fillC, capOf]
    exact cmp_drop rfl
  rw [std_yes hV, Bool.true_and]
  have hS := hV.1.1
  have hlv := hv.lenV
  simp (disch := omega) only [hV, ↓SXd, SXu, slBounds, ↓sop, ↓aop, ↓reduceIte, LV.cells, AOp.dst, LV.I, LV.B, LV.U, LV.S, LV.nil, Nat.reduceEqDiff, Nat.reduceAdd, Nat.reduceMul, Nat.reduceSub, Nat.reduceLeDiff, Nat.reduceBEq, Nat.reduceDiv, Nat.reduceMod, Int.reduceToNat, Int.reduceLT, Int.reduceLE, Int.reduceAdd, Int.reduceSub, Int.reduceMul, Int.reduceEq, Int.reduceNeg, reduceCtorEq, resV, resAll, ARes.ev, LV.flat, ite_true, ite_false, exists_eq_left', exists_eq_left, keyOf, implies_true, fillC, capOf]
  refine callK_of (g_box) ?_
  simp (disch := omega) only [splice, ↓SXd, SXu, slBounds, ↓sop, ↓aop, ↓reduceIte, LV.cells, AOp.dst, LV.I, LV.B, LV.U, LV.S, LV.nil, Nat.reduceEqDiff, Nat.reduceAdd, Nat.reduceMul, Nat.reduceSub, Nat.reduceLeDiff, Nat.reduceBEq, Nat.reduceDiv, Nat.reduceMod, Int.reduceToNat, Int.reduceLT, Int.reduceLE, Int.reduceAdd, Int.reduceSub, Int.reduceMul, Int.reduceEq, Int.reduceNeg, reduceCtorEq, resV, resAll, ARes.ev, LV.flat, ite_true, ite_false, exists_eq_left', exists_eq_left, keyOf, implies_true, fillC, capOf]
  refine callK_of (g_cubes (Has.app h.has) hn hS (fun c hc => hV.1.mem hc)) ?_
  simp (disch := omega) only [splice, ↓SXd, SXu, slBounds, ↓sop, ↓aop, ↓reduceIte, LV.cells, AOp.dst, LV.I, LV.B, LV.U, LV.S, LV.nil, Nat.reduceEqDiff, Nat.reduceAdd, Nat.reduceMul, Nat.reduceSub, Nat.reduceLeDiff, Nat.reduceBEq, Nat.reduceDiv, Nat.reduceMod, Int.reduceToNat, Int.reduceLT, Int.reduceLE, Int.reduceAdd, Int.reduceSub, Int.reduceMul, Int.reduceEq, Int.reduceNeg, reduceCtorEq, resV, resAll, ARes.ev, LV.flat, ite_true, ite_false, exists_eq_left', exists_eq_left, keyOf, implies_true, fillC, capOf]
  simp (disch := omega) only [hlv, ↓SXd, SXu, slBounds, ↓sop, ↓aop, ↓reduceIte, LV.cells, AOp.dst, LV.I, LV.B, LV.U, LV.S, LV.nil, Nat.reduceEqDiff, Nat.reduceAdd, Nat.reduceMul, Nat.reduceSub, Nat.reduceLeDiff, Nat.reduceBEq, Nat.reduceDiv, Nat.reduceMod, Int.reduceToNat, Int.reduceLT, Int.reduceLE, Int.reduceAdd, Int.reduceSub, Int.reduceMul, Int.reduceEq, Int.reduceNeg, reduceCtorEq, resV, resAll, ARes.ev, LV.flat, ite_true, ite_false, exists_eq_left', exists_eq_left, keyOf, implies_true, fillC, capOf]
  refine ev_loop (fun m fr M' => ∃ (i : Nat) (ds : List Cell), i + m = l.length ∧ Pre M M' ∧ Live M' (M.length + 1) (.row [.I x, .I y, .I z] true 0) ∧ HeapOK x y z ds ∧ tkOrd x y z cs l = tkOrd x y z ds (l.drop i) ∧
    fr 6 = .ptr (M.length + 1) 0 ∧ fr 7 = .W (bs x y z fun d => decide (d ∈ ds)) ∧ fr 17 = v ∧ fr 18 = .I l.length ∧ fr 19 = .I i) l.length
    ⟨0, cs, by omega, Pre.app _ _, Live.newj rfl, hV.1, by simp, rfl, rfl, rfl, rfl, rfl⟩ ?_
  rintro m fr M' ⟨i, ds, hi, hpre, b6, hH, hord, f6, f7, f17, f18, f19⟩
  simp (disch := omega) only [f6, f7, f17, f18, f19, ↓SXd, SXu, slBounds, ↓sop, ↓aop, ↓reduceIte, LV.cells, AOp.dst, LV.I, LV.B, LV.U, LV.S, LV.nil, Nat.reduceEqDiff, Nat.reduceAdd, Nat.reduceMul, Nat.reduceSub, Nat.reduceLeDiff, Nat.reduceBEq, Nat.reduceDiv, Nat.reduceMod, Int.reduceToNat, Int.reduceLT, Int.reduceLE, Int.reduceAdd, Int.reduceSub, Int.reduceMul, Int.reduceEq, Int.reduceNeg, reduceCtorEq, resV, resAll, ARes.ev, LV.flat, ite_true, ite_false, exists_eq_left', exists_eq_left, keyOf, implies_true, fillC, capOf]
  refine condC_dec (fun hlt => ?_) (fun hlt => ?_)
  · have hil : i < l.length := by omega
    obtain ⟨tv, ov, rfl, hg⟩ := (hv.pre hpre).at hil
    have hdr : l.drop i = l.getD i default :: l.drop (i + 1) := by
      rw [List.drop_eq_getElem_cons hil]; simp [List.getD_eq_getElem?_getD, List.getElem?_eq_getElem hil]
    rw [hdr] at hord
    generalize hc : l.getD i default = c at hg hord
    rw [show tkOrd x y z ds (c :: l.drop (i + 1)) = (canTake x y z (fun d => decide (d ∈ ds)) c && tkOrd x y z (ds.filter fun d => !decide (d = c)) (l.drop (i + 1))) from rfl] at hord
    have b9 : Live (M' ++ [some (.row [.I c.a, .I c.b, .I c.c] true 0)]) M'.length (.row [.I c.a, .I c.b, .I c.c] true 0) := Live.new
    simp (disch := omega) only [f6, f7, f17, f18, f19, hg, Cell.row, splice, b6.app.cells, ↓SXd, SXu, slBounds, ↓sop, ↓aop, ↓reduceIte, LV.cells, AOp.dst, LV.I, LV.B, LV.U, LV.S, LV.nil, Nat.reduceEqDiff, Nat.reduceAdd, Nat.reduceMul, Nat.reduceSub, Nat.reduceLeDiff, Nat.reduceBEq, Nat.reduceDiv, Nat.reduceMod, Int.reduceToNat, Int.reduceLT, Int.reduceLE, Int.reduceAdd, Int.reduceSub, Int.reduceMul, Int.reduceEq, Int.reduceNeg, reduceCtorEq, resV, resAll, ARes.ev, LV.flat, ite_true, ite_false, exists_eq_left', exists_eq_left, keyOf, implies_true, fillC, capOf]
    refine callK_of (g_has hS) ?_
    simp (disch := omega) only [f6, f7, f17, f18, f19, ↓SXd, SXu, slBounds, ↓sop, ↓aop, ↓reduceIte, LV.cells, AOp.dst, LV.I, LV.B, LV.U, LV.S, LV.nil, Nat.reduceEqDiff, Nat.reduceAdd, Nat.reduceMul, Nat.reduceSub, Nat.reduceLeDiff, Nat.reduceBEq, Nat.reduceDiv, Nat.reduceMod, Int.reduceToNat, Int.reduceLT, Int.reduceLE, Int.reduceAdd, Int.reduceSub, Int.reduceMul, Int.reduceEq, Int.reduceNeg, reduceCtorEq, resV, resAll, ARes.ev, LV.flat, ite_true, ite_false, exists_eq_left', exists_eq_left, keyOf, implies_true, fillC, capOf]
    rw [cell_eta]
    by_cases hin : c.inBox x y z
    · simp (disch := omega) only [f6, f7, f17, f18, f19, hin, b6.app.cells, ↓SXd, SXu, slBounds, ↓sop, ↓aop, ↓reduceIte, LV.cells, AOp.dst, LV.I, LV.B, LV.U, LV.S, LV.nil, Nat.reduceEqDiff, Nat.reduceAdd, Nat.reduceMul, Nat.reduceSub, Nat.reduceLeDiff, Nat.reduceBEq, Nat.reduceDiv, Nat.reduceMod, Int.reduceToNat, Int.reduceLT, Int.reduceLE, Int.reduceAdd, Int.reduceSub, Int.reduceMul, Int.reduceEq, Int.reduceNeg, reduceCtorEq, resV, resAll, ARes.ev, LV.flat, ite_true, ite_false, exists_eq_left', exists_eq_left, keyOf, implies_true, fillC, capOf]
      refine callK_of (g_takeable hS) ?_
      simp (disch := omega) only [f6, f7, f17, f18, f19, b6.app.cells, ↓SXd, SXu, slBounds, ↓sop, ↓aop, ↓reduceIte, LV.cells, AOp.dst, LV.I, LV.B, LV.U, LV.S, LV.nil, Nat.reduceEqDiff, Nat.reduceAdd, Nat.reduceMul, Nat.reduceSub, Nat.reduceLeDiff, Nat.reduceBEq, Nat.reduceDiv, Nat.reduceMod, Int.reduceToNat, Int.reduceLT, Int.reduceLE, Int.reduceAdd, Int.reduceSub, Int.reduceMul, Int.reduceEq, Int.reduceNeg, reduceCtorEq, resV, resAll, ARes.ev, LV.flat, ite_true, ite_false, exists_eq_left', exists_eq_left, keyOf, implies_true, fillC, capOf]
      refine callK_of (g_index hS hin) ?_
      simp (disch := omega) only [f6, f7, f17, f18, f19, ↓SXd, SXu, slBounds, ↓sop, ↓aop, ↓reduceIte, LV.cells, AOp.dst, LV.I, LV.B, LV.U, LV.S, LV.nil, Nat.reduceEqDiff, Nat.reduceAdd, Nat.reduceMul, Nat.reduceSub, Nat.reduceLeDiff, Nat.reduceBEq, Nat.reduceDiv, Nat.reduceMod, Int.reduceToNat, Int.reduceLT, Int.reduceLE, Int.reduceAdd, Int.reduceSub, Int.reduceMul, Int.reduceEq, Int.reduceNeg, reduceCtorEq, resV, resAll, ARes.ev, LV.flat, ite_true, ite_false, exists_eq_left', exists_eq_left, keyOf, implies_true, fillC, capOf]
      refine callK_of (g_has_set (idx_in hS hin).1) ?_
      simp (disch := omega) only [f6, f7, f17, f18, f19, ↓SXd, SXu, slBounds, ↓sop, ↓aop, ↓reduceIte, LV.cells, AOp.dst, LV.I, LV.B, LV.U, LV.S, LV.nil, Nat.reduceEqDiff, Nat.reduceAdd, Nat.reduceMul, Nat.reduceSub, Nat.reduceLeDiff, Nat.reduceBEq, Nat.reduceDiv, Nat.reduceMod, Int.reduceToNat, Int.reduceLT, Int.reduceLE, Int.reduceAdd, Int.reduceSub, Int.reduceMul, Int.reduceEq, Int.reduceNeg, reduceCtorEq, resV, resAll, ARes.ev, LV.flat, ite_true, ite_false, exists_eq_left', exists_eq_left, keyOf, implies_true, fillC, capOf]
      rw [bs_has hS hin]
      by_cases hk : canTake x y z (fun d => decide (d ∈ ds)) c = true
      · rw [hk, Bool.true_and] at hord
        have hix := (idx_in hS hin).1
        simp (disch := omega) only [f6, f7, f17, f18, f19, hk, b6.app.cells, ↓SXd, SXu, slBounds, ↓sop, ↓aop, ↓reduceIte, LV.cells, AOp.dst, LV.I, LV.B, LV.U, LV.S, LV.nil, Nat.reduceEqDiff, Nat.reduceAdd, Nat.reduceMul, Nat.reduceSub, Nat.reduceLeDiff, Nat.reduceBEq, Nat.reduceDiv, Nat.reduceMod, Int.reduceToNat, Int.reduceLT, Int.reduceLE, Int.reduceAdd, Int.reduceSub, Int.reduceMul, Int.reduceEq, Int.reduceNeg, reduceCtorEq, resV, resAll, ARes.ev, LV.flat, ite_true, ite_false, exists_eq_left', exists_eq_left, keyOf, implies_true, fillC, capOf]
        refine callK_of (g_index hS hin) ?_
        simp (disch := omega) only [f6, f7, f17, f18, f19, ↓SXd, SXu, slBounds, ↓sop, ↓aop, ↓reduceIte, LV.cells, AOp.dst, LV.I, LV.B, LV.U, LV.S, LV.nil, Nat.reduceEqDiff, Nat.reduceAdd, Nat.reduceMul, Nat.reduceSub, Nat.reduceLeDiff, Nat.reduceBEq, Nat.reduceDiv, Nat.reduceMod, Int.reduceToNat, Int.reduceLT, Int.reduceLE, Int.reduceAdd, Int.reduceSub, Int.reduceMul, Int.reduceEq, Int.reduceNeg, reduceCtorEq, resV, resAll, ARes.ev, LV.flat, ite_true, ite_false, exists_eq_left', exists_eq_left, keyOf, implies_true, fillC, capOf]
        rw [bs_one hS hin, bs_diff hS]
        refine ⟨m - 1, by omega, i + 1, _, by omega, hpre.app', b6.app, heap_without hH c, hord, f6, ?_, f17, f18, eqI (natI _)⟩
        rw [show (bs x y z fun d => decide (d ∈ ds.filter fun d => !decide (d = c))) = bs x y z fun d => decide (d ∈ ds) && !decide (d = c) from (bs_eq hS).2 fun d _ => by
          simp only [List.mem_filter, Bool.decide_and, Bool.not_eq_true', decide_eq_false_iff_not]
          rw [Bool.eq_iff_iff]; simp]
        rfl
      · have hk' : canTake x y z (fun d => decide (d ∈ ds)) c = false := by simpa using hk
        rw [hk', Bool.false_and] at hord
        rw [hord]
        simp (disch := omega) only [f6, f7, f17, f18, f19, hk', ↓SXd, SXu, slBounds, ↓sop, ↓aop, ↓reduceIte, LV.cells, AOp.dst, LV.I, LV.B, LV.U, LV.S, LV.nil, Nat.reduceEqDiff, Nat.reduceAdd, Nat.reduceMul, Nat.reduceSub, Nat.reduceLeDiff, Nat.reduceBEq, Nat.reduceDiv, Nat.reduceMod, Int.reduceToNat, Int.reduceLT, Int.reduceLE, Int.reduceAdd, Int.reduceSub, Int.reduceMul, Int.reduceEq, Int.reduceNeg, reduceCtorEq, resV, resAll, ARes.ev, LV.flat, ite_true, ite_false, exists_eq_left', exists_eq_left, keyOf, implies_true, fillC, capOf]
        exact cmp_pre hpre.app' rfl
    · have hk' : canTake x y z (fun d => decide (d ∈ ds)) c = false := by
        cases hh : canTake x y z (fun d => decide (d ∈ ds)) c with
        | false => rfl
        | true => exact absurd (hH.mem (of_decide_eq_true (canTake_sub hh))) hin
      rw [hk', Bool.false_and] at hord
      rw [hord]
      simp (disch := omega) only [f6, f7, f17, f18, f19, hin, ↓SXd, SXu, slBounds, ↓sop, ↓aop, ↓reduceIte, LV.cells, AOp.dst, LV.I, LV.B, LV.U, LV.S, LV.nil, Nat.reduceEqDiff, Nat.reduceAdd, Nat.reduceMul, Nat.reduceSub, Nat.reduceLeDiff, Nat.reduceBEq, Nat.reduceDiv, Nat.reduceMod, Int.reduceToNat, Int.reduceLT, Int.reduceLE, Int.reduceAdd, Int.reduceSub, Int.reduceMul, Int.reduceEq, Int.reduceNeg, reduceCtorEq, resV, resAll, ARes.ev, LV.flat, ite_true, ite_false, exists_eq_left', exists_eq_left, keyOf, implies_true, fillC, capOf]
      exact cmp_pre hpre.app' rfl
  · have : i = l.length := by omega
    subst this
    rw [List.drop_length] at hord
    rw [hord]
    have hz : decide (bs x y z (fun d => decide (d ∈ ds)) = 0#64) = tkOrd x y z ds [] := by
      unfold tkOrd
      rw [Bool.eq_iff_iff, decide_eq_true_iff, decide_eq_true_iff, bs_zero hS]
      constructor
      · intro h
        cases ds with
        | nil => rfl
        | cons d ds => have := h d (hH.mem (by simp)); simp at this
      · rintro rfl d _; simp
    simp (disch := omega) only [f6, f7, f17, f18, f19, ↓SXd, SXu, slBounds, ↓sop, ↓aop, ↓reduceIte, LV.cells, AOp.dst, LV.I, LV.B, LV.U, LV.S, LV.nil, Nat.reduceEqDiff, Nat.reduceAdd, Nat.reduceMul, Nat.reduceSub, Nat.reduceLeDiff, Nat.reduceBEq, Nat.reduceDiv, Nat.reduceMod, Int.reduceToNat, Int.reduceLT, Int.reduceLE, Int.reduceAdd, Int.reduceSub, Int.reduceMul, Int.reduceEq, Int.reduceNeg, reduceCtorEq, resV, resAll, ARes.ev, LV.flat, ite_true, ite_false, exists_eq_left', exists_eq_left, keyOf, implies_true, fillC, capOf]
    rw [hz]
    exact cmp_pre hpre rfl
end Go.Ab

/- Contracts: the number of taking orders, with a map of what was counted. -/
namespace Go.Ab
open Go
set_option linter.unusedSimpArgs false
set_option linter.unusedVariables false
set_option maxRecDepth 20000

/-- A map from sets to numbers. -/
def memE (L : List (BitVec 64 × Int)) : List (LV × LV) := L.map fun q => (LV.W q.1, LV.I q.2)
theorem keyW (a b : BitVec 64) : keyEq (LV.W a) (LV.W b) = some (decide (a = b)) := by
  simp only [keyEq, if_true]
  congr 1
  rw [Bool.eq_iff_iff, beq_iff_eq, decide_eq_true_iff]
  exact ⟨fun h => BitVec.eq_of_toNat_eq (by omega), fun h => by rw [h]⟩
theorem mem_find (b : BitVec 64) : ∀ L : List (BitVec 64 × Int), (findE (LV.W b) (memE L) = some none ∧ ∀ q ∈ L, q.1 ≠ b) ∨ ∃ n, findE (LV.W b) (memE L) = some (some (LV.I n)) ∧ (b, n) ∈ L
  | [] => .inl ⟨rfl, by simp⟩
  | q :: L => by
    have e : findE (LV.W b) (memE (q :: L)) = match keyEq (LV.W b) (LV.W q.1) with | some true => some (some (LV.I q.2)) | some false => findE (LV.W b) (memE L) | none => none := rfl
    rw [e, keyW]
    by_cases h : b = q.1
    · rw [decide_eq_true h]
      exact .inr ⟨q.2, rfl, by rw [h]; simp⟩
    · rw [decide_eq_false h]
      rcases mem_find b L with ⟨h1, h2⟩ | ⟨n, h1, h2⟩
      · exact .inl ⟨h1, fun p hp => (List.mem_cons.1 hp).elim (fun e => by rw [e]; exact fun e' => h e'.symm) (h2 p)⟩
      · exact .inr ⟨n, h1, by simp [h2]⟩
theorem mem_put (b : BitVec 64) (n : Int) : ∀ L : List (BitVec 64 × Int), ∃ L', putE (LV.W b) (LV.I n) (memE L) = some (memE L') ∧ (∀ q ∈ L', q = (b, n) ∨ q ∈ L) ∧ ∀ a, (a = b ∨ ∃ q ∈ L, q.1 = a) → ∃ q ∈ L', q.1 = a
  | [] => ⟨[(b, n)], rfl, by simp, by simp [eq_comm]⟩
  | q :: L => by
    have e : putE (LV.W b) (LV.I n) (memE (q :: L)) = match keyEq (LV.W b) (LV.W q.1) with | some true => some ((LV.W b, LV.I n) :: memE L) | some false => (putE (LV.W b) (LV.I n) (memE L)).map ((LV.W q.1, LV.I q.2) :: ·) | none => none := rfl
    rw [e, keyW]
    by_cases h : b = q.1
    · rw [decide_eq_true h]
      refine ⟨(b, n) :: L, rfl, fun p hp => (List.mem_cons.1 hp).elim .inl fun h => .inr (by simp [h]), fun a ha => ?_⟩
      rcases ha with rfl | ⟨p, hp, rfl⟩
      · exact ⟨(a, n), by simp, rfl⟩
      rcases List.mem_cons.1 hp with rfl | hp
      · exact ⟨(b, n), by simp, h⟩
      · exact ⟨p, by simp [hp], rfl⟩
    · rw [decide_eq_false h]
      obtain ⟨L', h1, h2, h3⟩ := mem_put b n L
      rw [h1]
      refine ⟨q :: L', rfl, fun p hp => (List.mem_cons.1 hp).elim (fun e => .inr (by simp [e])) fun h => (h2 p h).elim .inl fun h => .inr (by simp [h]), fun a ha => ?_⟩
      rcases ha with rfl | ⟨p, hp, rfl⟩
      · obtain ⟨r, hr, e⟩ := h3 a (.inl rfl)
        exact ⟨r, by simp [hr], e⟩
      rcases List.mem_cons.1 hp with rfl | hp
      · exact ⟨p, by simp, rfl⟩
      · obtain ⟨r, hr, e⟩ := h3 p.1 (.inr ⟨p, hp, rfl⟩)
        exact ⟨r, by simp [hr], e⟩
theorem look_mem {M : Mem} {t : Nat} {L : List (BitVec 64 × Int)} {b : BitVec 64} (h : Live M t (.map (memE L))) : (lookM 0 (.mp t) (.val (.int .u64 ((b.toNat : Nat) : Int))) M = some none ∧ ∀ q ∈ L, q.1 ≠ b) ∨ ∃ n, lookM 0 (.mp t) (.val (.int .u64 ((b.toNat : Nat) : Int))) M = some (some (LV.I n)) ∧ (b, n) ∈ L := by
  unfold lookM
  simp only [show M[t]? = some (some (.map (memE L))) from h]
  rw [if_pos (by rfl)]
  exact mem_find b L
theorem memK_mem {M : Mem} {t : Nat} {L : List (BitVec 64 × Int)} {b : BitVec 64} {n : Int} {A : Mem → Prop} (h : Live M t (.map (memE L)))
    (hA : ∀ N L', N.length = M.length → Live N t (.map (memE L')) → (∀ q ∈ L', q = (b, n) ∨ q ∈ L) → (∀ a, (a = b ∨ ∃ q ∈ L, q.1 = a) → ∃ q ∈ L', q.1 = a) → (∀ u, u ≠ t → u < M.length → N[u]? = M[u]?) → A N) : memK (putM 0 (.mp t) (.val (.int .u64 ((b.toNat : Nat) : Int))) (.val (.int .i64 n)) M) A := by
  obtain ⟨L', h1, h2, h3⟩ := mem_put b n L
  have : putM 0 (.mp t) (.val (.int .u64 ((b.toNat : Nat) : Int))) (.val (.int .i64 n)) M = some (M.set t (some (.map (memE L')))) := by
    unfold putM
    simp only [show M[t]? = some (some (.map (memE L))) from h]
    rw [if_pos (by rfl), h1]; rfl
  rw [this]
  exact hA _ L' (by simp) h.set_eq h2 h3 fun u hu _ => List.getElem?_set_ne (fun e => hu e.symm)

/-- All blocks but one stay. -/
def But1 (t : Nat) (M N : Mem) : Prop := M.length ≤ N.length ∧ ∀ u, u ≠ t → u < M.length → N[u]? = M[u]?
theorem But1.trans {t : Nat} {M N N' : Mem} (h : But1 t M N) (k : But1 t N N') : But1 t M N' := ⟨Nat.le_trans h.1 k.1, fun u h1 h2 => by rw [k.2 u h1 (Nat.lt_of_lt_of_le h2 h.1)]; exact h.2 u h1 h2⟩
theorem But1.of {t : Nat} {M N : Mem} (h : Pre M N) : But1 t M N := ⟨h.1, fun u _ h2 => h.2 u h2⟩
theorem Live.but {t q : Nat} {M N : Mem} {b : Blk} (h : Live M q b) (k : But1 t M N) (h1 : q ≠ t) : Live N q b := Live.at h (k.2 q h1 h.lt)

section
variable {x y z : Int} (hS : Sides x y z)
include hS
theorem bs_clear {p : Cell → Bool} {c : Cell} (hc : c.inBox x y z) (hp : p c = true) (hl : ∀ d, d.inBox x y z → p d = true → ¬ d.lt c) : bs x y z p &&& (bs x y z p - 1#64) = bs x y z fun d => p d && !decide (d = c) := by
  rw [clear_low, bs_low hS hc hp hl, bs_diff hS]
end

/-- What the map says is true. -/
def MemoT (x y z : Int) (L : List (BitVec 64 × Int)) : Prop := (∃ q ∈ L, q.1 = 0#64) ∧ ∀ q ∈ L, ∀ p : Cell → Bool, q.1 = bs x y z p → q.2 = (tkN x y z (pick x y z p).length p : Nat)

theorem g_CountTakings_1 {x y z : Int} (hS : Sides x y z) {a1 a2 a3 tm : Nat} {hv : LV} (hd : tm ≠ a1 ∧ tm ≠ a2 ∧ tm ≠ a3) : ∀ (n : Nat) {p : Cell → Bool} {M : Mem} {L : List (BitVec 64 × Int)}, (pick x y z p).length = n → n ≤ 8 →
    Live M a1 (.row [.mp tm] true 0) → Live M a2 (.row [.I x, .I y, .I z, hv] true 0) → Live M a3 (.row [.clo F.impl_CountTakings_1 [(a1, 0), (a2, 0), (a3, 0)]] true 0) → Live M tm (.map (memE L)) → MemoT x y z L →
    CallsR PG F.impl_CountTakings_1 [.W (bs x y z p), .ptr a1 0, .ptr a2 0, .ptr a3 0] M fun v N => v = .I (tkN x y z n p : Nat) ∧ But1 tm M N ∧ ∃ L', Live N tm (.map (memE L')) ∧ MemoT x y z L' := by
  intro n
  induction n with
  | zero =>
    intro p M L hp h8 b1 b2 b3 bm hL
    refine callsR_run K.impl_CountTakings_1 rfl ?_
    have hz : bs x y z p = 0#64 := (bs_zero hS).2 fun c hc => by
      cases hpc : p c with
      | false => rfl
      | true => have := (mem_pick hS).2 ⟨hc, hpc⟩; rw [List.eq_nil_of_length_eq_zero hp] at this; cases this
    obtain ⟨k, hk, hmem⟩ : ∃ k, lookM 0 (.mp tm) (.val (.int .u64 (((bs x y z p).toNat : Nat) : Int))) M = some (some (LV.I k)) ∧ (bs x y z p, k) ∈ L := by
      rcases look_mem (b := bs x y z p) bm with ⟨_, h⟩ | h
      · obtain ⟨q, hq, e⟩ := hL.1
        exact absurd (e.trans hz.symm) (h q hq)
      · exact h
    have hkv := hL.2 _ hmem p rfl
    simp only [hp] at hkv
    simp (disch := omega) only [C.impl_CountTakings_1, b1.cell, hk, Option.getD_some, Option.isSome_some, ↓SXd, SXu, slBounds, ↓sop, ↓aop, ↓reduceIte, LV.cells, AOp.dst, LV.I, LV.B, LV.U, LV.S, LV.nil, Nat.reduceEqDiff, Nat.reduceAdd, Nat.reduceMul, Nat.reduceSub, Nat.reduceLeDiff, Nat.reduceBEq, Nat.reduceDiv, Nat.reduceMod, Int.reduceToNat, Int.reduceLT, Int.reduceLE, Int.reduceAdd, Int.reduceSub, Int.reduceMul, Int.reduceEq, Int.reduceNeg, reduceCtorEq, resV, resAll, ARes.ev, LV.flat, ite_true, ite_false, exists_eq_left', exists_eq_left, keyOf, implies_true, fillC, capOf]
    exact ⟨by rw [hkv], But1.of (Pre.refl _), L, bm, hL⟩
  | succ n ih =>
    intro p M L hp h8 b1 b2 b3 bm hL
    refine callsR_run K.impl_CountTakings_1 rfl ?_
    rcases look_mem (b := bs x y z p) bm with ⟨hk, hno⟩ | ⟨k, hk, hmem⟩
    rotate_left
    · have hkv := hL.2 _ hmem p rfl
      simp only [hp] at hkv
      simp (disch := omega) only [C.impl_CountTakings_1, b1.cell, hk, Option.getD_some, Option.isSome_some, ↓SXd, SXu, slBounds, ↓sop, ↓aop, ↓reduceIte, LV.cells, AOp.dst, LV.I, LV.B, LV.U, LV.S, LV.nil, Nat.reduceEqDiff, Nat.reduceAdd, Nat.reduceMul, Nat.reduceSub, Nat.reduceLeDiff, Nat.reduceBEq, Nat.reduceDiv, Nat.reduceMod, Int.reduceToNat, Int.reduceLT, Int.reduceLE, Int.reduceAdd, Int.reduceSub, Int.reduceMul, Int.reduceEq, Int.reduceNeg, reduceCtorEq, resV, resAll, ARes.ev, LV.flat, ite_true, ite_false, exists_eq_left', exists_eq_left, keyOf, implies_true, fillC, capOf]
      exact ⟨by rw [hkv], But1.of (Pre.refl _), L, bm, hL⟩
    have hall : tkN x y z (n + 1) p = ((pick x y z (canTake x y z p)).map fun c => tkN x y z n fun d => p d && !decide (d = c)).sum := rfl
    have hfac : ∀ n, n ≤ 7 → facN n ≤ 5040 := by decide
    have hfc := hfac n (by omega)
    have hcin : ∀ c ∈ pick x y z (canTake x y z p), c.inBox x y z ∧ p c = true := fun c hc => ⟨((mem_pick hS).1 hc).1, canTake_sub ((mem_pick hS).1 hc).2⟩
    have hfb : ∀ c ∈ pick x y z (canTake x y z p), tkN x y z n (fun d => p d && !decide (d = c)) ≤ 5040 := fun c hc => by
      have h1 := pick_less hS (hcin c hc).1 (hcin c hc).2
      have := tkN_le hS (n := n) (p := fun d => p d && !decide (d = c)) (by omega)
      omega
    have hcl : (pick x y z (canTake x y z p)).length ≤ 8 := by
      have := nodup_sub (l := pick x y z (canTake x y z p)) (m := pick x y z p) (pick_ok hS _).nodup fun c hc => (mem_pick hS).2 (hcin c hc)
      omega
    have hso := pick_sorted hS (canTake x y z p)
    rw [hall]
    simp (disch := omega) only [C.impl_CountTakings_1, b1.cell, hk, Option.getD_none, Option.isSome_none, b2.cells, ↓SXd, SXu, slBounds, ↓sop, ↓aop, ↓reduceIte, LV.cells, AOp.dst, LV.I, LV.B, LV.U, LV.S, LV.nil, Nat.reduceEqDiff, Nat.reduceAdd, Nat.reduceMul, Nat.reduceSub, Nat.reduceLeDiff, Nat.reduceBEq, Nat.reduceDiv, Nat.reduceMod, Int.reduceToNat, Int.reduceLT, Int.reduceLE, Int.reduceAdd, Int.reduceSub, Int.reduceMul, Int.reduceEq, Int.reduceNeg, reduceCtorEq, resV, resAll, ARes.ev, LV.flat, ite_true, ite_false, exists_eq_left', exists_eq_left, keyOf, implies_true, fillC, capOf]
    refine callK_of (g_box) ?_
    simp (disch := omega) only [↓SXd, SXu, slBounds, ↓sop, ↓aop, ↓reduceIte, LV.cells, AOp.dst, LV.I, LV.B, LV.U, LV.S, LV.nil, Nat.reduceEqDiff, Nat.reduceAdd, Nat.reduceMul, Nat.reduceSub, Nat.reduceLeDiff, Nat.reduceBEq, Nat.reduceDiv, Nat.reduceMod, Int.reduceToNat, Int.reduceLT, Int.reduceLE, Int.reduceAdd, Int.reduceSub, Int.reduceMul, Int.reduceEq, Int.reduceNeg, reduceCtorEq, resV, resAll, ARes.ev, LV.flat, ite_true, ite_false, exists_eq_left', exists_eq_left, keyOf, implies_true, fillC, capOf]
    refine callK_of (g_takeable hS) ?_
    simp (disch := omega) only [↓SXd, SXu, slBounds, ↓sop, ↓aop, ↓reduceIte, LV.cells, AOp.dst, LV.I, LV.B, LV.U, LV.S, LV.nil, Nat.reduceEqDiff, Nat.reduceAdd, Nat.reduceMul, Nat.reduceSub, Nat.reduceLeDiff, Nat.reduceBEq, Nat.reduceDiv, Nat.reduceMod, Int.reduceToNat, Int.reduceLT, Int.reduceLE, Int.reduceAdd, Int.reduceSub, Int.reduceMul, Int.reduceEq, Int.reduceNeg, reduceCtorEq, resV, resAll, ARes.ev, LV.flat, ite_true, ite_false, exists_eq_left', exists_eq_left, keyOf, implies_true, fillC, capOf]
    have hpre0 : But1 tm M M := But1.of (Pre.refl _)
    refine ev_loop (fun m fr M' => ∃ (done todo : List Cell) (L : List (BitVec 64 × Int)), pick x y z (canTake x y z p) = done ++ todo ∧ todo.length = m ∧ But1 tm M M' ∧ Live M' tm (.map (memE L)) ∧ MemoT x y z L ∧
      fr 0 = .W (bs x y z p) ∧ fr 1 = .ptr a1 0 ∧ fr 2 = .ptr a2 0 ∧ fr 3 = .ptr a3 0 ∧ fr 8 = .I ((done.map fun c => tkN x y z n fun d => p d && !decide (d = c)).sum : Nat) ∧ fr 9 = .W (bs x y z fun d => decide (d ∈ todo))) (pick x y z (canTake x y z p)).length
      ⟨[], pick x y z (canTake x y z p), L, rfl, rfl, hpre0, bm, hL, rfl, rfl, rfl, rfl, rfl, ?_⟩ ?_
    · rw [show (bs x y z fun d => decide (d ∈ pick x y z (canTake x y z p))) = bs x y z (canTake x y z p) from (bs_eq hS).2 fun d hd => by
        rw [Bool.eq_iff_iff, decide_eq_true_iff, mem_pick hS]; exact ⟨fun h => h.2, fun h => ⟨hd, h⟩⟩]
      rfl
    clear hk hno bm hL L hpre0
    rintro m fr M' ⟨done, todo, L, hdt, htm, hbut, bm, hL, f0, f1, f2, f3, f8, f9⟩
    have b1' := b1.but hbut (by omega)
    have b3' := b3.but hbut (by omega)
    have b2' := b2.but hbut (by omega)
    cases todo with
    | nil =>
      have hz : bs x y z (fun d => decide (d ∈ ([] : List Cell))) = 0#64 := (bs_zero hS).2 fun c hc => by simp
      rw [List.append_nil] at hdt
      have hsl : (done.map fun c => tkN x y z n fun d => p d && !decide (d = c)).sum = tkN x y z (n + 1) p := by rw [hall, hdt]
      rw [hsl] at f8
      rw [← hall]
      simp (disch := omega) only [f0, f1, f2, f3, f8, f9, hz, b1'.cell, ↓SXd, SXu, slBounds, ↓sop, ↓aop, ↓reduceIte, LV.cells, AOp.dst, LV.I, LV.B, LV.U, LV.S, LV.nil, Nat.reduceEqDiff, Nat.reduceAdd, Nat.reduceMul, Nat.reduceSub, Nat.reduceLeDiff, Nat.reduceBEq, Nat.reduceDiv, Nat.reduceMod, Int.reduceToNat, Int.reduceLT, Int.reduceLE, Int.reduceAdd, Int.reduceSub, Int.reduceMul, Int.reduceEq, Int.reduceNeg, reduceCtorEq, resV, resAll, ARes.ev, LV.flat, ite_true, ite_false, exists_eq_left', exists_eq_left, keyOf, implies_true, fillC, capOf]
      refine memK_mem bm fun N L' k1 k2 k3 k4 k5 => ?_
      simp (disch := omega) only [f0, f1, f2, f3, f8, f9, ↓SXd, SXu, slBounds, ↓sop, ↓aop, ↓reduceIte, LV.cells, AOp.dst, LV.I, LV.B, LV.U, LV.S, LV.nil, Nat.reduceEqDiff, Nat.reduceAdd, Nat.reduceMul, Nat.reduceSub, Nat.reduceLeDiff, Nat.reduceBEq, Nat.reduceDiv, Nat.reduceMod, Int.reduceToNat, Int.reduceLT, Int.reduceLE, Int.reduceAdd, Int.reduceSub, Int.reduceMul, Int.reduceEq, Int.reduceNeg, reduceCtorEq, resV, resAll, ARes.ev, LV.flat, ite_true, ite_false, exists_eq_left', exists_eq_left, keyOf, implies_true, fillC, capOf]
      refine ⟨rfl, hbut.trans ⟨by omega, fun u h1 h2 => k5 u h1 h2⟩, L', k2, ?_, fun q hq r hr => ?_⟩
      · exact k4 _ (.inr hL.1)
      · rcases k3 q hq with rfl | hq
        · have hpr := (bs_eq hS).1 hr
          rw [show (pick x y z r).length = n + 1 by rw [← pick_congr hS hpr]; exact hp, tkN_congr hS hpr]
        · exact hL.2 q hq r hr
    | cons c rest =>
      have hcm : c ∈ pick x y z (canTake x y z p) := by rw [hdt]; simp
      obtain ⟨hci, hpc⟩ := hcin c hcm
      have hso2 : (c :: rest).Pairwise Cell.lt := by
        rw [hdt] at hso; exact (List.pairwise_append.1 hso).2.1
      obtain ⟨hlt, hso3⟩ := List.pairwise_cons.1 hso2
      have hlow : ∀ d, d.inBox x y z → decide (d ∈ c :: rest) = true → ¬ d.lt c := fun d _ hd hl => by
        rw [decide_eq_true_iff] at hd
        rcases List.mem_cons.1 hd with rfl | hd
        · exact Cell.lt_irrefl _ hl
        · exact Cell.lt_irrefl _ (Cell.lt_trans hl (hlt d hd))
      have hl1 := bs_low hS (p := fun d => decide (d ∈ c :: rest)) hci (by simp) hlow
      have hl2 := bs_clear hS (p := fun d => decide (d ∈ c :: rest)) hci (by simp) hlow
      have hl3 : (bs x y z fun d => decide (d ∈ c :: rest) && !decide (d = c)) = bs x y z fun d => decide (d ∈ rest) := (bs_eq hS).2 fun d _ => by
        rw [Bool.eq_iff_iff]
        simp only [Bool.and_eq_true, decide_eq_true_eq, Bool.not_eq_true', decide_eq_false_iff_not, List.mem_cons]
        exact ⟨fun h => h.1.resolve_left h.2, fun h => ⟨.inr h, fun e => Cell.lt_irrefl _ (by have := hlt d h; rwa [e] at this)⟩⟩
      rw [hl3] at hl2
      have hne : ¬ bs x y z (fun d => decide (d ∈ c :: rest)) = 0#64 := fun e => by
        have := (bs_zero hS).1 e c hci
        simp at this
      have hsb : (done.map fun c => tkN x y z n fun d => p d && !decide (d = c)).sum ≤ 8 * 5040 := by
        refine Nat.le_trans (sum_le (b := 5040) fun d hd => hfb d (by rw [hdt]; simp [hd])) (Nat.mul_le_mul_right _ ?_)
        rw [hdt, List.length_append] at hcl; omega
      have hcb := hfb c hcm
      have hpl := pick_less hS hci hpc
      have hdf := bs_diff hS p fun d => decide (d = c)
      generalize hst : (done.map fun c => tkN x y z n fun d => p d && !decide (d = c)).sum = s0 at f8 hsb
      generalize bs x y z (fun d => decide (d ∈ c :: rest)) = B at *
      simp (disch := omega) only [f0, f1, f2, f3, f8, f9, hne, b3'.cell, hl1, hdf, ↓SXd, SXu, slBounds, ↓sop, ↓aop, ↓reduceIte, LV.cells, AOp.dst, LV.I, LV.B, LV.U, LV.S, LV.nil, Nat.reduceEqDiff, Nat.reduceAdd, Nat.reduceMul, Nat.reduceSub, Nat.reduceLeDiff, Nat.reduceBEq, Nat.reduceDiv, Nat.reduceMod, Int.reduceToNat, Int.reduceLT, Int.reduceLE, Int.reduceAdd, Int.reduceSub, Int.reduceMul, Int.reduceEq, Int.reduceNeg, reduceCtorEq, resV, resAll, ARes.ev, LV.flat, ite_true, ite_false, exists_eq_left', exists_eq_left, keyOf, implies_true, fillC, capOf]
      refine callR_of (ih (by omega) (by omega) b1' b2' b3' bm hL) ?_
      rintro _ N ⟨rfl, hb2, L', bm', hL'⟩
      simp (disch := omega) only [f0, f1, f2, f3, f8, f9, hl2, ↓SXd, SXu, slBounds, ↓sop, ↓aop, ↓reduceIte, LV.cells, AOp.dst, LV.I, LV.B, LV.U, LV.S, LV.nil, Nat.reduceEqDiff, Nat.reduceAdd, Nat.reduceMul, Nat.reduceSub, Nat.reduceLeDiff, Nat.reduceBEq, Nat.reduceDiv, Nat.reduceMod, Int.reduceToNat, Int.reduceLT, Int.reduceLE, Int.reduceAdd, Int.reduceSub, Int.reduceMul, Int.reduceEq, Int.reduceNeg, reduceCtorEq, resV, resAll, ARes.ev, LV.flat, ite_true, ite_false, exists_eq_left', exists_eq_left, keyOf, implies_true, fillC, capOf]
      refine ⟨rest.length, by rw [← htm]; simp, done ++ [c], rest, L', by rw [hdt]; simp, rfl, hbut.trans hb2, bm', hL', f0, f1, f2, f3, ?_, rfl⟩
      rw [List.map_append, List.sum_append, hst]
      exact eqI (by simp)

theorem g_CountTakings {x y z : Int} {t : Nat} {w : Bool} {cs : List Cell} {M : Mem} (h : Live M t (.row (triL cs) w 3)) (hn : cs.length ≤ 1000000000) :
    CallsTo PG F.impl_CountTakings [.agg [.I x, .I y, .I z, .ref t 0 cs.length]] M (.tup [.I (tksN x y z cs : Nat), .B (tksB x y z cs)]) M := by
  refine calls_run K.impl_CountTakings rfl ?_
  simp (disch := omega) only [C.impl_CountTakings, ↓SXd, SXu, slBounds, ↓sop, ↓aop, ↓reduceIte, LV.cells, AOp.dst, LV.I, LV.B, LV.U, LV.S, LV.nil, Nat.reduceEqDiff, Nat.reduceAdd, Nat.reduceMul, Nat.reduceSub, Nat.reduceLeDiff, Nat.reduceBEq, Nat.reduceDiv, Nat.reduceMod, Int.reduceToNat, Int.reduceLT, Int.reduceLE, Int.reduceAdd, Int.reduceSub, Int.reduceMul, Int.reduceEq, Int.reduceNeg, reduceCtorEq, resV, resAll, ARes.ev, LV.flat, ite_true, ite_false, exists_eq_left', exists_eq_left, keyOf, implies_true, fillC, capOf]
  refine callK_of (g_isStanding (Has.app h.has) hn) ?_
  simp (disch := omega) only [↓SXd, SXu, slBounds, ↓sop, ↓aop, ↓reduceIte, LV.cells, AOp.dst, LV.I, LV.B, LV.U, LV.S, LV.nil, Nat.reduceEqDiff, Nat.reduceAdd, Nat.reduceMul, Nat.reduceSub, Nat.reduceLeDiff, Nat.reduceBEq, Nat.reduceDiv, Nat.reduceMod, Int.reduceToNat, Int.reduceLT, Int.reduceLE, Int.reduceAdd, Int.reduceSub, Int.reduceMul, Int.reduceEq, Int.reduceNeg, reduceCtorEq, resV, resAll, ARes.ev, LV.flat, ite_true, ite_false, exists_eq_left', exists_eq_left, keyOf, implies_true, fillC, capOf]
  unfold tksN tksB
  by_cases hV : HeapOK x y z cs ∧ Firm x y z (fun c => decide (c ∈ cs))
  rotate_left
  · rw [std_no hV, Bool.false_and, if_neg (by simp)]
    simp (disch := omega) only [hV, ↓SXd, SXu, slBounds, ↓sop, ↓aop, ↓reduceIte, LV.cells, AOp.dst, LV.I, LV.B, LV.U, LV.S, LV.nil, Nat.reduceEqDiff, Nat.reduceAdd, Nat.reduceMul, Nat.reduceSub, Nat.reduceLeDiff, Nat.reduceBEq, Nat.reduceDiv, Nat.reduceMod, Int.reduceToNat, Int.reduceLT, Int.reduceLE, Int.reduceAdd, Int.reduceSub, Int.reduceMul, Int.reduceEq, Int.reduceNeg, reduceCtorEq, resV, resAll, ARes.ev, LV.flat, ite_true, ite_false, exists_eq_left', exists_eq_left, keyOf, implies_true, fillC, capOf]
    exact cmp_drop rfl
  rw [std_yes hV, Bool.true_and]
  have hS := hV.1.1
  by_cases h8 : cs.length ≤ 8
  rotate_left
  · have h8' : (8 : Int) < (cs.length : Nat) := by omega
    rw [decide_eq_false h8, if_neg (by simp)]
    simp (disch := omega) only [hV, h8', ↓SXd, SXu, slBounds, ↓sop, ↓aop, ↓reduceIte, LV.cells, AOp.dst, LV.I, LV.B, LV.U, LV.S, LV.nil, Nat.reduceEqDiff, Nat.reduceAdd, Nat.reduceMul, Nat.reduceSub, Nat.reduceLeDiff, Nat.reduceBEq, Nat.reduceDiv, Nat.reduceMod, Int.reduceToNat, Int.reduceLT, Int.reduceLE, Int.reduceAdd, Int.reduceSub, Int.reduceMul, Int.reduceEq, Int.reduceNeg, reduceCtorEq, resV, resAll, ARes.ev, LV.flat, ite_true, ite_false, exists_eq_left', exists_eq_left, keyOf, implies_true, fillC, capOf]
    exact cmp_drop rfl
  have h8' : ¬ ((8 : Int) < (cs.length : Nat)) := by omega
  rw [decide_eq_true h8, if_pos rfl]
  simp (disch := omega) only [hV, h8', ↓SXd, SXu, slBounds, ↓sop, ↓aop, ↓reduceIte, LV.cells, AOp.dst, LV.I, LV.B, LV.U, LV.S, LV.nil, Nat.reduceEqDiff, Nat.reduceAdd, Nat.reduceMul, Nat.reduceSub, Nat.reduceLeDiff, Nat.reduceBEq, Nat.reduceDiv, Nat.reduceMod, Int.reduceToNat, Int.reduceLT, Int.reduceLE, Int.reduceAdd, Int.reduceSub, Int.reduceMul, Int.reduceEq, Int.reduceNeg, reduceCtorEq, resV, resAll, ARes.ev, LV.flat, ite_true, ite_false, exists_eq_left', exists_eq_left, keyOf, implies_true, fillC, capOf]
  refine memK_mem (b := 0#64) (L := []) (n := 1) (Live.newj (j := 1) rfl) fun N L k1 k2 k3 k4 k5 => ?_
  have hN : N.length = M.length + 2 := by rw [k1]; simp
  have hL : ∀ q ∈ L, q = (0#64, 1) := fun q hq => (k3 q hq).resolve_right (by simp)
  have b1 : Live N M.length (.row [.I x, .I y, .I z, .ref t 0 cs.length] true 0) := live_step Live.new (by omega) k5
  have hpN : ∀ u, u < M.length → N[u]? = M[u]? := fun u hu => by
    rw [k5 u (by omega) (by simp; omega), List.getElem?_append_left hu]
  have hL0 : ∃ q ∈ L, q.1 = 0#64 := k4 _ (.inl rfl)
  have hMT : MemoT x y z L := ⟨hL0, fun q hq p hp => by
    rw [hL q hq] at hp ⊢
    have hz := (bs_zero hS).1 hp.symm
    have : pick x y z p = [] := by
      unfold pick; rw [List.filter_eq_nil_iff]
      intro c hc; rw [hz c ((mem_cellsOf hS).1 hc)]; simp
    rw [this]; rfl⟩
  have ht := h.lt
  have hN0 : Live N t (.row (triL cs) w 3) := Live.at h (hpN t ht)
  simp (disch := omega) only [b1.app.cells, ↓SXd, SXu, slBounds, ↓sop, ↓aop, ↓reduceIte, LV.cells, AOp.dst, LV.I, LV.B, LV.U, LV.S, LV.nil, Nat.reduceEqDiff, Nat.reduceAdd, Nat.reduceMul, Nat.reduceSub, Nat.reduceLeDiff, Nat.reduceBEq, Nat.reduceDiv, Nat.reduceMod, Int.reduceToNat, Int.reduceLT, Int.reduceLE, Int.reduceAdd, Int.reduceSub, Int.reduceMul, Int.reduceEq, Int.reduceNeg, reduceCtorEq, resV, resAll, ARes.ev, LV.flat, ite_true, ite_false, exists_eq_left', exists_eq_left, keyOf, implies_true, fillC, capOf]
  refine callK_of (g_cubes (Has.app hN0.has) hn hS (fun c hc => hV.1.mem hc)) ?_
  simp (disch := omega) only [↓SXd, SXu, slBounds, ↓sop, ↓aop, ↓reduceIte, LV.cells, AOp.dst, LV.I, LV.B, LV.U, LV.S, LV.nil, Nat.reduceEqDiff, Nat.reduceAdd, Nat.reduceMul, Nat.reduceSub, Nat.reduceLeDiff, Nat.reduceBEq, Nat.reduceDiv, Nat.reduceMod, Int.reduceToNat, Int.reduceLT, Int.reduceLE, Int.reduceAdd, Int.reduceSub, Int.reduceMul, Int.reduceEq, Int.reduceNeg, reduceCtorEq, resV, resAll, ARes.ev, LV.flat, ite_true, ite_false, exists_eq_left', exists_eq_left, keyOf, implies_true, fillC, capOf]
  refine callR_of (g_CountTakings_1 hS (a1 := N.length) (a2 := M.length) (a3 := N.length + 1) (tm := M.length + 1) (by omega) cs.length (by rw [← hV.1.pick]) h8 Live.new b1.app (Live.newj (j := 1) rfl) (Live.app k2) hMT) ?_
  rintro _ W ⟨rfl, hb, _⟩
  simp (disch := omega) only [↓SXd, SXu, slBounds, ↓sop, ↓aop, ↓reduceIte, LV.cells, AOp.dst, LV.I, LV.B, LV.U, LV.S, LV.nil, Nat.reduceEqDiff, Nat.reduceAdd, Nat.reduceMul, Nat.reduceSub, Nat.reduceLeDiff, Nat.reduceBEq, Nat.reduceDiv, Nat.reduceMod, Int.reduceToNat, Int.reduceLT, Int.reduceLE, Int.reduceAdd, Int.reduceSub, Int.reduceMul, Int.reduceEq, Int.reduceNeg, reduceCtorEq, resV, resAll, ARes.ev, LV.flat, ite_true, ite_false, exists_eq_left', exists_eq_left, keyOf, implies_true, fillC, capOf]
  refine cmp_pre ⟨?_, fun u hu => ?_⟩ rfl
  · have := hb.1; simp at this; omega
  · rw [hb.2 u (by omega) (by simp; omega), List.getElem?_append_left (by omega)]
    exact hpN u hu
end Go.Ab

/- The abstract code of some functions (written by a program of mine from the translation, by way of prepF). -/
namespace Go.Ab.C
open Go.Ab
def spec_DrawIsTakingOrder : AFn :=
 ⟨1, 105, [.cellN 2 4, .tmp 3],
 .seq (.ops [(none, .alloc 2 [(.I 0), (.I 0), (.I 0), .nil]),
 (none, .mv 3 (.c .nil))])
 (.seq (.ops [(none, .mv 12 (.t 0)),
 (none, .build 13 [.nil, (.I 0), (.U 0)] [(0, 1, (.t 12))]),
 (none, .box 14 (.t 13)),
 (none, .mv 4 (.t 14))])
 (.seq (.ops [(none, .mv 15 (.t 4)),
 (none, .call (some 16) F.spec_l1Cur_standing7 [(.t 15)]),
 (none, .alloc 5 [(.I 0), (.I 0), (.I 0), .nil]),
 (none, .store 4 (.t 5) (.t 16))])
 (.seq (.draw [⟨(none, .loadN 18 4 (.t 5)), [], []⟩,
 ⟨(none, .buildSl 17 0 3 [] []), [], []⟩,
 ⟨(none, .alloc 7 [(.I 0), (.I 0), (.I 0), .nil]), [], []⟩,
 ⟨(none, .mv 6 (.t 17)), [], []⟩,
 ⟨(none, .store 4 (.t 7) (.t 18)), [], []⟩])
 (.seq (.block 0 (.loop (.seq (.seq (.ops [(none, .loadN 19 4 (.t 5)),
 (none, .call (some 20) F.spec_l7Stands [(.t 19)]),
 (none, .mv 21 (.t 20)),
 (some (21, true), .fieldAddr 22 (.t 7) 3),
 (some (21, true), .load1 23 (.t 22)),
 (some (21, true), .len 24 (.t 23)),
 (some (21, true), .bin 25 .gtr (.t 24) (.c (.I 0))),
 (none, .pick 26 (.t 21) (.t 25) (.c (.B false)))])
 (.cond (.t 26) (.skip)
 (.exit 0)))
 (.block 1 (.seq (.ops [(none, .mv 27 (.t 4)),
 (none, .fieldAddr 28 (.t 7) 3),
 (none, .load1 29 (.t 28)),
 (none, .len 30 (.t 29)),
 (none, .call (some 31) F.spec_l1Cur_pick [(.t 27), (.t 30)]),
 (none, .mv 8 (.t 31))])
 (.seq (.seq (.ops [(none, .mv 9 (.c (.I 0)))])
 (.block 2 (.loop (.seq (.seq (.draw [⟨(none, .mv 32 (.t 9)), [], []⟩,
 ⟨(none, .fieldAddr 33 (.t 7) 3), [], []⟩,
 ⟨(none, .load1 34 (.t 33)), [], []⟩,
 ⟨(none, .len 35 (.t 34)), [], []⟩,
 ⟨(none, .bin 36 .lss (.t 32) (.t 35)), [], []⟩,
 ⟨(none, .mv 37 (.t 36)), [], []⟩,
 ⟨(some (37, true), .loadN 38 4 (.t 7)), [], []⟩,
 ⟨(some (37, true), .fieldAddr 39 (.t 7) 3), [], []⟩,
 ⟨(some (37, true), .load1 40 (.t 39)), [], []⟩,
 ⟨(some (37, true), .mv 41 (.t 8)), [], []⟩,
 ⟨(some (37, true), .idxS 42 3 (.t 40) (.t 41)), [], []⟩,
 ⟨(some (37, true), .loadN 43 3 (.t 42)), [], []⟩,
 ⟨(some (37, true), .call (some 44) F.spec_l7Can [(.t 38), (.t 43)]), [], []⟩,
 ⟨(some (37, true), .un 45 .not (.t 44)), [], []⟩,
 ⟨(none, .pick 46 (.t 37) (.t 45) (.c (.B false))), [], []⟩])
 (.cond (.t 46) (.skip)
 (.exit 2)))
 (.seq (.block 3 (.ops [(none, .mv 49 (.t 8)),
 (none, .bin 50 .add (.t 49) (.c (.I 1))),
 (none, .fieldAddr 51 (.t 7) 3),
 (none, .load1 52 (.t 51)),
 (none, .len 53 (.t 52)),
 (none, .bin 54 .rem (.t 50) (.t 53)),
 (none, .mv 8 (.t 54))]))
 (.ops [(none, .mv 47 (.t 9)),
 (none, .bin 48 .add (.t 47) (.c (.I 1))),
 (none, .mv 9 (.t 48))]))))))
 (.seq (.ops [(none, .mv 55 (.t 6)),
 (none, .fieldAddr 56 (.t 7) 3),
 (none, .load1 57 (.t 56)),
 (none, .mv 58 (.t 8)),
 (none, .idxS 59 3 (.t 57) (.t 58)),
 (none, .loadN 60 3 (.t 59)),
 (none, .buildSl 61 1 3 [(.I 0), (.I 0), (.I 0)] [(0, 3, (.t 60))]),
 (none, .append 62 3 24 (.t 55) (.t 61)),
 (none, .mv 6 (.t 62))])
 (.draw [⟨(none, .loadN 63 4 (.t 7)), [], []⟩,
 ⟨(none, .fieldAddr 64 (.t 7) 3), [], []⟩,
 ⟨(none, .load1 65 (.t 64)), [], []⟩,
 ⟨(none, .mv 66 (.t 8)), [], []⟩,
 ⟨(none, .idxS 67 3 (.t 65) (.t 66)), [], []⟩,
 ⟨(none, .loadN 68 3 (.t 67)), [], []⟩,
 ⟨(none, .call (some 69) F.spec_l2Without [(.t 63), (.t 68)]), [], []⟩,
 ⟨(none, .store 4 (.t 7) (.t 69)), [], []⟩]))))))))
 (.seq (.seq (.ops [(none, .mv 70 (.t 4)),
 (none, .call (some 71) F.spec_l1Cur_pick [(.t 70), (.c (.I 12))])])
 (.block 4 (.seq (.ops [(none, .bin 73 .eql (.t 71) (.c (.I 0))),
 (none, .mv 72 (.t 73))])
 (.cond (.t 72) (.ops [(none, .mv 74 (.t 6)),
 (none, .mv 75 (.t 4)),
 (none, .loadN 76 4 (.t 5)),
 (none, .call (some 77) F.spec_l1Cur_cell [(.t 75), (.t 76)]),
 (none, .buildSl 78 1 3 [(.I 0), (.I 0), (.I 0)] [(0, 3, (.t 77))]),
 (none, .append 79 3 24 (.t 74) (.t 78)),
 (none, .mv 6 (.t 79))])
 (.seq (.ops [(none, .bin 81 .eql (.t 71) (.c (.I 1))),
 (none, .mv 80 (.t 81))])
 (.cond (.t 80) (.seq (.ops [(none, .mv 82 (.t 6)),
 (none, .len 83 (.t 82)),
 (none, .bin 84 .gtr (.t 83) (.c (.I 1)))])
 (.cond (.t 84) (.seq (.draw [⟨(none, .mv 85 (.t 6)), [], []⟩,
 ⟨(none, .idxS 86 3 (.t 85) (.c (.I 0))), [], []⟩,
 ⟨(none, .loadN 87 3 (.t 86)), [], []⟩,
 ⟨(none, .mv 88 (.t 6)), [], []⟩,
 ⟨(none, .mv 89 (.t 6)), [], []⟩,
 ⟨(none, .len 90 (.t 89)), [], []⟩,
 ⟨(none, .bin 91 .sub (.t 90) (.c (.I 1))), [], []⟩,
 ⟨(none, .idxS 92 3 (.t 88) (.t 91)), [], []⟩,
 ⟨(none, .loadN 93 3 (.t 92)), [], []⟩,
 ⟨(none, .alloc 10 [(.I 0), (.I 0), (.I 0)]), [], []⟩,
 ⟨(none, .alloc 11 [(.I 0), (.I 0), (.I 0)]), [], []⟩,
 ⟨(none, .store 3 (.t 10) (.t 87)), [], [3, 4, 5, 6, 7, 8]⟩,
 ⟨(none, .store 3 (.t 11) (.t 93)), [], []⟩])
 (.seq (.ops [(none, .mv 94 (.t 6)),
 (none, .loadN 95 3 (.t 11)),
 (none, .idxS 96 3 (.t 94) (.c (.I 0))),
 (none, .store 3 (.t 96) (.t 95))])
 (.ops [(none, .mv 97 (.t 6)),
 (none, .mv 98 (.t 6)),
 (none, .len 99 (.t 98)),
 (none, .bin 100 .sub (.t 99) (.c (.I 1))),
 (none, .loadN 101 3 (.t 10)),
 (none, .idxS 102 3 (.t 97) (.t 100)),
 (none, .store 3 (.t 102) (.t 101))])))
 (.skip)))
 (.skip)))))))
 (.seq (.ops [(none, .loadN 103 4 (.t 5)),
 (none, .mv 104 (.t 6)),
 (none, .store 4 (.t 2) (.t 103)),
 (none, .mv 3 (.t 104))])
 (.ret)))))))⟩
end Go.Ab.C

/- That the program has this code. -/
namespace Go.Ab.K
open Go Go.Ab
theorem spec_DrawIsTakingOrder : prepF Go.Proofs.Try.prog F.spec_DrawIsTakingOrder = some C.spec_DrawIsTakingOrder := by kernel_rfl
end Go.Ab.K

/- The abstract code of some functions (written by a program of mine from the translation, by way of prepF). -/
namespace Go.Ab.C
open Go.Ab
def spec_DrawKeyCubes : AFn :=
 ⟨1, 9, [.cellN 2 4],
 .seq (.ops [(none, .alloc 2 [(.I 0), (.I 0), (.I 0), .nil])])
 (.seq (.ops [(none, .mv 4 (.t 0)),
 (none, .build 5 [.nil, (.I 0), (.U 0)] [(0, 1, (.t 4))]),
 (none, .box 6 (.t 5)),
 (none, .mv 3 (.t 6))])
 (.seq (.ops [(none, .mv 7 (.t 3)),
 (none, .call (some 8) F.spec_l1Cur_standing7 [(.t 7)]),
 (none, .store 4 (.t 2) (.t 8))])
 (.ret)))⟩
def spec_DrawCanTake : AFn :=
 ⟨1, 15, [.cellN 2 4, .cellN 3 3],
 .seq (.ops [(none, .alloc 2 [(.I 0), (.I 0), (.I 0), .nil]),
 (none, .alloc 3 [(.I 0), (.I 0), (.I 0)])])
 (.seq (.ops [(none, .mv 6 (.t 0)),
 (none, .build 7 [.nil, (.I 0), (.U 0)] [(0, 1, (.t 6))]),
 (none, .box 8 (.t 7)),
 (none, .mv 4 (.t 8))])
 (.seq (.ops [(none, .mv 9 (.t 4)),
 (none, .call (some 10) F.spec_l1Cur_standing7 [(.t 9)]),
 (none, .alloc 5 [(.I 0), (.I 0), (.I 0), .nil]),
 (none, .store 4 (.t 5) (.t 10))])
 (.seq (.draw [⟨(none, .loadN 11 4 (.t 5)), [], []⟩,
 ⟨(none, .mv 12 (.t 4)), [], []⟩,
 ⟨(none, .loadN 13 4 (.t 5)), [], []⟩,
 ⟨(none, .call (some 14) F.spec_l1Cur_cube [(.t 12), (.t 13)]), [], [0]⟩,
 ⟨(none, .store 4 (.t 2) (.t 11)), [], []⟩,
 ⟨(none, .store 3 (.t 3) (.t 14)), [], []⟩])
 (.ret))))⟩
def spec_DrawCountTakings : AFn :=
 ⟨1, 42, [.cellN 2 4],
 .seq (.ops [(none, .alloc 2 [(.I 0), (.I 0), (.I 0), .nil])])
 (.seq (.ops [(none, .mv 6 (.t 0)),
 (none, .build 7 [.nil, (.I 0), (.U 0)] [(0, 1, (.t 6))]),
 (none, .box 8 (.t 7)),
 (none, .mv 3 (.t 8))])
 (.seq (.ops [(none, .mv 9 (.t 3)),
 (none, .call (some 10) F.spec_l1Cur_standing7 [(.t 9)]),
 (none, .alloc 4 [(.I 0), (.I 0), (.I 0), .nil]),
 (none, .store 4 (.t 4) (.t 10))])
 (.seq (.block 0 (.loop (.seq (.seq (.ops [(none, .loadN 11 4 (.t 4)),
 (none, .call (some 12) F.spec_l7Stands [(.t 11)]),
 (none, .mv 13 (.t 12)),
 (some (13, true), .fieldAddr 14 (.t 4) 3),
 (some (13, true), .load1 15 (.t 14)),
 (some (13, true), .len 16 (.t 15)),
 (some (13, true), .bin 17 .gtr (.t 16) (.c (.I 6))),
 (none, .pick 18 (.t 13) (.t 17) (.c (.B false))),
 (none, .mv 19 (.t 18)),
 (some (19, true), .mv 20 (.t 3)),
 (some (19, true), .call (some 21) F.spec_l1Cur_one [(.t 20), (.c (.I 16))]),
 (some (19, true), .un 22 .not (.t 21)),
 (none, .pick 23 (.t 19) (.t 22) (.c (.B false)))])
 (.cond (.t 23) (.skip)
 (.exit 0)))
 (.block 1 (.seq (.ops [(none, .mv 5 (.c (.I 0)))])
 (.seq (.block 2 (.loop (.seq (.seq (.draw [⟨(none, .loadN 24 4 (.t 4)), [], []⟩,
 ⟨(none, .fieldAddr 25 (.t 4) 3), [], []⟩,
 ⟨(none, .load1 26 (.t 25)), [], []⟩,
 ⟨(none, .mv 27 (.t 5)), [], []⟩,
 ⟨(none, .idxS 28 3 (.t 26) (.t 27)), [], []⟩,
 ⟨(none, .loadN 29 3 (.t 28)), [], []⟩,
 ⟨(none, .call (some 30) F.spec_l7Can [(.t 24), (.t 29)]), [], []⟩,
 ⟨(none, .un 31 .not (.t 30)), [], []⟩])
 (.cond (.t 31) (.skip)
 (.exit 2)))
 (.block 3 (.ops [(none, .mv 32 (.t 5)),
 (none, .bin 33 .add (.t 32) (.c (.I 1))),
 (none, .mv 5 (.t 33))])))))
 (.draw [⟨(none, .loadN 34 4 (.t 4)), [], []⟩,
 ⟨(none, .fieldAddr 35 (.t 4) 3), [], []⟩,
 ⟨(none, .load1 36 (.t 35)), [], []⟩,
 ⟨(none, .mv 37 (.t 5)), [], []⟩,
 ⟨(none, .idxS 38 3 (.t 36) (.t 37)), [], []⟩,
 ⟨(none, .loadN 39 3 (.t 38)), [], []⟩,
 ⟨(none, .call (some 40) F.spec_l2Without [(.t 34), (.t 39)]), [], []⟩,
 ⟨(none, .store 4 (.t 4) (.t 40)), [], []⟩])))))))
 (.seq (.ops [(none, .loadN 41 4 (.t 4)),
 (none, .store 4 (.t 2) (.t 41))])
 (.ret)))))⟩
def spec_l1Cur_standing7 : AFn :=
 ⟨1, 20, [.cellN 2 4],
 .seq (.ops [(none, .alloc 2 [(.I 0), (.I 0), (.I 0), .nil])])
 (.seq (.ops [(none, .mv 4 (.t 0)),
 (none, .call (some 5) F.spec_l1Cur_heap [(.t 4)]),
 (none, .alloc 3 [(.I 0), (.I 0), (.I 0), .nil]),
 (none, .store 4 (.t 3) (.t 5))])
 (.seq (.seq (.ops [(none, .loadN 6 4 (.t 3)),
 (none, .call (some 7) F.spec_l2Heap [(.t 6)]),
 (none, .mv 8 (.t 7)),
 (some (8, true), .mv 9 (.t 0)),
 (some (8, true), .call (some 10) F.spec_l1Cur_one [(.t 9), (.c (.I 12))]),
 (some (8, true), .un 11 .not (.t 10)),
 (none, .pick 12 (.t 8) (.t 11) (.c (.B false)))])
 (.cond (.t 12) (.ops [(none, .loadN 14 4 (.t 3)),
 (none, .call (some 15) F.spec_SinkHeap [(.t 14)]),
 (none, .mv 13 (.t 15)),
 (none, .extract 16 (.t 13) 0),
 (none, .extract 17 (.t 13) 1),
 (none, .extract 18 (.t 13) 2),
 (none, .store 4 (.t 3) (.t 16))])
 (.skip)))
 (.seq (.ops [(none, .loadN 19 4 (.t 3)),
 (none, .store 4 (.t 2) (.t 19))])
 (.ret))))⟩
def spec_l1Cur_cube : AFn :=
 ⟨2, 26, [.cellN 4 3],
 .seq (.ops [(none, .box 3 (.t 1)),
 (none, .alloc 4 [(.I 0), (.I 0), (.I 0)])])
 (.seq (.seq (.ops [(none, .fieldAddr 6 (.t 3) 3),
 (none, .load1 7 (.t 6)),
 (none, .len 8 (.t 7)),
 (none, .mv 5 (.t 8))])
 (.seq (.ops [(none, .mv 9 (.t 5)),
 (none, .bin 10 .gtr (.t 9) (.c (.I 0))),
 (none, .mv 11 (.t 10)),
 (some (11, true), .mv 12 (.t 0)),
 (some (11, true), .call (some 13) F.spec_l1Cur_one [(.t 12), (.c (.I 8))]),
 (some (11, true), .un 14 .not (.t 13)),
 (none, .pick 15 (.t 11) (.t 14) (.c (.B false)))])
 (.cond (.t 15) (.seq (.draw [⟨(none, .fieldAddr 16 (.t 3) 3), [], []⟩,
 ⟨(none, .load1 17 (.t 16)), [], []⟩,
 ⟨(none, .mv 18 (.t 0)), [], []⟩,
 ⟨(none, .mv 19 (.t 5)), [], []⟩,
 ⟨(none, .call (some 20) F.spec_l1Cur_pick [(.t 18), (.t 19)]), [], [0, 1]⟩,
 ⟨(none, .idxS 21 3 (.t 17) (.t 20)), [], []⟩,
 ⟨(none, .loadN 22 3 (.t 21)), [], []⟩,
 ⟨(none, .store 3 (.t 4) (.t 22)), [], []⟩])
 (.ret))
 (.skip))))
 (.seq (.ops [(none, .mv 23 (.t 0)),
 (none, .loadN 24 4 (.t 3)),
 (none, .call (some 25) F.spec_l1Cur_cell [(.t 23), (.t 24)]),
 (none, .store 3 (.t 4) (.t 25))])
 (.ret)))⟩
end Go.Ab.C

/- That the program has this code. -/
namespace Go.Ab.K
open Go Go.Ab
theorem spec_DrawKeyCubes : prepF Go.Proofs.Try.prog F.spec_DrawKeyCubes = some C.spec_DrawKeyCubes := by kernel_rfl
theorem spec_DrawCanTake : prepF Go.Proofs.Try.prog F.spec_DrawCanTake = some C.spec_DrawCanTake := by kernel_rfl
theorem spec_DrawCountTakings : prepF Go.Proofs.Try.prog F.spec_DrawCountTakings = some C.spec_DrawCountTakings := by kernel_rfl
theorem spec_l1Cur_standing7 : prepF Go.Proofs.Try.prog F.spec_l1Cur_standing7 = some C.spec_l1Cur_standing7 := by kernel_rfl
theorem spec_l1Cur_cube : prepF Go.Proofs.Try.prog F.spec_l1Cur_cube = some C.spec_l1Cur_cube := by kernel_rfl
end Go.Ab.K

/- The abstract code of some functions (written by a program of mine from the translation, by way of prepF). -/
namespace Go.Ab.C
open Go.Ab
def spec_SinkHeap : AFn :=
 ⟨1, 53, [.cellN 2 4, .tmp 3, .tmp 4],
 .seq (.ops [(none, .box 1 (.t 0)),
 (none, .alloc 2 [(.I 0), (.I 0), (.I 0), .nil]),
 (none, .mv 3 (.c (.I 0))),
 (none, .mv 4 (.c (.B false)))])
 (.seq (.seq (.ops [(none, .loadN 9 4 (.t 1)),
 (none, .call (some 10) F.spec_l2Heap [(.t 9)]),
 (none, .un 11 .not (.t 10))])
 (.cond (.t 11) (.seq (.ops [(none, .build 12 [(.I 0), (.I 0), (.I 0), .nil] []),
 (none, .store 4 (.t 2) (.t 12)),
 (none, .mv 3 (.c (.I 0))),
 (none, .mv 4 (.c (.B false)))])
 (.ret))
 (.skip)))
 (.seq (.ops [(none, .loadN 13 4 (.t 1)),
 (none, .call (some 14) F.spec_l2Own [(.t 13)]),
 (none, .alloc 5 [(.I 0), (.I 0), (.I 0), .nil]),
 (none, .store 4 (.t 5) (.t 14)),
 (none, .mv 6 (.c (.I 0)))])
 (.block 0 (.loop (.block 1 (.seq (.ops [(none, .loadN 15 4 (.t 5)),
 (none, .call (some 16) F.spec_l7Parted [(.t 15), (.c (.B true))]),
 (none, .mv 7 (.t 16))])
 (.seq (.seq (.ops [(none, .mv 17 (.t 7)),
 (none, .len 18 (.t 17)),
 (none, .bin 19 .eql (.t 18) (.c (.I 0)))])
 (.cond (.t 19) (.seq (.ops [(none, .loadN 20 4 (.t 5)),
 (none, .mv 21 (.t 6)),
 (none, .store 4 (.t 2) (.t 20)),
 (none, .mv 3 (.t 21)),
 (none, .mv 4 (.c (.B true)))])
 (.ret))
 (.skip)))
 (.seq (.draw [⟨(none, .loadN 22 4 (.t 5)), [], []⟩,
 ⟨(none, .loadN 23 4 (.t 5)), [], []⟩,
 ⟨(none, .call (some 24) F.spec_l7Parted [(.t 23), (.c (.B false))]), [], [0]⟩,
 ⟨(none, .call (some 25) F.spec_l2Made [(.t 22), (.t 24)]), [], []⟩,
 ⟨(none, .store 4 (.t 5) (.t 25)), [], []⟩])
 (.seq (.seq (.ops [(none, .mv 8 (.c (.I 0)))])
 (.block 2 (.loop (.seq (.seq (.ops [(none, .mv 26 (.t 8)),
 (none, .mv 27 (.t 7)),
 (none, .len 28 (.t 27)),
 (none, .bin 29 .lss (.t 26) (.t 28))])
 (.cond (.t 29) (.skip)
 (.exit 2)))
 (.seq (.block 3 (.draw [⟨(none, .loadN 32 4 (.t 5)), [], []⟩,
 ⟨(none, .mv 33 (.t 7)), [], []⟩,
 ⟨(none, .mv 34 (.t 8)), [], []⟩,
 ⟨(none, .idxS 35 3 (.t 33) (.t 34)), [], []⟩,
 ⟨(none, .idxA 36 3 1 (.t 35) (.c (.I 0))), [], []⟩,
 ⟨(none, .load1 37 (.t 36)), [], []⟩,
 ⟨(none, .mv 38 (.t 7)), [], []⟩,
 ⟨(none, .mv 39 (.t 8)), [], []⟩,
 ⟨(none, .idxS 40 3 (.t 38) (.t 39)), [], []⟩,
 ⟨(none, .idxA 41 3 1 (.t 40) (.c (.I 1))), [], []⟩,
 ⟨(none, .load1 42 (.t 41)), [], []⟩,
 ⟨(none, .mv 43 (.t 7)), [], []⟩,
 ⟨(none, .mv 44 (.t 8)), [], []⟩,
 ⟨(none, .idxS 45 3 (.t 43) (.t 44)), [], []⟩,
 ⟨(none, .idxA 46 3 1 (.t 45) (.c (.I 2))), [], []⟩,
 ⟨(none, .load1 47 (.t 46)), [], []⟩,
 ⟨(none, .bin 48 .sub (.t 47) (.c (.I 1))), [], []⟩,
 ⟨(none, .build 49 [(.I 0), (.I 0), (.I 0)] [(0, 1, (.t 37)), (1, 1, (.t 42)), (2, 1, (.t 48))]), [], []⟩,
 ⟨(none, .call (some 50) F.spec_l2With [(.t 32), (.t 49)]), [], []⟩,
 ⟨(none, .store 4 (.t 5) (.t 50)), [], []⟩]))
 (.ops [(none, .mv 30 (.t 8)),
 (none, .bin 31 .add (.t 30) (.c (.I 1))),
 (none, .mv 8 (.t 31))]))))))
 (.ops [(none, .mv 51 (.t 6)),
 (none, .bin 52 .add (.t 51) (.c (.I 1))),
 (none, .mv 6 (.t 52))]))))))))))⟩
end Go.Ab.C

/- That the program has this code. -/
namespace Go.Ab.K
open Go Go.Ab
theorem spec_SinkHeap : prepF Go.Proofs.Try.prog F.spec_SinkHeap = some C.spec_SinkHeap := by kernel_rfl
end Go.Ab.K

/- Plain words: sinking. -/
namespace Go.Ab

def up (c : Cell) : Cell := ⟨c.a, c.b, c.c + 1⟩
def down (c : Cell) : Cell := ⟨c.a, c.b, c.c - 1⟩
theorem up_down (c : Cell) : up (down c) = c := by unfold up down; rw [cell_eq]; simp
theorem down_up (c : Cell) : down (up c) = c := by unfold up down; rw [cell_eq]; simp
noncomputable def hang (x y z : Int) (p : Cell → Bool) : Cell → Bool := fun c => p c && !stand x y z p c
noncomputable def sinkNext (x y z : Int) (p : Cell → Bool) : Cell → Bool := fun d => stand x y z p d || (decide ((up d).inBox x y z) && hang x y z p (up d))
/-- The first k cubes that hang have sunk. -/
noncomputable def sinkK (x y z : Int) (p : Cell → Bool) (k : Nat) : Cell → Bool := fun d => stand x y z p d || ((pick x y z (hang x y z p)).take k).any fun e => decide (d = down e)
noncomputable def sink (x y z : Int) : Nat → (Cell → Bool) → (Cell → Bool) × Nat
  | 0, p => (p, 0)
  | f + 1, p => if Firm x y z p then (p, 0) else ((sink x y z f (sinkNext x y z p)).1, (sink x y z f (sinkNext x y z p)).2 + 1)

def sumC (l : List Cell) : Nat := (l.map fun c => c.c.toNat).sum
theorem sumC_cons (a : Cell) (l : List Cell) : sumC (a :: l) = a.c.toNat + sumC l := by simp [sumC]
theorem sumC_or (p q : Cell → Bool) : ∀ l : List Cell, sumC (l.filter fun c => p c || q c) ≤ sumC (l.filter p) + sumC (l.filter q)
  | [] => by simp [sumC]
  | a :: l => by
    have ih := sumC_or p q l
    cases hp : p a <;> cases hq : q a <;> simp only [List.filter_cons, hp, hq, Bool.or_self, Bool.or_true, Bool.or_false, Bool.false_eq_true, if_false, if_true, sumC_cons] <;> omega
theorem sumC_part (p q : Cell → Bool) (hqp : ∀ c, q c = true → p c = true) : ∀ l : List Cell, sumC (l.filter q) + sumC (l.filter fun c => p c && !q c) = sumC (l.filter p)
  | [] => by simp [sumC]
  | a :: l => by
    have ih := sumC_part p q hqp l
    have := hqp a
    cases hp : p a <;> cases hq : q a <;> simp only [hp, hq, Bool.false_eq_true, imp_false, not_true_eq_false, not_false_eq_true, forall_const, reduceCtorEq] at this <;>
      simp only [List.filter_cons, hp, hq, Bool.and_self, Bool.not_true, Bool.not_false, Bool.and_false, Bool.and_true, Bool.false_eq_true, if_false, if_true, sumC_cons] <;> omega
theorem sumC_erase {m : List Cell} {c : Cell} (h : c ∈ m) : sumC (m.erase c) + c.c.toNat = sumC m := by
  induction m with
  | nil => simp at h
  | cons a m ih =>
    rw [List.erase_cons]
    by_cases e : a = c
    · subst e; simp [sumC_cons]; omega
    · have hb : (a == c) = false := by simpa using e
      rw [hb]
      simp only [Bool.false_eq_true, if_false, sumC_cons]
      have := ih (by rcases List.mem_cons.1 h with h | h
                     · exact absurd h.symm e
                     · exact h)
      omega
/-- Cubes that go down, no two to the same place, and out of a list: the sum is less by their number. -/
theorem sumC_down {l : List Cell} (hl : l.Nodup) : ∀ {m : List Cell}, (∀ c ∈ l, up c ∈ m) → (∀ c ∈ l, 0 ≤ c.c) → (∀ c ∈ m, 1 ≤ c.c) → sumC l + m.length ≤ sumC m := by
  induction l with
  | nil =>
    intro m _ _ hm
    simp only [sumC, List.map_nil, List.sum_nil, Nat.zero_add]
    induction m with
    | nil => simp
    | cons a m ih =>
      have := ih (by simp) fun c hc => hm c (by simp [hc])
      have ha := hm a (by simp)
      simp only [List.length_cons, List.map_cons, List.sum_cons]; omega
  | cons a l ih =>
    intro m hm h0 h1
    rw [List.nodup_cons] at hl
    have hu := hm a (by simp)
    have := ih hl.2 (m := m.erase (up a)) (fun c hc => (List.mem_erase_of_ne (fun e => hl.1 (by
      have h2 := congrArg down e
      rw [down_up, down_up] at h2
      rw [← h2]; exact hc))).2 (hm c (by simp [hc]))) (fun c hc => h0 c (by simp [hc])) fun c hc => h1 c (List.mem_of_mem_erase hc)
    rw [List.length_erase_of_mem hu] at this
    have h3 := sumC_erase hu
    have h4 := h0 a (by simp)
    have h5 : 0 < m.length := List.length_pos_of_mem hu
    rw [sumC_cons]
    have h6 : (up a).c.toNat = a.c.toNat + 1 := by unfold up; simp only; omega
    omega

section
variable {x y z : Int} (hS : Sides x y z)
include hS
theorem hang_up {p : Cell → Bool} {c : Cell} (hc : c.inBox x y z) (h : hang x y z p c = true) : 1 ≤ c.c ∧ (down c).inBox x y z := by
  unfold hang at h
  simp only [Bool.and_eq_true, Bool.not_eq_true'] at h
  have : c.c ≠ 0 := fun e => by
    have : stand x y z p c = true := by unfold stand; rw [reach_iff]; exact .base hc (by simp [h.1, e])
    rw [this] at h; cases h.2
  have h3 := hc.2.2
  refine ⟨by omega, hc.1, hc.2.1, ?_⟩
  unfold down; simp only; omega
theorem sink_less {p : Cell → Bool} (hf : ¬ Firm x y z p) : sumC (pick x y z (sinkNext x y z p)) < sumC (pick x y z p) := by
  have h1 := sumC_or (stand x y z p) (fun d => decide ((up d).inBox x y z) && hang x y z p (up d)) (cellsOf x y z)
  have h2 := sumC_part p (stand x y z p) (fun c hc => stand_sub hc) (cellsOf x y z)
  have h3 := sumC_down (l := pick x y z fun d => decide ((up d).inBox x y z) && hang x y z p (up d)) (pick_ok hS _).nodup (m := pick x y z (hang x y z p)) (fun c hc => by
    have := ((mem_pick hS).1 hc).2
    simp only [Bool.and_eq_true, decide_eq_true_eq] at this
    exact (mem_pick hS).2 this) (fun c hc => ((mem_pick hS).1 hc).1.2.2.1) fun c hc => (hang_up hS ((mem_pick hS).1 hc).1 ((mem_pick hS).1 hc).2).1
  have h4 : 0 < (pick x y z (hang x y z p)).length := by
    apply Nat.pos_of_ne_zero
    intro e
    apply hf
    intro c hc hp
    cases hs : stand x y z p c with
    | true => rfl
    | false =>
      have := (mem_pick hS (p := hang x y z p) (c := c)).2 ⟨hc, by simp [hang, hp, hs]⟩
      rw [List.eq_nil_of_length_eq_zero e] at this
      simp at this
  rw [show (fun c => p c && !stand x y z p c) = hang x y z p from rfl] at h2
  unfold pick at *
  unfold sinkNext
  omega
theorem sinkK_all {p : Cell → Bool} {d : Cell} (hd : d.inBox x y z) : sinkK x y z p (pick x y z (hang x y z p)).length d = sinkNext x y z p d := by
  unfold sinkK sinkNext
  congr 1
  rw [List.take_length, Bool.eq_iff_iff, List.any_eq_true, Bool.and_eq_true, decide_eq_true_iff]
  constructor
  · rintro ⟨e, he, h⟩
    obtain ⟨h1, h2⟩ := (mem_pick hS).1 he
    rw [of_decide_eq_true h, up_down]
    exact ⟨h1, h2⟩
  · rintro ⟨h1, h2⟩
    exact ⟨up d, (mem_pick hS).2 ⟨h1, h2⟩, by rw [down_up]; simp⟩
theorem sinkK_step {p : Cell → Bool} {k : Nat} (hk : k < (pick x y z (hang x y z p)).length) (d : Cell) : sinkK x y z p (k + 1) d = (sinkK x y z p k d || decide (d = down ((pick x y z (hang x y z p)).getD k default))) := by
  unfold sinkK
  rw [List.take_succ, List.getElem?_eq_getElem hk, List.any_append]
  simp [hk, Bool.or_assoc]
theorem sumC_le (p : Cell → Bool) : sumC (pick x y z p) < 1000 := by
  have h1 := pick_len hS p
  have h2 : ∀ c ∈ pick x y z p, c.c.toNat ≤ 3 := fun c hc => by
    have := ((mem_pick hS).1 hc).1.2.2
    have := hS.2.2
    omega
  have h3 : ∀ l : List Cell, (∀ c ∈ l, c.c.toNat ≤ 3) → sumC l ≤ 3 * l.length := by
    intro l
    induction l with
    | nil => intro _; simp [sumC]
    | cons a l ih => intro h; have := ih fun c hc => h c (by simp [hc]); have := h a (by simp); rw [sumC_cons, List.length_cons]; omega
  have := h3 _ h2
  omega
end
end Go.Ab

/- Contracts: sinking, both sides. -/
namespace Go.Ab
open Go
set_option linter.unusedSimpArgs false
set_option linter.unusedVariables false

/-- What SinkHeap answers. -/
noncomputable def sinkOf (x y z : Int) (cs : List Cell) : Option Hp := by
  classical
  exact if HeapOK x y z cs then some ⟨x, y, z, pick x y z (sink x y z 1000 fun c => decide (c ∈ cs)).1⟩ else none
noncomputable def sinkTimes (x y z : Int) (cs : List Cell) : Int := by
  classical
  exact if HeapOK x y z cs then ((sink x y z 1000 fun c => decide (c ∈ cs)).2 : Nat) else 0
theorem parted_mem {x y z : Int} (hS : Sides x y z) {p : Cell → Bool} {hg : Bool} : pick x y z (parted x y z (fun d => decide (d ∈ pick x y z p)) hg) = pick x y z (parted x y z p hg) := by
  have hm : ∀ e, e.inBox x y z → decide (e ∈ pick x y z p) = p e := fun e he => by
    rw [Bool.eq_iff_iff, decide_eq_true_iff, mem_pick hS]; exact ⟨fun h => h.2, fun h => ⟨he, h⟩⟩
  refine pick_congr hS fun d hd => ?_
  unfold parted
  rw [stand_congr hm]
  simp only [hm d hd]
theorem parted_t {x y z : Int} (hS : Sides x y z) {p : Cell → Bool} : pick x y z (parted x y z p true) = pick x y z (hang x y z p) := pick_congr hS fun d _ => by unfold parted hang; cases stand x y z p d <;> rfl
theorem parted_f {x y z : Int} (hS : Sides x y z) {p : Cell → Bool} : pick x y z (parted x y z p false) = pick x y z (stand x y z p) := pick_congr hS fun d _ => by
  unfold parted
  cases hs : stand x y z p d with
  | true => rw [stand_sub hs]; rfl
  | false => simp

end Go.Ab

/- The abstract code of some functions (written by a program of mine from the translation, by way of prepF). -/
namespace Go.Ab.C
open Go.Ab
def laws_vCut : AFn :=
 ⟨2, 20, [.tmp 4],
 .seq (.ops [(none, .mv 4 (.c .nil))])
 (.seq (.seq (.ops [(none, .mv 5 (.t 1)),
 (none, .mv 6 (.t 0)),
 (none, .len 7 (.t 6)),
 (none, .bin 8 .gtr (.t 5) (.t 7))])
 (.cond (.t 8) (.ops [(none, .mv 9 (.t 0)),
 (none, .len 10 (.t 9)),
 (none, .mv 1 (.t 10))])
 (.skip)))
 (.seq (.ops [(none, .buildSl 11 0 1 [] []),
 (none, .mv 12 (.t 0)),
 (none, .mv 13 (.t 1)),
 (none, .slS 14 1 (.t 12) (some (.t 13)) none),
 (none, .append 15 1 1 (.t 11) (.t 14)),
 (none, .mv 16 (.t 1)),
 (none, .conv 17 .u8 (.t 16)),
 (none, .buildSl 18 1 1 [(.val (.int .u8 0))] [(0, 1, (.t 17))]),
 (none, .append 19 1 1 (.t 15) (.t 18)),
 (none, .mv 4 (.t 19))])
 (.ret)))⟩
def spec_l1Cur_cell : AFn :=
 ⟨2, 30, [.cellN 4 3],
 .seq (.ops [(none, .box 3 (.t 1)),
 (none, .alloc 4 [(.I 0), (.I 0), (.I 0)])])
 (.seq (.ops [(none, .build 7 [(.I 0), (.I 0), (.I 0)] []),
 (none, .alloc 5 [(.I 0), (.I 0), (.I 0)]),
 (none, .store 3 (.t 5) (.t 7))])
 (.seq (.seq (.ops [(none, .mv 6 (.c (.I 0)))])
 (.block 0 (.loop (.seq (.seq (.ops [(none, .mv 8 (.t 6)),
 (none, .bin 9 .lss (.t 8) (.c (.I 3)))])
 (.cond (.t 9) (.skip)
 (.exit 0)))
 (.seq (.block 1 (.ops [(none, .mv 12 (.t 6)),
 (none, .mv 13 (.t 0)),
 (none, .loadN 14 4 (.t 3)),
 (none, .mv 15 (.t 6)),
 (none, .call (some 16) F.spec_l2Long [(.t 14), (.t 15)]),
 (none, .call (some 17) F.spec_l1Least [(.t 16), (.c (.I 4))]),
 (none, .call (some 18) F.spec_l1Most [(.t 17), (.c (.I 1))]),
 (none, .call (some 19) F.spec_l1Cur_pick [(.t 13), (.t 18)]),
 (none, .idxA 20 3 1 (.t 5) (.t 12)),
 (none, .store 1 (.t 20) (.t 19))]))
 (.ops [(none, .mv 10 (.t 6)),
 (none, .bin 11 .add (.t 10) (.c (.I 1))),
 (none, .mv 6 (.t 11))]))))))
 (.seq (.seq (.ops [(none, .mv 21 (.t 0)),
 (none, .call (some 22) F.spec_l1Cur_one [(.t 21), (.c (.I 30))])])
 (.cond (.t 22) (.ops [(none, .mv 23 (.t 0)),
 (none, .call (some 24) F.spec_l1Cur_pick [(.t 23), (.c (.I 3))]),
 (none, .mv 25 (.t 0)),
 (none, .buildSl 26 3 1 [(.I 0), (.I 0), (.I 0)] [(0, 1, (.c (.I (-1)))), (1, 1, (.c (.I 4))), (2, 1, (.c (.I 4611686018427387904)))]),
 (none, .call (some 27) F.spec_l1Cur_among [(.t 25), (.t 26)]),
 (none, .idxA 28 3 1 (.t 5) (.t 24)),
 (none, .store 1 (.t 28) (.t 27))])
 (.skip)))
 (.seq (.ops [(none, .loadN 29 3 (.t 5)),
 (none, .store 3 (.t 4) (.t 29))])
 (.ret)))))⟩
end Go.Ab.C

/- That the program has this code. -/
namespace Go.Ab.K
open Go Go.Ab
theorem laws_vCut : prepF Go.Proofs.Try.prog F.laws_vCut = some C.laws_vCut := by kernel_rfl
theorem spec_l1Cur_cell : prepF Go.Proofs.Try.prog F.spec_l1Cur_cell = some C.spec_l1Cur_cell := by kernel_rfl
end Go.Ab.K

/- The abstract code of some functions (written by a program of mine from the translation, by way of prepF). -/
namespace Go.Ab.C
open Go.Ab
end Go.Ab.C

/- That the program has this code. -/
namespace Go.Ab.K
open Go Go.Ab
end Go.Ab.K

/- A nil slice may be taken for an empty one that lies nowhere. -/
namespace Go.Ab
open Go

def Den1 (t : Nat) (a b : LV) : Prop := a = b ∨ (a = .nil ∧ b = .ref t 0 0)
def Den0 (t : Nat) (a b : LV) : Prop := Den1 t a b ∨ ∃ cs ds, a = .agg cs ∧ b = .agg ds ∧ All2 (Den1 t) cs ds
def Den (t : Nat) (a b : LV) : Prop := Den0 t a b ∨ ∃ cs ds, a = .tup cs ∧ b = .tup ds ∧ All2 (Den0 t) cs ds
theorem Den1.rfl {t : Nat} {a : LV} : Den1 t a a := .inl (Eq.refl a)
theorem Den0.rfl {t : Nat} {a : LV} : Den0 t a a := .inl .rfl
theorem Den1.nil {t : Nat} : Den1 t .nil (.ref t 0 0) := .inr ⟨Eq.refl _, Eq.refl _⟩
theorem All2.thru {α β γ : Type} {R : α → β → Prop} {S : α → γ → Prop} {T : γ → β → Prop} (h : ∀ a b c, R a b → S a c → T c b) : ∀ {l1 : List α} {l2 : List β} {l3 : List γ}, All2 R l1 l2 → All2 S l1 l3 → All2 T l3 l2
  | [], [], [], _, _ => trivial
  | _ :: _, _ :: _, _ :: _, h1, h2 => ⟨h _ _ _ h1.1 h2.1, All2.thru h h1.2 h2.2⟩
  | [], _ :: _, _, h1, _ => h1.elim
  | _ :: _, [], _, h1, _ => h1.elim
  | [], _, _ :: _, _, h2 => h2.elim
  | _ :: _, _, [], _, h2 => h2.elim
section
variable {G : Gh} {t : Nat} {β : Base} (hg : G t = some β)
include hg
theorem VR1.den {a b : LV} {x : Value} (h : VR1 G a x) (k : Den1 t a b) : VR1 G b x := by
  rcases k with rfl | ⟨rfl, rfl⟩
  · exact h
  · obtain ⟨rfl, _⟩ := h
    exact ⟨β, hg, none, 0, rfl, .inl ⟨rfl, rfl⟩⟩
theorem VR0.den {a b : LV} {x : Value} (h : VR0 G a x) (k : Den0 t a b) : VR0 G b x := by
  rcases k with k | ⟨cs, ds, rfl, rfl, k⟩
  · rcases k with rfl | ⟨rfl, rfl⟩
    · exact h
    · exact VR1.den hg (a := .nil) (b := .ref t 0 0) h .nil
  · obtain ⟨xs, h1, h2⟩ := h
    exact ⟨xs, h1, All2.thru (R := VR1 G) (S := Den1 t) (T := VR1 G) (fun _ _ _ p q => VR1.den hg p q) h2 k⟩
theorem VR.den {a b : LV} {x : Value} (h : VR G a x) (k : Den t a b) : VR G b x := by
  rcases k with k | ⟨cs, ds, rfl, rfl, k⟩
  · rcases k with k | ⟨cs, ds, rfl, rfl, k⟩
    · rcases k with rfl | ⟨rfl, rfl⟩
      · exact h
      · exact VR1.den hg (a := .nil) (b := .ref t 0 0) h .nil
    · exact VR0.den hg (a := .agg cs) (b := .agg ds) h (.inr ⟨cs, ds, rfl, rfl, k⟩)
  · obtain ⟨xs, h1, h2⟩ := h
    exact ⟨xs, h1, All2.thru (R := VR0 G) (S := Den0 t) (T := VR0 G) (fun _ _ _ p q => VR0.den hg p q) h2 k⟩
end
theorem CallsR.den {P : Program} {f : FuncId} {args : List LV} {M : Mem} {A B : LV → Mem → Prop} {e : Nat} (h : CallsR P f args M A) (hab : ∀ v N, A v N → B v N ∨ ∃ v', Den N.length v v' ∧ B v' (N ++ [some (.row [] true e)])) : CallsR P f args M B := by
  refine ⟨h.1, fun G w xs hi hx => (h.2 G w xs hi hx).mono fun r w' ⟨v, N, x, G', h1, h2, h3, h4, h5⟩ => ?_⟩
  rcases hab v N h1 with hb | ⟨v', hd, hb⟩
  · exact ⟨v, N, x, G', hb, h2, h3, h4, h5⟩
  have hno := h4.top N.length (Nat.le_refl _)
  have hxt : Ext G' (G'.put N.length ⟨0, 0, e, 0, true⟩) := Gh.put_ext hno
  have hat : (G'.put N.length ⟨0, 0, e, 0, true⟩) N.length = some ⟨0, 0, e, 0, true⟩ := by simp [Gh.put]
  refine ⟨v', _, x, G'.put N.length ⟨0, 0, e, 0, true⟩, hb, h2, VR.den hat (VR.ext hxt h3) hd, ⟨fun t b hl => ?_, fun t t' b b' γ γ' hne hl hl' ho hγ hγ' hv hv' => ?_, fun t ht => ?_⟩, ⟨fun t ht => ?_, by have := h5.len; simp; omega, h5.size, h5.os, h5.tape, h5.output, h5.keep, fun b hb => ?_, fun t b hl ho => ?_⟩⟩
  · rcases live_push hl with ⟨_, h6⟩ | ⟨rfl, rfl⟩
    · obtain ⟨γ, hγ, he⟩ := h4.emb t b h6
      exact ⟨γ, hxt _ _ hγ, he.ext hxt fun _ => rfl⟩
    · exact ⟨_, hat, rfl, .inl ⟨rfl, rfl⟩⟩
  · rcases live_push hl with ⟨hlt, h6⟩ | ⟨rfl, rfl⟩
    · rcases live_push hl' with ⟨hlt', h7⟩ | ⟨rfl, rfl⟩
      · unfold Gh.put at hγ hγ'
        rw [if_neg (by omega)] at hγ hγ'
        exact h4.sep t t' b b' γ γ' hne h6 h7 ho hγ hγ' hv hv'
      · rw [hat] at hγ'; cases hγ'; cases hv'
    · rw [hat] at hγ; cases hγ; cases hv
  · simp at ht
    unfold Gh.put
    rw [if_neg (by omega)]
    exact h4.top t (by omega)
  · have := h5.len
    unfold Gh.put
    rw [if_neg (by omega)]
    exact h5.gh t ht
  · refine h5.own b ?_
    obtain ⟨t, blk, γ, hl, ho, hγ, hv, hbb⟩ := hb
    rcases live_push hl with ⟨hlt, h6⟩ | ⟨rfl, rfl⟩
    · unfold Gh.put at hγ
      rw [if_neg (by omega)] at hγ
      exact ⟨t, blk, γ, h6, ho, hγ, hv, hbb⟩
    · rw [hat] at hγ; cases hγ; cases hv
  · rcases live_push hl with ⟨_, h6⟩ | ⟨rfl, rfl⟩
    · exact h5.ro t b h6 ho
    · cases ho
end Go.Ab

/- The abstract code of some functions (written by a program of mine from the translation, by way of prepF). -/
namespace Go.Ab.C
open Go.Ab
def spec_l1Cur_heap : AFn :=
 ⟨1, 56, [.cellN 2 4],
 .seq (.ops [(none, .alloc 2 [(.I 0), (.I 0), (.I 0), .nil])])
 (.seq (.ops [(none, .mv 8 (.t 0)),
 (none, .call (some 9) F.spec_l1Cur_sides [(.t 8)]),
 (none, .mv 7 (.t 9)),
 (none, .extract 10 (.t 7) 0),
 (none, .extract 11 (.t 7) 1),
 (none, .extract 12 (.t 7) 2),
 (none, .mv 3 (.t 10)),
 (none, .mv 4 (.t 11)),
 (none, .mv 5 (.t 12))])
 (.seq (.ops [(none, .mv 13 (.t 0)),
 (none, .mv 14 (.t 3)),
 (none, .mv 15 (.t 4)),
 (none, .mv 16 (.t 5)),
 (none, .call (some 17) F.spec_l1Cur_someHeap [(.t 13), (.t 14), (.t 15), (.t 16)]),
 (none, .alloc 6 [(.I 0), (.I 0), (.I 0), .nil]),
 (none, .store 4 (.t 6) (.t 17))])
 (.seq (.seq (.ops [(none, .mv 18 (.t 0)),
 (none, .call (some 19) F.spec_l1Cur_pick [(.t 18), (.c (.I 60))])])
 (.block 0 (.seq (.ops [(none, .bin 21 .eql (.t 19) (.c (.I 0))),
 (none, .mv 20 (.t 21))])
 (.cond (.t 20) (.ops [(none, .fieldAddr 22 (.t 6) 3),
 (none, .load1 23 (.t 22)),
 (none, .mv 24 (.t 3)),
 (none, .build 25 [(.I 0), (.I 0), (.I 0)] [(0, 1, (.t 24)), (1, 1, (.c (.I 0))), (2, 1, (.c (.I 0)))]),
 (none, .buildSl 26 1 3 [(.I 0), (.I 0), (.I 0)] [(0, 3, (.t 25))]),
 (none, .append 27 3 24 (.t 23) (.t 26)),
 (none, .fieldAddr 28 (.t 6) 3),
 (none, .store 1 (.t 28) (.t 27))])
 (.seq (.ops [(none, .bin 30 .eql (.t 19) (.c (.I 1))),
 (none, .mv 29 (.t 30))])
 (.cond (.t 29) (.ops [(none, .fieldAddr 31 (.t 6) 3),
 (none, .load1 32 (.t 31)),
 (none, .build 33 [(.I 0), (.I 0), (.I 0)] [(0, 1, (.c (.I (-1)))), (1, 1, (.c (.I 0))), (2, 1, (.c (.I 0)))]),
 (none, .buildSl 34 1 3 [(.I 0), (.I 0), (.I 0)] [(0, 3, (.t 33))]),
 (none, .append 35 3 24 (.t 32) (.t 34)),
 (none, .fieldAddr 36 (.t 6) 3),
 (none, .store 1 (.t 36) (.t 35))])
 (.seq (.ops [(none, .bin 38 .eql (.t 19) (.c (.I 2))),
 (none, .mv 37 (.t 38))])
 (.cond (.t 37) (.seq (.ops [(none, .fieldAddr 39 (.t 6) 3),
 (none, .load1 40 (.t 39)),
 (none, .len 41 (.t 40)),
 (none, .bin 42 .gtr (.t 41) (.c (.I 0)))])
 (.cond (.t 42) (.draw [⟨(none, .fieldAddr 43 (.t 6) 3), [], []⟩,
 ⟨(none, .load1 44 (.t 43)), [], []⟩,
 ⟨(none, .fieldAddr 45 (.t 6) 3), [], []⟩,
 ⟨(none, .load1 46 (.t 45)), [], []⟩,
 ⟨(none, .idxS 47 3 (.t 46) (.c (.I 0))), [], []⟩,
 ⟨(none, .loadN 48 3 (.t 47)), [], []⟩,
 ⟨(none, .buildSl 49 1 3 [(.I 0), (.I 0), (.I 0)] [(0, 3, (.t 48))]), [], []⟩,
 ⟨(none, .append 50 3 24 (.t 44) (.t 49)), [], []⟩,
 ⟨(none, .fieldAddr 51 (.t 6) 3), [], []⟩,
 ⟨(none, .store 1 (.t 51) (.t 50)), [], []⟩])
 (.skip)))
 (.seq (.ops [(none, .bin 53 .eql (.t 19) (.c (.I 3))),
 (none, .mv 52 (.t 53))])
 (.cond (.t 52) (.seq (.ops [(none, .build 54 [(.I 0), (.I 0), (.I 0), .nil] []),
 (none, .store 4 (.t 2) (.t 54))])
 (.ret))
 (.skip)))))))))))
 (.seq (.ops [(none, .loadN 55 4 (.t 6)),
 (none, .store 4 (.t 2) (.t 55))])
 (.ret)))))⟩
end Go.Ab.C

/- That the program has this code. -/
namespace Go.Ab.K
open Go Go.Ab
theorem spec_l1Cur_heap : prepF Go.Proofs.Try.prog F.spec_l1Cur_heap = some C.spec_l1Cur_heap := by kernel_rfl
end Go.Ab.K

/- The abstract code of some functions (written by a program of mine from the translation, by way of prepF). -/
namespace Go.Ab.C
open Go.Ab
def spec_l1Cur_sides : AFn :=
 ⟨1, 37, [.tmp 2, .tmp 3, .tmp 4],
 .seq (.ops [(none, .mv 2 (.c (.I 0))),
 (none, .mv 3 (.c (.I 0))),
 (none, .mv 4 (.c (.I 0)))])
 (.seq (.ops [(none, .mv 8 (.t 0)),
 (none, .buildSl 9 5 1 [(.I 0), (.I 0), (.I 0), (.I 0), (.I 0)] [(0, 1, (.c (.I 2))), (1, 1, (.c (.I 3))), (2, 1, (.c (.I 3))), (3, 1, (.c (.I 1))), (4, 1, (.c (.I 4)))]),
 (none, .call (some 10) F.spec_l1Cur_among [(.t 8), (.t 9)]),
 (none, .mv 11 (.t 0)),
 (none, .buildSl 12 5 1 [(.I 0), (.I 0), (.I 0), (.I 0), (.I 0)] [(0, 1, (.c (.I 2))), (1, 1, (.c (.I 3))), (2, 1, (.c (.I 2))), (3, 1, (.c (.I 1))), (4, 1, (.c (.I 4)))]),
 (none, .call (some 13) F.spec_l1Cur_among [(.t 11), (.t 12)]),
 (none, .mv 14 (.t 0)),
 (none, .buildSl 15 5 1 [(.I 0), (.I 0), (.I 0), (.I 0), (.I 0)] [(0, 1, (.c (.I 2))), (1, 1, (.c (.I 3))), (2, 1, (.c (.I 3))), (3, 1, (.c (.I 1))), (4, 1, (.c (.I 4)))]),
 (none, .call (some 16) F.spec_l1Cur_among [(.t 14), (.t 15)]),
 (none, .mv 5 (.t 10)),
 (none, .mv 6 (.t 13)),
 (none, .mv 7 (.t 16))])
 (.seq (.seq (.ops [(none, .mv 17 (.t 0)),
 (none, .call (some 18) F.spec_l1Cur_pick [(.t 17), (.c (.I 60))])])
 (.block 0 (.seq (.ops [(none, .bin 20 .eql (.t 18) (.c (.I 0))),
 (none, .mv 19 (.t 20))])
 (.cond (.t 19) (.ops [(none, .mv 21 (.t 0)),
 (none, .buildSl 22 4 1 [(.I 0), (.I 0), (.I 0), (.I 0)] [(0, 1, (.c (.I 0))), (1, 1, (.c (.I 5))), (2, 1, (.c (.I (-1)))), (3, 1, (.c (.I 4611686018427387904)))]),
 (none, .call (some 23) F.spec_l1Cur_among [(.t 21), (.t 22)]),
 (none, .mv 5 (.t 23))])
 (.seq (.ops [(none, .bin 25 .eql (.t 18) (.c (.I 1))),
 (none, .mv 24 (.t 25))])
 (.cond (.t 24) (.ops [(none, .mv 26 (.t 0)),
 (none, .buildSl 27 3 1 [(.I 0), (.I 0), (.I 0)] [(0, 1, (.c (.I 0))), (1, 1, (.c (.I 5))), (2, 1, (.c (.I (-1))))]),
 (none, .call (some 28) F.spec_l1Cur_among [(.t 26), (.t 27)]),
 (none, .mv 6 (.t 28))])
 (.seq (.ops [(none, .bin 30 .eql (.t 18) (.c (.I 2))),
 (none, .mv 29 (.t 30))])
 (.cond (.t 29) (.ops [(none, .mv 31 (.t 0)),
 (none, .buildSl 32 3 1 [(.I 0), (.I 0), (.I 0)] [(0, 1, (.c (.I 0))), (1, 1, (.c (.I 5))), (2, 1, (.c (.I (-1))))]),
 (none, .call (some 33) F.spec_l1Cur_among [(.t 31), (.t 32)]),
 (none, .mv 7 (.t 33))])
 (.skip)))))))))
 (.seq (.ops [(none, .mv 34 (.t 5)),
 (none, .mv 35 (.t 6)),
 (none, .mv 36 (.t 7)),
 (none, .mv 2 (.t 34)),
 (none, .mv 3 (.t 35)),
 (none, .mv 4 (.t 36))])
 (.ret))))⟩
def spec_l1Cur_someHeap : AFn :=
 ⟨4, 64, [.cellN 8 4],
 .seq (.ops [(none, .alloc 8 [(.I 0), (.I 0), (.I 0), .nil])])
 (.seq (.ops [(none, .mv 13 (.t 1)),
 (none, .mv 14 (.t 2)),
 (none, .mv 15 (.t 3)),
 (none, .call (some 16) F.spec_l2Empty [(.t 13), (.t 14), (.t 15)]),
 (none, .mv 17 (.t 0)),
 (none, .buildSl 18 4 1 [(.I 0), (.I 0), (.I 0), (.I 0)] [(0, 1, (.c (.I 2))), (1, 1, (.c (.I 3))), (2, 1, (.c (.I 2))), (3, 1, (.c (.I 4)))]),
 (none, .call (some 19) F.spec_l1Cur_among [(.t 17), (.t 18)]),
 (none, .alloc 9 [(.I 0), (.I 0), (.I 0), .nil]),
 (none, .store 4 (.t 9) (.t 16)),
 (none, .mv 10 (.t 19))])
 (.seq (.seq (.ops [(none, .mv 20 (.t 1)),
 (none, .mv 21 (.t 2)),
 (none, .mv 22 (.t 3)),
 (none, .call (some 23) F.spec_l2Sides [(.t 20), (.t 21), (.t 22)]),
 (none, .un 24 .not (.t 23))])
 (.cond (.t 24) (.seq (.ops [(none, .loadN 25 4 (.t 9)),
 (none, .store 4 (.t 8) (.t 25))])
 (.ret))
 (.skip)))
 (.seq (.ops [(none, .loadN 26 4 (.t 9)),
 (none, .call (some 27) F.spec_l2All [(.t 26)]),
 (none, .mv 11 (.t 27))])
 (.seq (.seq (.ops [(none, .mv 12 (.c (.I 0)))])
 (.block 0 (.loop (.seq (.seq (.ops [(none, .mv 28 (.t 12)),
 (none, .mv 29 (.t 11)),
 (none, .len 30 (.t 29)),
 (none, .bin 31 .lss (.t 28) (.t 30))])
 (.cond (.t 31) (.skip)
 (.exit 0)))
 (.seq (.block 1 (.seq (.ops [(none, .mv 34 (.t 0)),
 (none, .mv 35 (.t 10)),
 (none, .call (some 36) F.spec_l1Cur_one [(.t 34), (.t 35)])])
 (.cond (.t 36) (.draw [⟨(none, .fieldAddr 37 (.t 9) 3), [], []⟩,
 ⟨(none, .load1 38 (.t 37)), [], []⟩,
 ⟨(none, .mv 39 (.t 11)), [], []⟩,
 ⟨(none, .mv 40 (.t 12)), [], []⟩,
 ⟨(none, .idxS 41 3 (.t 39) (.t 40)), [], []⟩,
 ⟨(none, .loadN 42 3 (.t 41)), [], []⟩,
 ⟨(none, .buildSl 43 1 3 [(.I 0), (.I 0), (.I 0)] [(0, 3, (.t 42))]), [], []⟩,
 ⟨(none, .append 44 3 24 (.t 38) (.t 43)), [], []⟩,
 ⟨(none, .fieldAddr 45 (.t 9) 3), [], []⟩,
 ⟨(none, .store 1 (.t 45) (.t 44)), [], []⟩])
 (.skip))))
 (.ops [(none, .mv 32 (.t 12)),
 (none, .bin 33 .add (.t 32) (.c (.I 1))),
 (none, .mv 12 (.t 33))]))))))
 (.seq (.seq (.ops [(none, .mv 46 (.t 0)),
 (none, .call (some 47) F.spec_l1Cur_pick [(.t 46), (.c (.I 12))])])
 (.block 2 (.seq (.ops [(none, .bin 49 .eql (.t 47) (.c (.I 0))),
 (none, .mv 48 (.t 49))])
 (.cond (.t 48) (.ops [(none, .loadN 51 4 (.t 9)),
 (none, .call (some 52) F.spec_OtherCells [(.t 51)]),
 (none, .mv 50 (.t 52)),
 (none, .extract 53 (.t 50) 0),
 (none, .extract 54 (.t 50) 1),
 (none, .store 4 (.t 9) (.t 53))])
 (.seq (.ops [(none, .bin 56 .eql (.t 47) (.c (.I 1))),
 (none, .mv 55 (.t 56))])
 (.cond (.t 55) (.ops [(none, .mv 57 (.t 1)),
 (none, .mv 58 (.t 2)),
 (none, .mv 59 (.t 3)),
 (none, .loadN 60 4 (.t 9)),
 (none, .call (some 61) F.spec_l2Heights [(.t 60)]),
 (none, .call (some 62) F.spec_l2Stack [(.t 57), (.t 58), (.t 59), (.t 61)]),
 (none, .store 4 (.t 9) (.t 62))])
 (.skip)))))))
 (.seq (.ops [(none, .loadN 63 4 (.t 9)),
 (none, .store 4 (.t 8) (.t 63))])
 (.ret)))))))⟩
def spec_l2Heights : AFn :=
 ⟨1, 5, [.tmp 2],
 .seq (.ops [(none, .box 1 (.t 0)),
 (none, .mv 2 (.c .nil))])
 (.seq (.ops [(none, .loadN 3 4 (.t 1)),
 (none, .call (some 4) F.spec_l2View [(.t 3), (.c (.I 2))]),
 (none, .mv 2 (.t 4))])
 (.ret))⟩
end Go.Ab.C

/- That the program has this code. -/
namespace Go.Ab.K
open Go Go.Ab
theorem spec_l1Cur_sides : prepF Go.Proofs.Try.prog F.spec_l1Cur_sides = some C.spec_l1Cur_sides := by kernel_rfl
theorem spec_l1Cur_someHeap : prepF Go.Proofs.Try.prog F.spec_l1Cur_someHeap = some C.spec_l1Cur_someHeap := by kernel_rfl
theorem spec_l2Heights : prepF Go.Proofs.Try.prog F.spec_l2Heights = some C.spec_l2Heights := by kernel_rfl
end Go.Ab.K
