/- Parts of the proof of FnSurfacesSaid: Ty C_Pf K_Pf Pf Jv Jt Jw C_Jx K_Jx C_Jj K_Jj Jj. -/
import Derived.Test.YtphbahobldclbaaA9
import Derived.Test.YtphbahobldclbaaA4
import Derived.Test.YtphbahobldclbaaA7
import Derived.Test.YtphbahobldclbaaA3
import Derived.Test.YtphbahobldclbaaProg
import Derived.KernelRfl
import Derived.Test.YtphbahobldclbaaA8
import Derived.Test.YtphbahobldclbaaA6
set_option linter.all false
/- Contracts: the program's bare faces and surface. -/
namespace Go.Ab
open Go
set_option linter.unusedSimpArgs false
set_option linter.unusedVariables false
set_option maxRecDepth 20000

theorem g_beyond {c : Cell} {f : Nat} {M : Mem} (hc : (-9 ≤ c.a ∧ c.a ≤ 9) ∧ (-9 ≤ c.b ∧ c.b ≤ 9) ∧ (-9 ≤ c.c ∧ c.c ≤ 9)) (hf : f < 6) : CallsTo PG F.impl_beyond [.agg [.I c.a, .I c.b, .I c.c], .I f] M (.agg [.I (nbC c f).a, .I (nbC c f).b, .I (nbC c f).c]) M := by
  obtain ⟨⟨_, _⟩, ⟨_, _⟩, ⟨_, _⟩⟩ := hc
  refine calls_run K.impl_beyond rfl ?_
  rcases (show f = 0 ∨ f = 1 ∨ f = 2 ∨ f = 3 ∨ f = 4 ∨ f = 5 by omega) with rfl | rfl | rfl | rfl | rfl | rfl
  · have e1 : IntKind.i64.wrap (Int.tdiv ((0 : Nat) : Int) 2) = 0 := by decide
    have e2 : Int.tmod ((0 : Nat) : Int) 2 = 0 := by decide
    simp (disch := omega) only [C.impl_beyond, splice, e1, e2, ↓SXd, SXu, slBounds, ↓sop, ↓aop, ↓reduceIte, LV.cells, AOp.dst, LV.I, LV.B, LV.U, LV.S, LV.nil, Nat.reduceEqDiff, Nat.reduceAdd, Nat.reduceMul, Nat.reduceSub, Nat.reduceLeDiff, Nat.reduceBEq, Nat.reduceDiv, Nat.reduceMod, Int.reduceToNat, Int.reduceLT, Int.reduceLE, Int.reduceAdd, Int.reduceSub, Int.reduceMul, Int.reduceEq, Int.reduceNeg, reduceCtorEq, resV, resAll, ARes.ev, LV.flat, ite_true, ite_false, exists_eq_left', exists_eq_left, keyOf, implies_true, fillC, capOf]
    rw [show nbC c 0 = ⟨c.a + -1, c.b, c.c⟩ by rw [cell_eq]; simp [nbC]]
    exact cmp_drop rfl
  · have e1 : IntKind.i64.wrap (Int.tdiv ((1 : Nat) : Int) 2) = 0 := by decide
    have e2 : Int.tmod ((1 : Nat) : Int) 2 = 1 := by decide
    simp (disch := omega) only [C.impl_beyond, splice, e1, e2, ↓SXd, SXu, slBounds, ↓sop, ↓aop, ↓reduceIte, LV.cells, AOp.dst, LV.I, LV.B, LV.U, LV.S, LV.nil, Nat.reduceEqDiff, Nat.reduceAdd, Nat.reduceMul, Nat.reduceSub, Nat.reduceLeDiff, Nat.reduceBEq, Nat.reduceDiv, Nat.reduceMod, Int.reduceToNat, Int.reduceLT, Int.reduceLE, Int.reduceAdd, Int.reduceSub, Int.reduceMul, Int.reduceEq, Int.reduceNeg, reduceCtorEq, resV, resAll, ARes.ev, LV.flat, ite_true, ite_false, exists_eq_left', exists_eq_left, keyOf, implies_true, fillC, capOf]
    rw [show nbC c 1 = ⟨c.a + 1, c.b, c.c⟩ by rw [cell_eq]; simp [nbC]]
    exact cmp_drop rfl
  · have e1 : IntKind.i64.wrap (Int.tdiv ((2 : Nat) : Int) 2) = 1 := by decide
    have e2 : Int.tmod ((2 : Nat) : Int) 2 = 0 := by decide
    simp (disch := omega) only [C.impl_beyond, splice, e1, e2, ↓SXd, SXu, slBounds, ↓sop, ↓aop, ↓reduceIte, LV.cells, AOp.dst, LV.I, LV.B, LV.U, LV.S, LV.nil, Nat.reduceEqDiff, Nat.reduceAdd, Nat.reduceMul, Nat.reduceSub, Nat.reduceLeDiff, Nat.reduceBEq, Nat.reduceDiv, Nat.reduceMod, Int.reduceToNat, Int.reduceLT, Int.reduceLE, Int.reduceAdd, Int.reduceSub, Int.reduceMul, Int.reduceEq, Int.reduceNeg, reduceCtorEq, resV, resAll, ARes.ev, LV.flat, ite_true, ite_false, exists_eq_left', exists_eq_left, keyOf, implies_true, fillC, capOf]
    rw [show nbC c 2 = ⟨c.a, c.b + -1, c.c⟩ by rw [cell_eq]; simp [nbC]]
    exact cmp_drop rfl
  · have e1 : IntKind.i64.wrap (Int.tdiv ((3 : Nat) : Int) 2) = 1 := by decide
    have e2 : Int.tmod ((3 : Nat) : Int) 2 = 1 := by decide
    simp (disch := omega) only [C.impl_beyond, splice, e1, e2, ↓SXd, SXu, slBounds, ↓sop, ↓aop, ↓reduceIte, LV.cells, AOp.dst, LV.I, LV.B, LV.U, LV.S, LV.nil, Nat.reduceEqDiff, Nat.reduceAdd, Nat.reduceMul, Nat.reduceSub, Nat.reduceLeDiff, Nat.reduceBEq, Nat.reduceDiv, Nat.reduceMod, Int.reduceToNat, Int.reduceLT, Int.reduceLE, Int.reduceAdd, Int.reduceSub, Int.reduceMul, Int.reduceEq, Int.reduceNeg, reduceCtorEq, resV, resAll, ARes.ev, LV.flat, ite_true, ite_false, exists_eq_left', exists_eq_left, keyOf, implies_true, fillC, capOf]
    rw [show nbC c 3 = ⟨c.a, c.b + 1, c.c⟩ by rw [cell_eq]; simp [nbC]]
    exact cmp_drop rfl
  · have e1 : IntKind.i64.wrap (Int.tdiv ((4 : Nat) : Int) 2) = 2 := by decide
    have e2 : Int.tmod ((4 : Nat) : Int) 2 = 0 := by decide
    simp (disch := omega) only [C.impl_beyond, splice, e1, e2, ↓SXd, SXu, slBounds, ↓sop, ↓aop, ↓reduceIte, LV.cells, AOp.dst, LV.I, LV.B, LV.U, LV.S, LV.nil, Nat.reduceEqDiff, Nat.reduceAdd, Nat.reduceMul, Nat.reduceSub, Nat.reduceLeDiff, Nat.reduceBEq, Nat.reduceDiv, Nat.reduceMod, Int.reduceToNat, Int.reduceLT, Int.reduceLE, Int.reduceAdd, Int.reduceSub, Int.reduceMul, Int.reduceEq, Int.reduceNeg, reduceCtorEq, resV, resAll, ARes.ev, LV.flat, ite_true, ite_false, exists_eq_left', exists_eq_left, keyOf, implies_true, fillC, capOf]
    rw [show nbC c 4 = ⟨c.a, c.b, c.c + -1⟩ by rw [cell_eq]; simp [nbC]]
    exact cmp_drop rfl
  · have e1 : IntKind.i64.wrap (Int.tdiv ((5 : Nat) : Int) 2) = 2 := by decide
    have e2 : Int.tmod ((5 : Nat) : Int) 2 = 1 := by decide
    simp (disch := omega) only [C.impl_beyond, splice, e1, e2, ↓SXd, SXu, slBounds, ↓sop, ↓aop, ↓reduceIte, LV.cells, AOp.dst, LV.I, LV.B, LV.U, LV.S, LV.nil, Nat.reduceEqDiff, Nat.reduceAdd, Nat.reduceMul, Nat.reduceSub, Nat.reduceLeDiff, Nat.reduceBEq, Nat.reduceDiv, Nat.reduceMod, Int.reduceToNat, Int.reduceLT, Int.reduceLE, Int.reduceAdd, Int.reduceSub, Int.reduceMul, Int.reduceEq, Int.reduceNeg, reduceCtorEq, resV, resAll, ARes.ev, LV.flat, ite_true, ite_false, exists_eq_left', exists_eq_left, keyOf, implies_true, fillC, capOf]
    rw [show nbC c 5 = ⟨c.a, c.b, c.c + 1⟩ by rw [cell_eq]; simp [nbC]]
    exact cmp_drop rfl
theorem g_isBare {x y z : Int} {t o : Nat} {cs : List Cell} {d : Cell} {M : Mem} (h : Tri M t o cs) (hH : HeapOK x y z cs) :
    CallsTo PG F.impl_Heap_isBare [.agg [.I x, .I y, .I z, .ref t o cs.length], .agg [.I d.a, .I d.b, .I d.c]] M (.B (decide (d ∉ cs))) M := by
  have hlen := hH.len
  refine calls_run K.impl_Heap_isBare rfl ?_
  simp (disch := omega) only [C.impl_Heap_isBare, ↓SXd, SXu, slBounds, ↓sop, ↓aop, ↓reduceIte, LV.cells, AOp.dst, LV.I, LV.B, LV.U, LV.S, LV.nil, Nat.reduceEqDiff, Nat.reduceAdd, Nat.reduceMul, Nat.reduceSub, Nat.reduceLeDiff, Nat.reduceBEq, Nat.reduceDiv, Nat.reduceMod, Int.reduceToNat, Int.reduceLT, Int.reduceLE, Int.reduceAdd, Int.reduceSub, Int.reduceMul, Int.reduceEq, Int.reduceNeg, reduceCtorEq, resV, resAll, ARes.ev, LV.flat, ite_true, ite_false, exists_eq_left', exists_eq_left, keyOf, implies_true, fillC, capOf]
  refine callK_of (g_box) ?_
  simp (disch := omega) only [↓SXd, SXu, slBounds, ↓sop, ↓aop, ↓reduceIte, LV.cells, AOp.dst, LV.I, LV.B, LV.U, LV.S, LV.nil, Nat.reduceEqDiff, Nat.reduceAdd, Nat.reduceMul, Nat.reduceSub, Nat.reduceLeDiff, Nat.reduceBEq, Nat.reduceDiv, Nat.reduceMod, Int.reduceToNat, Int.reduceLT, Int.reduceLE, Int.reduceAdd, Int.reduceSub, Int.reduceMul, Int.reduceEq, Int.reduceNeg, reduceCtorEq, resV, resAll, ARes.ev, LV.flat, ite_true, ite_false, exists_eq_left', exists_eq_left, keyOf, implies_true, fillC, capOf]
  refine callK_of (g_has hH.1) ?_
  simp (disch := omega) only [↓SXd, SXu, slBounds, ↓sop, ↓aop, ↓reduceIte, LV.cells, AOp.dst, LV.I, LV.B, LV.U, LV.S, LV.nil, Nat.reduceEqDiff, Nat.reduceAdd, Nat.reduceMul, Nat.reduceSub, Nat.reduceLeDiff, Nat.reduceBEq, Nat.reduceDiv, Nat.reduceMod, Int.reduceToNat, Int.reduceLT, Int.reduceLE, Int.reduceAdd, Int.reduceSub, Int.reduceMul, Int.reduceEq, Int.reduceNeg, reduceCtorEq, resV, resAll, ARes.ev, LV.flat, ite_true, ite_false, exists_eq_left', exists_eq_left, keyOf, implies_true, fillC, capOf]
  rw [cell_eta]
  by_cases hin : d.inBox x y z
  · rw [decide_eq_true hin]
    simp (disch := omega) only [↓SXd, SXu, slBounds, ↓sop, ↓aop, ↓reduceIte, LV.cells, AOp.dst, LV.I, LV.B, LV.U, LV.S, LV.nil, Nat.reduceEqDiff, Nat.reduceAdd, Nat.reduceMul, Nat.reduceSub, Nat.reduceLeDiff, Nat.reduceBEq, Nat.reduceDiv, Nat.reduceMod, Int.reduceToNat, Int.reduceLT, Int.reduceLE, Int.reduceAdd, Int.reduceSub, Int.reduceMul, Int.reduceEq, Int.reduceNeg, reduceCtorEq, resV, resAll, ARes.ev, LV.flat, ite_true, ite_false, exists_eq_left', exists_eq_left, keyOf, implies_true, fillC, capOf]
    refine callK_of (g_hasCube h.app (by omega) hH.1 (fun c hc => hH.mem hc) hin) ?_
    by_cases hm : d ∈ cs
    · rw [decide_eq_true hm, decide_eq_false (show ¬ (d ∉ cs) from fun e => e hm)]
      simp (disch := omega) only [↓SXd, SXu, slBounds, ↓sop, ↓aop, ↓reduceIte, LV.cells, AOp.dst, LV.I, LV.B, LV.U, LV.S, LV.nil, Nat.reduceEqDiff, Nat.reduceAdd, Nat.reduceMul, Nat.reduceSub, Nat.reduceLeDiff, Nat.reduceBEq, Nat.reduceDiv, Nat.reduceMod, Int.reduceToNat, Int.reduceLT, Int.reduceLE, Int.reduceAdd, Int.reduceSub, Int.reduceMul, Int.reduceEq, Int.reduceNeg, reduceCtorEq, resV, resAll, ARes.ev, LV.flat, ite_true, ite_false, exists_eq_left', exists_eq_left, keyOf, implies_true, fillC, capOf]
      exact cmp_drop rfl
    · rw [decide_eq_false hm, decide_eq_true (show d ∉ cs from hm)]
      simp (disch := omega) only [↓SXd, SXu, slBounds, ↓sop, ↓aop, ↓reduceIte, LV.cells, AOp.dst, LV.I, LV.B, LV.U, LV.S, LV.nil, Nat.reduceEqDiff, Nat.reduceAdd, Nat.reduceMul, Nat.reduceSub, Nat.reduceLeDiff, Nat.reduceBEq, Nat.reduceDiv, Nat.reduceMod, Int.reduceToNat, Int.reduceLT, Int.reduceLE, Int.reduceAdd, Int.reduceSub, Int.reduceMul, Int.reduceEq, Int.reduceNeg, reduceCtorEq, resV, resAll, ARes.ev, LV.flat, ite_true, ite_false, exists_eq_left', exists_eq_left, keyOf, implies_true, fillC, capOf]
      exact cmp_drop rfl
  · rw [decide_eq_false hin, decide_eq_true (show d ∉ cs from fun e => hin (hH.mem e))]
    simp (disch := omega) only [↓SXd, SXu, slBounds, ↓sop, ↓aop, ↓reduceIte, LV.cells, AOp.dst, LV.I, LV.B, LV.U, LV.S, LV.nil, Nat.reduceEqDiff, Nat.reduceAdd, Nat.reduceMul, Nat.reduceSub, Nat.reduceLeDiff, Nat.reduceBEq, Nat.reduceDiv, Nat.reduceMod, Int.reduceToNat, Int.reduceLT, Int.reduceLE, Int.reduceAdd, Int.reduceSub, Int.reduceMul, Int.reduceEq, Int.reduceNeg, reduceCtorEq, resV, resAll, ARes.ev, LV.flat, ite_true, ite_false, exists_eq_left', exists_eq_left, keyOf, implies_true, fillC, capOf]
    exact cmp_drop rfl
def cntR (cs : List Cell) (i d f : Nat) : Nat := (cs.take i).countP (fun c => decide (nbC c f ∉ cs)) + if f < d ∧ nbC (cs.getD i default) f ∉ cs then 1 else 0
def rowF (cs : List Cell) (i d : Nat) : List LV := (List.range 6).map fun (f : Nat) => LV.I ((cntR cs i d f : Nat) : Int)
theorem rowF_len {cs : List Cell} {i d : Nat} : (rowF cs i d).length = 6 := by simp [rowF]
theorem rowF_get {cs : List Cell} {i d f : Nat} (hf : f < 6) : (rowF cs i d)[f]? = some (.I ((cntR cs i d f : Nat) : Int)) := by simp [rowF, hf]
theorem cntR_le {cs : List Cell} {i d f : Nat} : cntR cs i d f ≤ cs.length + 1 := by
  unfold cntR
  have h1 := List.countP_le_length (p := fun c => decide (nbC c f ∉ cs)) (l := cs.take i)
  have h2 := List.length_take_le i cs
  have h3 := List.length_take_le' i cs
  split <;> omega
theorem rowF_no {cs : List Cell} {i d : Nat} (hb : ¬ (nbC (cs.getD i default) d ∉ cs)) : rowF cs i d = rowF cs i (d + 1) := by
  unfold rowF
  refine List.map_congr_left fun f _ => congrArg (fun n : Nat => LV.I (n : Int)) ?_
  unfold cntR
  refine congrArg _ ?_
  by_cases e : f = d
  · subst e
    rw [if_neg (by omega), if_neg (fun h => hb h.2)]
  · by_cases h : nbC (cs.getD i default) f ∉ cs
    · by_cases hd : f < d
      · rw [if_pos ⟨hd, h⟩, if_pos ⟨by omega, h⟩]
      · rw [if_neg (fun k => hd k.1), if_neg (fun k => by omega)]
    · rw [if_neg (fun k => h k.2), if_neg (fun k => h k.2)]
theorem rowF_yes {cs : List Cell} {i d : Nat} (hd : d < 6) (hb : nbC (cs.getD i default) d ∉ cs) : (rowF cs i d).set d (.I (((cntR cs i d d : Nat) : Int) + 1)) = rowF cs i (d + 1) := by
  apply List.ext_getElem?
  intro f
  rw [List.getElem?_set, rowF_len]
  by_cases e : d = f
  · subst e
    rw [if_pos rfl, if_pos hd, rowF_get hd]
    congr 2
    unfold cntR
    rw [if_neg (fun k => by omega), if_pos ⟨by omega, hb⟩]
    omega
  · rw [if_neg e]
    by_cases hf : f < 6
    · rw [rowF_get hf, rowF_get hf]
      refine congrArg (fun n : Nat => some (LV.I (n : Int))) ?_
      unfold cntR
      refine congrArg _ ?_
      by_cases h : nbC (cs.getD i default) f ∉ cs
      · by_cases hd : f < d
        · rw [if_pos ⟨hd, h⟩, if_pos ⟨by omega, h⟩]
        · rw [if_neg (fun k => hd k.1), if_neg (fun k => by omega)]
      · rw [if_neg (fun k => h k.2), if_neg (fun k => h k.2)]
    · rw [List.getElem?_eq_none (by rw [rowF_len]; omega), List.getElem?_eq_none (by rw [rowF_len]; omega)]
theorem rowF_next {cs : List Cell} {i : Nat} (hi : i < cs.length) : rowF cs i 6 = rowF cs (i + 1) 0 := by
  unfold rowF
  refine List.map_congr_left fun f hf => ?_
  have hf := List.mem_range.1 hf
  refine congrArg (fun n : Nat => LV.I (n : Int)) ?_
  unfold cntR
  rw [List.take_succ, List.getElem?_eq_getElem hi, Option.toList_some, List.countP_append, List.countP_singleton]
  have e : cs.getD i default = cs[i] := by simp [hi]
  rw [e, if_neg (show ¬ (f < 0 ∧ nbC (cs.getD (i + 1) default) f ∉ cs) from fun k => by omega)]
  by_cases h : nbC cs[i] f ∉ cs
  · rw [if_pos ⟨hf, h⟩, if_pos (decide_eq_true h)]
  · rw [if_neg (fun k => h k.2), if_neg (by simpa using h)]
theorem rowF_end {cs : List Cell} : rowF cs cs.length 0 = (List.range 6).map fun (f : Nat) => LV.I ((faceN cs f : Nat) : Int) := by
  unfold rowF
  refine List.map_congr_left fun f _ => congrArg (fun n : Nat => LV.I (n : Int)) ?_
  unfold cntR faceN
  rw [List.take_length, if_neg (fun k => by omega)]; rfl
theorem g_bareFaces {x y z : Int} {t : Nat} {w : Bool} {cs : List Cell} {M : Mem} (h : Live M t (.row (triL cs) w 3)) (hH : HeapOK x y z cs) :
    CallsTo PG F.impl_Heap_bareFaces [.agg [.I x, .I y, .I z, .ref t 0 cs.length]] M (.agg [.I (faceN cs 0 : Nat), .I (faceN cs 1 : Nat), .I (faceN cs 2 : Nat), .I (faceN cs 3 : Nat), .I (faceN cs 4 : Nat), .I (faceN cs 5 : Nat)]) M := by
  have hlen := hH.len
  have hS := hH.1
  obtain ⟨⟨_, _⟩, ⟨_, _⟩, ⟨_, _⟩⟩ := id hS
  refine calls_run K.impl_Heap_bareFaces rfl ?_
  simp (disch := omega) only [C.impl_Heap_bareFaces, splice, ↓SXd, SXu, slBounds, ↓sop, ↓aop, ↓reduceIte, LV.cells, AOp.dst, LV.I, LV.B, LV.U, LV.S, LV.nil, Nat.reduceEqDiff, Nat.reduceAdd, Nat.reduceMul, Nat.reduceSub, Nat.reduceLeDiff, Nat.reduceBEq, Nat.reduceDiv, Nat.reduceMod, Int.reduceToNat, Int.reduceLT, Int.reduceLE, Int.reduceAdd, Int.reduceSub, Int.reduceMul, Int.reduceEq, Int.reduceNeg, reduceCtorEq, resV, resAll, ARes.ev, LV.flat, ite_true, ite_false, exists_eq_left', exists_eq_left, keyOf, implies_true, fillC, capOf]
  refine ev_loop (fun m fr M' => ∃ i : Nat, i + m = cs.length ∧ Pre M M' ∧ M.length + 3 ≤ M'.length ∧ Live M' M.length (.row [.I x, .I y, .I z, .ref t 0 cs.length] true 0) ∧ Live M' (M.length + 1) (.row [.I 0, .I 0, .I 0, .I 0, .I 0, .I 0] true 0) ∧ Live M' (M.length + 2) (.row (rowF cs i 0) true 0) ∧
    fr 1 = .ptr M.length 0 ∧ fr 2 = .ptr (M.length + 1) 0 ∧ fr 3 = .ptr (M.length + 2) 0 ∧ fr 9 = .ref t 0 cs.length ∧ fr 10 = .I cs.length ∧ fr 11 = .I i) cs.length
    ⟨0, by omega, Pre.app _ _, by simp, Live.new, Live.newj rfl, Live.newj rfl, rfl, rfl, rfl, rfl, rfl, rfl⟩ ?_
  rintro m fr M' ⟨i, hi, hpre, hM', b1, b2, b3, f1, f2, f3, f9, f10, f11⟩
  simp (disch := omega) only [f1, f2, f3, f9, f10, f11, ↓SXd, SXu, slBounds, ↓sop, ↓aop, ↓reduceIte, LV.cells, AOp.dst, LV.I, LV.B, LV.U, LV.S, LV.nil, Nat.reduceEqDiff, Nat.reduceAdd, Nat.reduceMul, Nat.reduceSub, Nat.reduceLeDiff, Nat.reduceBEq, Nat.reduceDiv, Nat.reduceMod, Int.reduceToNat, Int.reduceLT, Int.reduceLE, Int.reduceAdd, Int.reduceSub, Int.reduceMul, Int.reduceEq, Int.reduceNeg, reduceCtorEq, resV, resAll, ARes.ev, LV.flat, ite_true, ite_false, exists_eq_left', exists_eq_left, keyOf, implies_true, fillC, capOf]
  refine condC_dec (fun hlt => ?_) (fun hlt => ?_)
  · have hil : i < cs.length := by omega
    have hg := (h.pre hpre).tri0 hil
    have hci := hH.mem (getD_mem' (d := default) hil)
    have hrn := rowF_next hil
    have hno := fun d => rowF_no (cs := cs) (i := i) (d := d)
    have hyes := fun d => rowF_yes (cs := cs) (i := i) (d := d)
    generalize hc : cs.getD i default = c at hg hci hno hyes
    obtain ⟨⟨_, _⟩, ⟨_, _⟩, ⟨_, _⟩⟩ := id hci
    simp (disch := omega) only [f1, f2, f3, f9, f10, f11, hg, Cell.row, splice, ↓SXd, SXu, slBounds, ↓sop, ↓aop, ↓reduceIte, LV.cells, AOp.dst, LV.I, LV.B, LV.U, LV.S, LV.nil, Nat.reduceEqDiff, Nat.reduceAdd, Nat.reduceMul, Nat.reduceSub, Nat.reduceLeDiff, Nat.reduceBEq, Nat.reduceDiv, Nat.reduceMod, Int.reduceToNat, Int.reduceLT, Int.reduceLE, Int.reduceAdd, Int.reduceSub, Int.reduceMul, Int.reduceEq, Int.reduceNeg, reduceCtorEq, resV, resAll, ARes.ev, LV.flat, ite_true, ite_false, exists_eq_left', exists_eq_left, keyOf, implies_true, fillC, capOf]
    refine ev_loop (fun m2 fr N => ∃ d : Nat, d + m2 = 6 ∧ Pre M N ∧ M'.length < N.length ∧ Live N M'.length (.row c.row true 0) ∧ Live N M.length (.row [.I x, .I y, .I z, .ref t 0 cs.length] true 0) ∧ Live N (M.length + 1) (.row [.I 0, .I 0, .I 0, .I 0, .I 0, .I 0] true 0) ∧ Live N (M.length + 2) (.row (rowF cs i d) true 0) ∧
      fr 1 = .ptr M.length 0 ∧ fr 2 = .ptr (M.length + 1) 0 ∧ fr 3 = .ptr (M.length + 2) 0 ∧ fr 9 = .ref t 0 cs.length ∧ fr 10 = .I cs.length ∧ fr 11 = .I i ∧ fr 5 = .ptr M'.length 0 ∧ fr 15 = .I d) 6
      ⟨0, rfl, hpre.trans (Pre.app _ _), by simp, Live.new, b1.app, b2.app, b3.app, f1, f2, f3, f9, f10, f11, rfl, rfl⟩ ?_
    clear f1 f2 f3 f9 f10 f11 hg b1 b2 b3 hpre
    rintro m2 fr N ⟨d, hd, hpre, hN, b5, b1, b2, b3, f1, f2, f3, f9, f10, f11, f5, f15⟩
    simp (disch := omega) only [f1, f2, f3, f9, f10, f11, f5, f15, ↓SXd, SXu, slBounds, ↓sop, ↓aop, ↓reduceIte, LV.cells, AOp.dst, LV.I, LV.B, LV.U, LV.S, LV.nil, Nat.reduceEqDiff, Nat.reduceAdd, Nat.reduceMul, Nat.reduceSub, Nat.reduceLeDiff, Nat.reduceBEq, Nat.reduceDiv, Nat.reduceMod, Int.reduceToNat, Int.reduceLT, Int.reduceLE, Int.reduceAdd, Int.reduceSub, Int.reduceMul, Int.reduceEq, Int.reduceNeg, reduceCtorEq, resV, resAll, ARes.ev, LV.flat, ite_true, ite_false, exists_eq_left', exists_eq_left, keyOf, implies_true, fillC, capOf]
    refine condC_dec (fun hlt2 => ?_) (fun hlt2 => ?_)
    · have hd6 : d < 6 := by omega
      have hT : Tri N t 0 cs := (h.pre hpre).has
      simp (disch := omega) only [f1, f2, f3, f9, f10, f11, f5, f15, b1.cells, b5.cells, Cell.row, ↓SXd, SXu, slBounds, ↓sop, ↓aop, ↓reduceIte, LV.cells, AOp.dst, LV.I, LV.B, LV.U, LV.S, LV.nil, Nat.reduceEqDiff, Nat.reduceAdd, Nat.reduceMul, Nat.reduceSub, Nat.reduceLeDiff, Nat.reduceBEq, Nat.reduceDiv, Nat.reduceMod, Int.reduceToNat, Int.reduceLT, Int.reduceLE, Int.reduceAdd, Int.reduceSub, Int.reduceMul, Int.reduceEq, Int.reduceNeg, reduceCtorEq, resV, resAll, ARes.ev, LV.flat, ite_true, ite_false, exists_eq_left', exists_eq_left, keyOf, implies_true, fillC, capOf]
      refine callK_of (g_beyond (c := c) ⟨by omega, by omega, by omega⟩ hd6) ?_
      simp (disch := omega) only [f1, f2, f3, f9, f10, f11, f5, f15, ↓SXd, SXu, slBounds, ↓sop, ↓aop, ↓reduceIte, LV.cells, AOp.dst, LV.I, LV.B, LV.U, LV.S, LV.nil, Nat.reduceEqDiff, Nat.reduceAdd, Nat.reduceMul, Nat.reduceSub, Nat.reduceLeDiff, Nat.reduceBEq, Nat.reduceDiv, Nat.reduceMod, Int.reduceToNat, Int.reduceLT, Int.reduceLE, Int.reduceAdd, Int.reduceSub, Int.reduceMul, Int.reduceEq, Int.reduceNeg, reduceCtorEq, resV, resAll, ARes.ev, LV.flat, ite_true, ite_false, exists_eq_left', exists_eq_left, keyOf, implies_true, fillC, capOf]
      refine callK_of (g_isBare hT hH) ?_
      simp (disch := omega) only [f1, f2, f3, f9, f10, f11, f5, f15, ↓SXd, SXu, slBounds, ↓sop, ↓aop, ↓reduceIte, LV.cells, AOp.dst, LV.I, LV.B, LV.U, LV.S, LV.nil, Nat.reduceEqDiff, Nat.reduceAdd, Nat.reduceMul, Nat.reduceSub, Nat.reduceLeDiff, Nat.reduceBEq, Nat.reduceDiv, Nat.reduceMod, Int.reduceToNat, Int.reduceLT, Int.reduceLE, Int.reduceAdd, Int.reduceSub, Int.reduceMul, Int.reduceEq, Int.reduceNeg, reduceCtorEq, resV, resAll, ARes.ev, LV.flat, ite_true, ite_false, exists_eq_left', exists_eq_left, keyOf, implies_true, fillC, capOf]
      by_cases hb : nbC c d ∉ cs
      · rw [decide_eq_true hb]
        have e3 := b3.cell (o := d)
        rw [rowF_get hd6] at e3
        have hle := cntR_le (cs := cs) (i := i) (d := d) (f := d)
        simp (disch := omega) only [f1, f2, f3, f9, f10, f11, f5, f15, e3, Nat.mul_one, Nat.zero_add, ↓SXd, SXu, slBounds, ↓sop, ↓aop, ↓reduceIte, LV.cells, AOp.dst, LV.I, LV.B, LV.U, LV.S, LV.nil, Nat.reduceEqDiff, Nat.reduceAdd, Nat.reduceMul, Nat.reduceSub, Nat.reduceLeDiff, Nat.reduceBEq, Nat.reduceDiv, Nat.reduceMod, Int.reduceToNat, Int.reduceLT, Int.reduceLE, Int.reduceAdd, Int.reduceSub, Int.reduceMul, Int.reduceEq, Int.reduceNeg, reduceCtorEq, resV, resAll, ARes.ev, LV.flat, ite_true, ite_false, exists_eq_left', exists_eq_left, keyOf, implies_true, fillC, capOf]
        refine memK_at b3 (show d < (rowF cs i d).length by rw [rowF_len]; exact hd6) fun N1 k1 k2 k3 => ?_
        rw [hyes d hd6 hb] at k2
        simp (disch := omega) only [f1, f2, f3, f9, f10, f11, f5, f15, ↓SXd, SXu, slBounds, ↓sop, ↓aop, ↓reduceIte, LV.cells, AOp.dst, LV.I, LV.B, LV.U, LV.S, LV.nil, Nat.reduceEqDiff, Nat.reduceAdd, Nat.reduceMul, Nat.reduceSub, Nat.reduceLeDiff, Nat.reduceBEq, Nat.reduceDiv, Nat.reduceMod, Int.reduceToNat, Int.reduceLT, Int.reduceLE, Int.reduceAdd, Int.reduceSub, Int.reduceMul, Int.reduceEq, Int.reduceNeg, reduceCtorEq, resV, resAll, ARes.ev, LV.flat, ite_true, ite_false, exists_eq_left', exists_eq_left, keyOf, implies_true, fillC, capOf]
        exact ⟨m2 - 1, by omega, d + 1, by omega, pre_step hpre (by omega) (j := 0) k1 k3, by omega, live_step b5 (by omega) k3, live_step b1 (by omega) k3, live_step b2 (by omega) k3, k2, f1, f2, f3, f9, f10, f11, f5, eqI (natI _)⟩
      · rw [decide_eq_false hb]
        rw [hno d hb] at b3
        simp (disch := omega) only [f1, f2, f3, f9, f10, f11, f5, f15, ↓SXd, SXu, slBounds, ↓sop, ↓aop, ↓reduceIte, LV.cells, AOp.dst, LV.I, LV.B, LV.U, LV.S, LV.nil, Nat.reduceEqDiff, Nat.reduceAdd, Nat.reduceMul, Nat.reduceSub, Nat.reduceLeDiff, Nat.reduceBEq, Nat.reduceDiv, Nat.reduceMod, Int.reduceToNat, Int.reduceLT, Int.reduceLE, Int.reduceAdd, Int.reduceSub, Int.reduceMul, Int.reduceEq, Int.reduceNeg, reduceCtorEq, resV, resAll, ARes.ev, LV.flat, ite_true, ite_false, exists_eq_left', exists_eq_left, keyOf, implies_true, fillC, capOf]
        exact ⟨m2 - 1, by omega, d + 1, by omega, hpre, hN, b5, b1, b2, b3, f1, f2, f3, f9, f10, f11, f5, eqI (natI _)⟩
    · have hd6 : d = 6 := by omega
      subst hd6
      rw [hrn] at b3
      simp (disch := omega) only [f1, f2, f3, f9, f10, f11, f5, f15, ↓SXd, SXu, slBounds, ↓sop, ↓aop, ↓reduceIte, LV.cells, AOp.dst, LV.I, LV.B, LV.U, LV.S, LV.nil, Nat.reduceEqDiff, Nat.reduceAdd, Nat.reduceMul, Nat.reduceSub, Nat.reduceLeDiff, Nat.reduceBEq, Nat.reduceDiv, Nat.reduceMod, Int.reduceToNat, Int.reduceLT, Int.reduceLE, Int.reduceAdd, Int.reduceSub, Int.reduceMul, Int.reduceEq, Int.reduceNeg, reduceCtorEq, resV, resAll, ARes.ev, LV.flat, ite_true, ite_false, exists_eq_left', exists_eq_left, keyOf, implies_true, fillC, capOf]
      exact ⟨m - 1, by omega, i + 1, by omega, hpre, by omega, b1, b2, b3, f1, f2, f3, f9, f10, eqI (natI _)⟩
  · have hil : i = cs.length := by omega
    subst hil
    rw [rowF_end] at b3
    have b3' : Live M' (M.length + 2) (.row [.I (faceN cs 0 : Nat), .I (faceN cs 1 : Nat), .I (faceN cs 2 : Nat), .I (faceN cs 3 : Nat), .I (faceN cs 4 : Nat), .I (faceN cs 5 : Nat)] true 0) := b3
    simp (disch := omega) only [f1, f2, f3, f9, f10, f11, b3'.cells, ↓SXd, SXu, slBounds, ↓sop, ↓aop, ↓reduceIte, LV.cells, AOp.dst, LV.I, LV.B, LV.U, LV.S, LV.nil, Nat.reduceEqDiff, Nat.reduceAdd, Nat.reduceMul, Nat.reduceSub, Nat.reduceLeDiff, Nat.reduceBEq, Nat.reduceDiv, Nat.reduceMod, Int.reduceToNat, Int.reduceLT, Int.reduceLE, Int.reduceAdd, Int.reduceSub, Int.reduceMul, Int.reduceEq, Int.reduceNeg, reduceCtorEq, resV, resAll, ARes.ev, LV.flat, ite_true, ite_false, exists_eq_left', exists_eq_left, keyOf, implies_true, fillC, capOf]
    refine memK_box b2 (by simp) fun N1 k1 k2 k3 => ?_
    simp (disch := omega) only [f1, f2, f3, f9, f10, f11, k2.cells, ↓SXd, SXu, slBounds, ↓sop, ↓aop, ↓reduceIte, LV.cells, AOp.dst, LV.I, LV.B, LV.U, LV.S, LV.nil, Nat.reduceEqDiff, Nat.reduceAdd, Nat.reduceMul, Nat.reduceSub, Nat.reduceLeDiff, Nat.reduceBEq, Nat.reduceDiv, Nat.reduceMod, Int.reduceToNat, Int.reduceLT, Int.reduceLE, Int.reduceAdd, Int.reduceSub, Int.reduceMul, Int.reduceEq, Int.reduceNeg, reduceCtorEq, resV, resAll, ARes.ev, LV.flat, ite_true, ite_false, exists_eq_left', exists_eq_left, keyOf, implies_true, fillC, capOf]
    exact cmp_pre (pre_step hpre (by omega) (j := 0) k1 k3) rfl
theorem faceN_le {cs : List Cell} {f : Nat} : faceN cs f ≤ cs.length := List.countP_le_length
/-- What SurfaceOf answers. -/
noncomputable def surfOf (x y z : Int) (cs : List Cell) : Option Nat := by
  classical
  exact if HeapOK x y z cs then some (surfN cs) else none
theorem g_SurfaceOf {x y z : Int} {t : Nat} {w : Bool} {cs : List Cell} {M : Mem} (h : Live M t (.row (triL cs) w 3)) (hn : cs.length ≤ 1000000000) :
    CallsTo PG F.impl_SurfaceOf [.agg [.I x, .I y, .I z, .ref t 0 cs.length]] M (.tup [.I ((surfOf x y z cs).getD 0 : Nat), .B (surfOf x y z cs).isSome]) M := by
  refine calls_run K.impl_SurfaceOf rfl ?_
  simp (disch := omega) only [C.impl_SurfaceOf, ↓SXd, SXu, slBounds, ↓sop, ↓aop, ↓reduceIte, LV.cells, AOp.dst, LV.I, LV.B, LV.U, LV.S, LV.nil, Nat.reduceEqDiff, Nat.reduceAdd, Nat.reduceMul, Nat.reduceSub, Nat.reduceLeDiff, Nat.reduceBEq, Nat.reduceDiv, Nat.reduceMod, Int.reduceToNat, Int.reduceLT, Int.reduceLE, Int.reduceAdd, Int.reduceSub, Int.reduceMul, Int.reduceEq, Int.reduceNeg, reduceCtorEq, resV, resAll, ARes.ev, LV.flat, ite_true, ite_false, exists_eq_left', exists_eq_left, keyOf, implies_true, fillC, capOf]
  refine callK_of (g_IsHeap (Has.app h.has) hn) ?_
  simp (disch := omega) only [↓SXd, SXu, slBounds, ↓sop, ↓aop, ↓reduceIte, LV.cells, AOp.dst, LV.I, LV.B, LV.U, LV.S, LV.nil, Nat.reduceEqDiff, Nat.reduceAdd, Nat.reduceMul, Nat.reduceSub, Nat.reduceLeDiff, Nat.reduceBEq, Nat.reduceDiv, Nat.reduceMod, Int.reduceToNat, Int.reduceLT, Int.reduceLE, Int.reduceAdd, Int.reduceSub, Int.reduceMul, Int.reduceEq, Int.reduceNeg, reduceCtorEq, resV, resAll, ARes.ev, LV.flat, ite_true, ite_false, exists_eq_left', exists_eq_left, keyOf, implies_true, fillC, capOf]
  by_cases hH : HeapOK x y z cs
  rotate_left
  · rw [show surfOf x y z cs = none from if_neg hH]
    simp (disch := omega) only [hH, ↓SXd, SXu, slBounds, ↓sop, ↓aop, ↓reduceIte, LV.cells, AOp.dst, LV.I, LV.B, LV.U, LV.S, LV.nil, Nat.reduceEqDiff, Nat.reduceAdd, Nat.reduceMul, Nat.reduceSub, Nat.reduceLeDiff, Nat.reduceBEq, Nat.reduceDiv, Nat.reduceMod, Int.reduceToNat, Int.reduceLT, Int.reduceLE, Int.reduceAdd, Int.reduceSub, Int.reduceMul, Int.reduceEq, Int.reduceNeg, reduceCtorEq, resV, resAll, ARes.ev, LV.flat, ite_true, ite_false, exists_eq_left', exists_eq_left, keyOf, implies_true, fillC, capOf]
    exact cmp_drop rfl
  rw [show surfOf x y z cs = some (surfN cs) from if_pos hH]
  have hlen := hH.len
  have l0 := faceN_le (cs := cs) (f := 0)
  have l1 := faceN_le (cs := cs) (f := 1)
  have l2 := faceN_le (cs := cs) (f := 2)
  have l3 := faceN_le (cs := cs) (f := 3)
  have l4 := faceN_le (cs := cs) (f := 4)
  have l5 := faceN_le (cs := cs) (f := 5)
  have hsum : surfN cs = faceN cs 0 + (faceN cs 1 + (faceN cs 2 + (faceN cs 3 + (faceN cs 4 + (faceN cs 5 + 0))))) := rfl
  simp (disch := omega) only [hH, ↓SXd, SXu, slBounds, ↓sop, ↓aop, ↓reduceIte, LV.cells, AOp.dst, LV.I, LV.B, LV.U, LV.S, LV.nil, Nat.reduceEqDiff, Nat.reduceAdd, Nat.reduceMul, Nat.reduceSub, Nat.reduceLeDiff, Nat.reduceBEq, Nat.reduceDiv, Nat.reduceMod, Int.reduceToNat, Int.reduceLT, Int.reduceLE, Int.reduceAdd, Int.reduceSub, Int.reduceMul, Int.reduceEq, Int.reduceNeg, reduceCtorEq, resV, resAll, ARes.ev, LV.flat, ite_true, ite_false, exists_eq_left', exists_eq_left, keyOf, implies_true, fillC, capOf]
  refine callK_of (g_bareFaces h.app hH) ?_
  simp (disch := omega) only [↓SXd, SXu, slBounds, ↓sop, ↓aop, ↓reduceIte, LV.cells, AOp.dst, LV.I, LV.B, LV.U, LV.S, LV.nil, Nat.reduceEqDiff, Nat.reduceAdd, Nat.reduceMul, Nat.reduceSub, Nat.reduceLeDiff, Nat.reduceBEq, Nat.reduceDiv, Nat.reduceMod, Int.reduceToNat, Int.reduceLT, Int.reduceLE, Int.reduceAdd, Int.reduceSub, Int.reduceMul, Int.reduceEq, Int.reduceNeg, reduceCtorEq, resV, resAll, ARes.ev, LV.flat, ite_true, ite_false, exists_eq_left', exists_eq_left, keyOf, implies_true, fillC, capOf]
  generalize faceN cs 0 = n0 at l0 hsum ⊢
  generalize faceN cs 1 = n1 at l1 hsum ⊢
  generalize faceN cs 2 = n2 at l2 hsum ⊢
  generalize faceN cs 3 = n3 at l3 hsum ⊢
  generalize faceN cs 4 = n4 at l4 hsum ⊢
  generalize faceN cs 5 = n5 at l5 hsum ⊢
  refine ev_loop (fun m fr M' => ∃ d : Nat, d + m = 6 ∧ Pre M M' ∧ fr 4 = .I ((([n0, n1, n2, n3, n4, n5].take d).sum : Nat) : Int) ∧ fr 11 = .agg [.I n0, .I n1, .I n2, .I n3, .I n4, .I n5] ∧ fr 12 = .I d) 6
    ⟨0, rfl, Pre.app _ _, rfl, rfl, rfl⟩ ?_
  rintro m fr M' ⟨d, hd, hpre, f4, f11, f12⟩
  simp (disch := omega) only [f4, f11, f12, ↓SXd, SXu, slBounds, ↓sop, ↓aop, ↓reduceIte, LV.cells, AOp.dst, LV.I, LV.B, LV.U, LV.S, LV.nil, Nat.reduceEqDiff, Nat.reduceAdd, Nat.reduceMul, Nat.reduceSub, Nat.reduceLeDiff, Nat.reduceBEq, Nat.reduceDiv, Nat.reduceMod, Int.reduceToNat, Int.reduceLT, Int.reduceLE, Int.reduceAdd, Int.reduceSub, Int.reduceMul, Int.reduceEq, Int.reduceNeg, reduceCtorEq, resV, resAll, ARes.ev, LV.flat, ite_true, ite_false, exists_eq_left', exists_eq_left, keyOf, implies_true, fillC, capOf]
  refine condC_dec (fun hlt => ?_) (fun hlt => ?_)
  · have hd6 : d < 6 := by omega
    have e0 : [LV.I n0, .I n1, .I n2, .I n3, .I n4, .I n5][d]? = some (.I (([n0, n1, n2, n3, n4, n5].getD d 0 : Nat) : Int)) := by
      rcases (show d = 0 ∨ d = 1 ∨ d = 2 ∨ d = 3 ∨ d = 4 ∨ d = 5 by omega) with rfl | rfl | rfl | rfl | rfl | rfl <;> rfl
    have e1 : ([n0, n1, n2, n3, n4, n5].take (d + 1)).sum = ([n0, n1, n2, n3, n4, n5].take d).sum + [n0, n1, n2, n3, n4, n5].getD d 0 ∧ ([n0, n1, n2, n3, n4, n5].take (d + 1)).sum ≤ 1000 := by
      rcases (show d = 0 ∨ d = 1 ∨ d = 2 ∨ d = 3 ∨ d = 4 ∨ d = 5 by omega) with rfl | rfl | rfl | rfl | rfl | rfl <;> simp <;> omega
    generalize [n0, n1, n2, n3, n4, n5].getD d 0 = nd at e0 e1
    simp (disch := omega) only [f4, f11, f12, e0, Nat.mul_one, Nat.zero_add, ↓SXd, SXu, slBounds, ↓sop, ↓aop, ↓reduceIte, LV.cells, AOp.dst, LV.I, LV.B, LV.U, LV.S, LV.nil, Nat.reduceEqDiff, Nat.reduceAdd, Nat.reduceMul, Nat.reduceSub, Nat.reduceLeDiff, Nat.reduceBEq, Nat.reduceDiv, Nat.reduceMod, Int.reduceToNat, Int.reduceLT, Int.reduceLE, Int.reduceAdd, Int.reduceSub, Int.reduceMul, Int.reduceEq, Int.reduceNeg, reduceCtorEq, resV, resAll, ARes.ev, LV.flat, ite_true, ite_false, exists_eq_left', exists_eq_left, keyOf, implies_true, fillC, capOf]
    exact ⟨m - 1, by omega, d + 1, by omega, hpre, eqI (by omega), f11, eqI (natI _)⟩
  · have hd6 : d = 6 := by omega
    subst hd6
    have e1 : ([n0, n1, n2, n3, n4, n5].take 6).sum = surfN cs := by rw [hsum]; rfl
    rw [e1] at f4
    simp (disch := omega) only [f4, f11, f12, ↓SXd, SXu, slBounds, ↓sop, ↓aop, ↓reduceIte, LV.cells, AOp.dst, LV.I, LV.B, LV.U, LV.S, LV.nil, Nat.reduceEqDiff, Nat.reduceAdd, Nat.reduceMul, Nat.reduceSub, Nat.reduceLeDiff, Nat.reduceBEq, Nat.reduceDiv, Nat.reduceMod, Int.reduceToNat, Int.reduceLT, Int.reduceLE, Int.reduceAdd, Int.reduceSub, Int.reduceMul, Int.reduceEq, Int.reduceNeg, reduceCtorEq, resV, resAll, ARes.ev, LV.flat, ite_true, ite_false, exists_eq_left', exists_eq_left, keyOf, implies_true, fillC, capOf]
    exact cmp_pre hpre rfl
end Go.Ab

/- The abstract code of some functions (written by a program of mine from the translation, by way of prepF). -/
namespace Go.Ab.C
open Go.Ab
def spec_FillCavities : AFn :=
 ⟨1, 28, [.cellN 2 4, .tmp 3],
 .seq (.ops [(none, .box 1 (.t 0)),
 (none, .alloc 2 [(.I 0), (.I 0), (.I 0), .nil]),
 (none, .mv 3 (.c (.B false)))])
 (.seq (.seq (.ops [(none, .loadN 7 4 (.t 1)),
 (none, .call (some 8) F.spec_l2Heap [(.t 7)]),
 (none, .un 9 .not (.t 8))])
 (.cond (.t 9) (.seq (.ops [(none, .build 10 [(.I 0), (.I 0), (.I 0), .nil] []),
 (none, .store 4 (.t 2) (.t 10)),
 (none, .mv 3 (.c (.B false)))])
 (.ret))
 (.skip)))
 (.seq (.draw [⟨(none, .loadN 11 4 (.t 1)), [], []⟩,
 ⟨(none, .loadN 13 4 (.t 1)), [], []⟩,
 ⟨(none, .alloc 4 [(.I 0), (.I 0), (.I 0), .nil]), [], []⟩,
 ⟨(none, .call (some 12) F.spec_l2Own [(.t 11)]), [2], [1]⟩,
 ⟨(none, .call (some 14) F.spec_l6Enclosed [(.t 13)]), [2], []⟩,
 ⟨(none, .store 4 (.t 4) (.t 12)), [], []⟩,
 ⟨(none, .mv 5 (.t 14)), [], []⟩])
 (.seq (.seq (.ops [(none, .mv 6 (.c (.I 0)))])
 (.block 0 (.loop (.seq (.seq (.ops [(none, .mv 15 (.t 6)),
 (none, .mv 16 (.t 5)),
 (none, .len 17 (.t 16)),
 (none, .bin 18 .lss (.t 15) (.t 17))])
 (.cond (.t 18) (.skip)
 (.exit 0)))
 (.seq (.block 1 (.draw [⟨(none, .loadN 21 4 (.t 4)), [], []⟩,
 ⟨(none, .mv 22 (.t 5)), [], []⟩,
 ⟨(none, .mv 23 (.t 6)), [], []⟩,
 ⟨(none, .idxS 24 3 (.t 22) (.t 23)), [], []⟩,
 ⟨(none, .loadN 25 3 (.t 24)), [], []⟩,
 ⟨(none, .call (some 26) F.spec_l2With [(.t 21), (.t 25)]), [], []⟩,
 ⟨(none, .store 4 (.t 4) (.t 26)), [], []⟩]))
 (.ops [(none, .mv 19 (.t 6)),
 (none, .bin 20 .add (.t 19) (.c (.I 1))),
 (none, .mv 6 (.t 20))]))))))
 (.seq (.ops [(none, .loadN 27 4 (.t 4)),
 (none, .store 4 (.t 2) (.t 27)),
 (none, .mv 3 (.c (.B true)))])
 (.ret)))))⟩
end Go.Ab.C

/- That the program has this code. -/
namespace Go.Ab.K
open Go Go.Ab
theorem spec_FillCavities : prepF Go.Proofs.Try.prog F.spec_FillCavities = some C.spec_FillCavities := by kernel_rfl
end Go.Ab.K

/- Contracts: the reference's FillCavities. -/
namespace Go.Ab
open Go
set_option linter.unusedSimpArgs false
set_option linter.unusedVariables false

theorem h_sFillCavities {x y z : Int} {t : Nat} {w : Bool} {cs : List Cell} {M : Mem} (h : Live M t (.row (triL cs) w 3)) (hn : cs.length ≤ 1000000000) :
    CallsR PG F.spec_FillCavities [.agg [.I x, .I y, .I z, .ref t 0 cs.length]] M (HeapRes M (fillOf x y z cs) []) := by
  refine callsR_run K.spec_FillCavities rfl ?_
  simp (disch := omega) only [C.spec_FillCavities, ↓SXd, SXu, slBounds, ↓sop, ↓aop, ↓reduceIte, LV.cells, AOp.dst, LV.I, LV.B, LV.U, LV.S, LV.nil, Nat.reduceEqDiff, Nat.reduceAdd, Nat.reduceMul, Nat.reduceSub, Nat.reduceLeDiff, Nat.reduceBEq, Nat.reduceDiv, Nat.reduceMod, Int.reduceToNat, Int.reduceLT, Int.reduceLE, Int.reduceAdd, Int.reduceSub, Int.reduceMul, Int.reduceEq, Int.reduceNeg, reduceCtorEq, resV, resAll, ARes.ev, LV.flat, ite_true, ite_false, exists_eq_left', exists_eq_left, keyOf, implies_true, fillC, capOf]
  refine callK_of (h_l2Heap (Has.app h.has) hn) ?_
  simp (disch := omega) only [↓SXd, SXu, slBounds, ↓sop, ↓aop, ↓reduceIte, LV.cells, AOp.dst, LV.I, LV.B, LV.U, LV.S, LV.nil, Nat.reduceEqDiff, Nat.reduceAdd, Nat.reduceMul, Nat.reduceSub, Nat.reduceLeDiff, Nat.reduceBEq, Nat.reduceDiv, Nat.reduceMod, Int.reduceToNat, Int.reduceLT, Int.reduceLE, Int.reduceAdd, Int.reduceSub, Int.reduceMul, Int.reduceEq, Int.reduceNeg, reduceCtorEq, resV, resAll, ARes.ev, LV.flat, ite_true, ite_false, exists_eq_left', exists_eq_left, keyOf, implies_true, fillC, capOf]
  unfold fillOf
  by_cases hH : HeapOK x y z cs
  · have hS := hH.1
    have hlen := hH.len
    rw [if_pos hH]
    simp (disch := omega) only [hH, ↓SXd, SXu, slBounds, ↓sop, ↓aop, ↓reduceIte, LV.cells, AOp.dst, LV.I, LV.B, LV.U, LV.S, LV.nil, Nat.reduceEqDiff, Nat.reduceAdd, Nat.reduceMul, Nat.reduceSub, Nat.reduceLeDiff, Nat.reduceBEq, Nat.reduceDiv, Nat.reduceMod, Int.reduceToNat, Int.reduceLT, Int.reduceLE, Int.reduceAdd, Int.reduceSub, Int.reduceMul, Int.reduceEq, Int.reduceNeg, reduceCtorEq, resV, resAll, ARes.ev, LV.flat, ite_true, ite_false, exists_eq_left', exists_eq_left, keyOf, implies_true, fillC, capOf]
    refine callK_of (h_l2Own (Has.app h.has) hn) ?_
    simp (disch := omega) only [splice, ↓SXd, SXu, slBounds, ↓sop, ↓aop, ↓reduceIte, LV.cells, AOp.dst, LV.I, LV.B, LV.U, LV.S, LV.nil, Nat.reduceEqDiff, Nat.reduceAdd, Nat.reduceMul, Nat.reduceSub, Nat.reduceLeDiff, Nat.reduceBEq, Nat.reduceDiv, Nat.reduceMod, Int.reduceToNat, Int.reduceLT, Int.reduceLE, Int.reduceAdd, Int.reduceSub, Int.reduceMul, Int.reduceEq, Int.reduceNeg, reduceCtorEq, resV, resAll, ARes.ev, LV.flat, ite_true, ite_false, exists_eq_left', exists_eq_left, keyOf, implies_true, fillC, capOf]
    refine callK_of (h_l6Enclosed h.app hH) ?_
    simp (disch := omega) only [splice, ↓SXd, SXu, slBounds, ↓sop, ↓aop, ↓reduceIte, LV.cells, AOp.dst, LV.I, LV.B, LV.U, LV.S, LV.nil, Nat.reduceEqDiff, Nat.reduceAdd, Nat.reduceMul, Nat.reduceSub, Nat.reduceLeDiff, Nat.reduceBEq, Nat.reduceDiv, Nat.reduceMod, Int.reduceToNat, Int.reduceLT, Int.reduceLE, Int.reduceAdd, Int.reduceSub, Int.reduceMul, Int.reduceEq, Int.reduceNeg, reduceCtorEq, resV, resAll, ARes.ev, LV.flat, ite_true, ite_false, exists_eq_left', exists_eq_left, keyOf, implies_true, fillC, capOf]
    generalize hq : closed x y z (fun c => decide (c ∈ cs)) = q
    have hpl := pick_len hS q
    refine ev_loop (fun m fr M' => ∃ (i v : Nat), i + m = (pick x y z q).length ∧ Pre M M' ∧ Live M' (M.length + 1) (.row [.I 0, .I 0, .I 0, .nil] true 0) ∧ Live M' (M.length + 4) (.row (triL (pick x y z q)) true 3) ∧
      Live M' (M.length + 2) (.row [.I x, .I y, .I z, .ref v 0 (pick x y z fun d => decide (d ∈ cs) || decide (d ∈ (pick x y z q).take i)).length] true 0) ∧ Live M' v (.row (triL (pick x y z fun d => decide (d ∈ cs) || decide (d ∈ (pick x y z q).take i))) true 3) ∧ M.length ≤ v ∧
      fr 2 = .ptr (M.length + 1) 0 ∧ fr 4 = .ptr (M.length + 2) 0 ∧ fr 5 = .ref (M.length + 4) 0 (pick x y z q).length ∧ fr 6 = .I i) (pick x y z q).length
      ⟨0, M.length + 3, by omega, Pre.app _ _, Live.newj rfl, Live.newj rfl, ?_, ?_, by omega, rfl, rfl, rfl, rfl⟩ ?_
    · rw [pick_congr hS (p := fun d => decide (d ∈ cs) || decide (d ∈ (pick x y z q).take 0)) (q := fun d => decide (d ∈ cs)) fun d _ => by simp, ← hH.pick]; exact Live.newj rfl
    · rw [pick_congr hS (p := fun d => decide (d ∈ cs) || decide (d ∈ (pick x y z q).take 0)) (q := fun d => decide (d ∈ cs)) fun d _ => by simp, ← hH.pick]; exact Live.newj rfl
    rintro m fr M' ⟨i, v, hi, hpre, b1, be, b2, bv, hv, f2, f4, f5, f6⟩
    simp (disch := omega) only [f2, f4, f5, f6, ↓SXd, SXu, slBounds, ↓sop, ↓aop, ↓reduceIte, LV.cells, AOp.dst, LV.I, LV.B, LV.U, LV.S, LV.nil, Nat.reduceEqDiff, Nat.reduceAdd, Nat.reduceMul, Nat.reduceSub, Nat.reduceLeDiff, Nat.reduceBEq, Nat.reduceDiv, Nat.reduceMod, Int.reduceToNat, Int.reduceLT, Int.reduceLE, Int.reduceAdd, Int.reduceSub, Int.reduceMul, Int.reduceEq, Int.reduceNeg, reduceCtorEq, resV, resAll, ARes.ev, LV.flat, ite_true, ite_false, exists_eq_left', exists_eq_left, keyOf, implies_true, fillC, capOf]
    refine condC_dec (fun hlt => ?_) (fun hlt => ?_)
    · have hil : i < (pick x y z q).length := by omega
      have hce := be.tri0 hil
      have hcb := ((mem_pick hS).1 (getD_mem' (d := default) hil)).1
      simp (disch := omega) only [f2, f4, f5, f6, b2.cells, hce, Cell.row, ↓SXd, SXu, slBounds, ↓sop, ↓aop, ↓reduceIte, LV.cells, AOp.dst, LV.I, LV.B, LV.U, LV.S, LV.nil, Nat.reduceEqDiff, Nat.reduceAdd, Nat.reduceMul, Nat.reduceSub, Nat.reduceLeDiff, Nat.reduceBEq, Nat.reduceDiv, Nat.reduceMod, Int.reduceToNat, Int.reduceLT, Int.reduceLE, Int.reduceAdd, Int.reduceSub, Int.reduceMul, Int.reduceEq, Int.reduceNeg, reduceCtorEq, resV, resAll, ARes.ev, LV.flat, ite_true, ite_false, exists_eq_left', exists_eq_left, keyOf, implies_true, fillC, capOf]
      refine callH_of (h_l2With bv (pick_ok hS _) hcb) ?_
      intro sn N2 hsn hp2 hsr
      have hpe : pick x y z (fun d => decide (d ∈ pick x y z fun d => decide (d ∈ cs) || decide (d ∈ (pick x y z q).take i)) || decide (d = (pick x y z q).getD i default)) = pick x y z fun d => decide (d ∈ cs) || decide (d ∈ (pick x y z q).take (i + 1)) := pick_congr hS fun d hd => by
        rw [← take_dec hil, ← Bool.or_assoc]
        congr 1
        rw [Bool.eq_iff_iff, decide_eq_true_iff, mem_pick hS]
        exact ⟨fun h => h.2, fun h => ⟨hd, h⟩⟩
      rw [hpe] at hsr ⊢
      have hN2 := hp2.1
      have hl2 := b2.lt
      simp (disch := omega) only [f2, f4, f5, f6, ↓SXd, SXu, slBounds, ↓sop, ↓aop, ↓reduceIte, LV.cells, AOp.dst, LV.I, LV.B, LV.U, LV.S, LV.nil, Nat.reduceEqDiff, Nat.reduceAdd, Nat.reduceMul, Nat.reduceSub, Nat.reduceLeDiff, Nat.reduceBEq, Nat.reduceDiv, Nat.reduceMod, Int.reduceToNat, Int.reduceLT, Int.reduceLE, Int.reduceAdd, Int.reduceSub, Int.reduceMul, Int.reduceEq, Int.reduceNeg, reduceCtorEq, resV, resAll, ARes.ev, LV.flat, ite_true, ite_false, exists_eq_left', exists_eq_left, keyOf, implies_true, fillC, capOf]
      refine memK_box (b2.pre hp2) (by simp) fun N3 k1 k2 k3 => ?_
      simp (disch := omega) only [f2, f4, f5, f6, ↓SXd, SXu, slBounds, ↓sop, ↓aop, ↓reduceIte, LV.cells, AOp.dst, LV.I, LV.B, LV.U, LV.S, LV.nil, Nat.reduceEqDiff, Nat.reduceAdd, Nat.reduceMul, Nat.reduceSub, Nat.reduceLeDiff, Nat.reduceBEq, Nat.reduceDiv, Nat.reduceMod, Int.reduceToNat, Int.reduceLT, Int.reduceLE, Int.reduceAdd, Int.reduceSub, Int.reduceMul, Int.reduceEq, Int.reduceNeg, reduceCtorEq, resV, resAll, ARes.ev, LV.flat, ite_true, ite_false, exists_eq_left', exists_eq_left, keyOf, implies_true, fillC, capOf]
      exact ⟨m - 1, by omega, i + 1, sn, by omega, pre_step (hpre.trans hp2) (by omega) (j := 0) k1 k3, live_step (b1.pre hp2) (by omega) k3, live_step (be.pre hp2) (by omega) k3, k2, live_step hsr (by omega) k3, by omega, f2, f4, f5, eqI (natI _)⟩
    · have : i = (pick x y z q).length := by omega
      subst this
      have hpe : pick x y z (fun d => decide (d ∈ cs) || decide (d ∈ (pick x y z q).take (pick x y z q).length)) = pick x y z fun c => decide (c ∈ cs) || q c := pick_congr hS fun d hd => by
        rw [List.take_length]
        congr 1
        rw [Bool.eq_iff_iff, decide_eq_true_iff, mem_pick hS]
        exact ⟨fun h => h.2, fun h => ⟨hd, h⟩⟩
      rw [hpe] at b2 bv
      simp (disch := omega) only [f2, f4, f5, f6, b2.cells, ↓SXd, SXu, slBounds, ↓sop, ↓aop, ↓reduceIte, LV.cells, AOp.dst, LV.I, LV.B, LV.U, LV.S, LV.nil, Nat.reduceEqDiff, Nat.reduceAdd, Nat.reduceMul, Nat.reduceSub, Nat.reduceLeDiff, Nat.reduceBEq, Nat.reduceDiv, Nat.reduceMod, Int.reduceToNat, Int.reduceLT, Int.reduceLE, Int.reduceAdd, Int.reduceSub, Int.reduceMul, Int.reduceEq, Int.reduceNeg, reduceCtorEq, resV, resAll, ARes.ev, LV.flat, ite_true, ite_false, exists_eq_left', exists_eq_left, keyOf, implies_true, fillC, capOf]
      refine memK_box b1 (by simp) fun N3 k1 k2 k3 => ?_
      simp (disch := omega) only [f2, f4, f5, f6, k2.cells, ↓SXd, SXu, slBounds, ↓sop, ↓aop, ↓reduceIte, LV.cells, AOp.dst, LV.I, LV.B, LV.U, LV.S, LV.nil, Nat.reduceEqDiff, Nat.reduceAdd, Nat.reduceMul, Nat.reduceSub, Nat.reduceLeDiff, Nat.reduceBEq, Nat.reduceDiv, Nat.reduceMod, Int.reduceToNat, Int.reduceLT, Int.reduceLE, Int.reduceAdd, Int.reduceSub, Int.reduceMul, Int.reduceEq, Int.reduceNeg, reduceCtorEq, resV, resAll, ARes.ev, LV.flat, ite_true, ite_false, exists_eq_left', exists_eq_left, keyOf, implies_true, fillC, capOf]
      exact ⟨_, rfl, SlC.of (live_step bv (bv.ne_esz b1 (by decide)) k3), Newer.of hv, pre_step hpre (by omega) (j := 0) k1 k3⟩
  · rw [if_neg hH]
    simp (disch := omega) only [hH, fillC, splice, ↓SXd, SXu, slBounds, ↓sop, ↓aop, ↓reduceIte, LV.cells, AOp.dst, LV.I, LV.B, LV.U, LV.S, LV.nil, Nat.reduceEqDiff, Nat.reduceAdd, Nat.reduceMul, Nat.reduceSub, Nat.reduceLeDiff, Nat.reduceBEq, Nat.reduceDiv, Nat.reduceMod, Int.reduceToNat, Int.reduceLT, Int.reduceLE, Int.reduceAdd, Int.reduceSub, Int.reduceMul, Int.reduceEq, Int.reduceNeg, reduceCtorEq, resV, resAll, ARes.ev, LV.flat, ite_true, ite_false, exists_eq_left', exists_eq_left, keyOf, implies_true, fillC, capOf]
    exact ⟨_, rfl, SlC.nil, Newer.nil, Pre.app _ _⟩
end Go.Ab

/- Contracts: touching faces, both sides; the program's bare and outside faces. -/
namespace Go.Ab
open Go
set_option linter.unusedSimpArgs false
set_option linter.unusedVariables false
set_option maxRecDepth 20000

/-- The neighbours of a cell in a list are as many as its faces beyond which is a cube. -/
theorem near_len {cs : List Cell} (hn : cs.Nodup) (c : Cell) : (cs.filter fun d => decide (apart d c = 1)).length = nearN cs c := by
  unfold nearN
  rw [List.countP_eq_length_filter, ← List.length_map (f := fun f => nbC c f)]
  refine List.Perm.length_eq ((List.perm_ext_iff_of_nodup (hn.filter _) ?_).2 fun d => ?_)
  · unfold List.Nodup
    rw [List.pairwise_map]
    refine (List.nodup_range.filter _).imp_of_mem fun {a b} ha hb hne e => hne ?_
    have ha6 := List.mem_range.1 (List.mem_filter.1 ha).1
    have hb6 := List.mem_range.1 (List.mem_filter.1 hb).1
    clear ha hb hne
    obtain ⟨p, q, r⟩ := c
    rcases six ha6 with rfl | rfl | rfl | rfl | rfl | rfl <;> rcases six hb6 with rfl | rfl | rfl | rfl | rfl | rfl <;> simp [nbC] at e <;> first | rfl | omega
  · rw [List.mem_filter, decide_eq_true_iff, List.mem_map, apart_comm, ← mem_nbrs]
    constructor
    · rintro ⟨h1, h2⟩
      obtain ⟨f, hf, rfl⟩ := List.getElem_of_mem h2
      have hf6 : f < 6 := by simpa [nbrs] using hf
      refine ⟨f, List.mem_filter.2 ⟨List.mem_range.2 hf6, ?_⟩, ?_⟩
      · rw [decide_eq_true_iff, ← nb_nbrs hf6, getD_get hf]; exact h1
      · rw [← nb_nbrs hf6, getD_get hf]
    · rintro ⟨f, hf, rfl⟩
      obtain ⟨h1, h2⟩ := List.mem_filter.1 hf
      exact ⟨of_decide_eq_true h2, mem_nbrs.2 (nb_apart (List.mem_range.1 h1))⟩
theorem nearN_le {cs : List Cell} {c : Cell} : nearN cs c ≤ 6 := Nat.le_trans List.countP_le_length (by simp)
/-- What the first cells have. -/
def sumK (f : Cell → Nat) (cs : List Cell) (k : Nat) : Nat := ((cs.take k).map f).sum
theorem sumK_succ {f : Cell → Nat} {cs : List Cell} {k : Nat} (h : k < cs.length) : sumK f cs (k + 1) = sumK f cs k + f (cs.getD k default) := by
  unfold sumK
  rw [List.take_add_one, List.getElem?_eq_getElem h, Option.toList_some, List.map_append, List.sum_append]
  simp [h]
theorem sumK_le {f : Cell → Nat} {cs : List Cell} {b : Nat} (hf : ∀ c, f c ≤ b) : ∀ {k : Nat}, k ≤ cs.length → sumK f cs k ≤ k * b
  | 0, _ => by simp [sumK]
  | k + 1, h => by
    rw [sumK_succ (by omega), Nat.add_mul, Nat.one_mul]
    have := sumK_le (cs := cs) hf (k := k) (by omega)
    have := hf (cs.getD k default)
    omega
theorem sumK_all {f : Cell → Nat} {cs : List Cell} : sumK f cs cs.length = (cs.map f).sum := by
  unfold sumK; rw [List.take_length]
section
variable {x y z : Int} {t : Nat} {w : Bool} {cs : List Cell} {M : Mem} (h : Live M t (.row (triL cs) w 3))
include h
theorem h_l6Pairs (hH : HeapOK x y z cs) : CallsTo PG F.spec_l6Pairs [.agg [.I x, .I y, .I z, .ref t 0 cs.length]] M (.I ((nearSum cs / 2 : Nat) : Int)) M := by
  have hlen := hH.len
  obtain ⟨⟨_, _⟩, ⟨_, _⟩, ⟨_, _⟩⟩ := id hH.1
  have h4 : ∀ {d : Cell}, d.inBox x y z → d.inBox 4 4 4 := fun {d} ⟨⟨_, _⟩, ⟨_, _⟩, ⟨_, _⟩⟩ => ⟨⟨by omega, by omega⟩, ⟨by omega, by omega⟩, ⟨by omega, by omega⟩⟩
  refine calls_run K.spec_l6Pairs rfl ?_
  simp (disch := omega) only [C.spec_l6Pairs, ↓SXd, SXu, slBounds, ↓sop, ↓aop, ↓reduceIte, LV.cells, AOp.dst, LV.I, LV.B, LV.U, LV.S, LV.nil, Nat.reduceEqDiff, Nat.reduceAdd, Nat.reduceMul, Nat.reduceSub, Nat.reduceLeDiff, Nat.reduceBEq, Nat.reduceDiv, Nat.reduceMod, Int.reduceToNat, Int.reduceLT, Int.reduceLE, Int.reduceAdd, Int.reduceSub, Int.reduceMul, Int.reduceEq, Int.reduceNeg, reduceCtorEq, resV, resAll, ARes.ev, LV.flat, ite_true, ite_false, exists_eq_left', exists_eq_left, keyOf, implies_true, fillC, capOf]
  refine ev_loop (fun m fr M' => ∃ k : Nat, k + m = cs.length ∧ Pre M M' ∧ Live M' M.length (.row [.I x, .I y, .I z, .ref t 0 cs.length] true 0) ∧ fr 1 = .ptr M.length 0 ∧ fr 3 = .I ((sumK (nearN cs) cs k : Nat) : Int) ∧ fr 4 = .I k) cs.length
    ⟨0, by omega, Pre.app _ _, Live.new, rfl, rfl, rfl⟩ ?_
  rintro m fr M' ⟨k, hk, hpre, b1, f1, f3, f4⟩
  simp (disch := omega) only [f1, f3, f4, b1.cell, ↓SXd, SXu, slBounds, ↓sop, ↓aop, ↓reduceIte, LV.cells, AOp.dst, LV.I, LV.B, LV.U, LV.S, LV.nil, Nat.reduceEqDiff, Nat.reduceAdd, Nat.reduceMul, Nat.reduceSub, Nat.reduceLeDiff, Nat.reduceBEq, Nat.reduceDiv, Nat.reduceMod, Int.reduceToNat, Int.reduceLT, Int.reduceLE, Int.reduceAdd, Int.reduceSub, Int.reduceMul, Int.reduceEq, Int.reduceNeg, reduceCtorEq, resV, resAll, ARes.ev, LV.flat, ite_true, ite_false, exists_eq_left', exists_eq_left, keyOf, implies_true, fillC, capOf]
  refine condC_dec (fun hlt => ?_) (fun hlt => ?_)
  · have hkl : k < cs.length := by omega
    have hg := (h.pre hpre).tri0 hkl
    have hcb := hH.mem (getD_mem' (d := default) hkl)
    have hss := sumK_succ (f := nearN cs) hkl
    have hsl := sumK_le (f := nearN cs) (cs := cs) (b := 6) (fun c => nearN_le) (k := k) (by omega)
    have hnl := near_len hH.nodup (cs.getD k default)
    have hn6 := nearN_le (cs := cs) (c := cs.getD k default)
    generalize cs.getD k default = c at hg hcb hss hnl hn6
    simp (disch := omega) only [f1, f3, f4, b1.cell, b1.cells, hg, Cell.row, Nat.mul_one, Nat.zero_add, ↓SXd, SXu, slBounds, ↓sop, ↓aop, ↓reduceIte, LV.cells, AOp.dst, LV.I, LV.B, LV.U, LV.S, LV.nil, Nat.reduceEqDiff, Nat.reduceAdd, Nat.reduceMul, Nat.reduceSub, Nat.reduceLeDiff, Nat.reduceBEq, Nat.reduceDiv, Nat.reduceMod, Int.reduceToNat, Int.reduceLT, Int.reduceLE, Int.reduceAdd, Int.reduceSub, Int.reduceMul, Int.reduceEq, Int.reduceNeg, reduceCtorEq, resV, resAll, ARes.ev, LV.flat, ite_true, ite_false, exists_eq_left', exists_eq_left, keyOf, implies_true, fillC, capOf]
    refine callK_of (h_l2Near (h.pre hpre).has (by omega) (fun d hd => h4 (hH.mem hd)) (h4 hcb)) ?_
    rw [hnl]
    simp (disch := omega) only [f1, f3, f4, ↓SXd, SXu, slBounds, ↓sop, ↓aop, ↓reduceIte, LV.cells, AOp.dst, LV.I, LV.B, LV.U, LV.S, LV.nil, Nat.reduceEqDiff, Nat.reduceAdd, Nat.reduceMul, Nat.reduceSub, Nat.reduceLeDiff, Nat.reduceBEq, Nat.reduceDiv, Nat.reduceMod, Int.reduceToNat, Int.reduceLT, Int.reduceLE, Int.reduceAdd, Int.reduceSub, Int.reduceMul, Int.reduceEq, Int.reduceNeg, reduceCtorEq, resV, resAll, ARes.ev, LV.flat, ite_true, ite_false, exists_eq_left', exists_eq_left, keyOf, implies_true, fillC, capOf]
    exact ⟨m - 1, by omega, k + 1, by omega, hpre.trans (Pre.app _ _), b1.app, f1, by rw [hss]; exact eqI (by omega), eqI (natI _)⟩
  · have hkl : k = cs.length := by omega
    subst hkl
    rw [sumK_all] at f3
    have hb := sumK_le (f := nearN cs) (cs := cs) (b := 6) (fun c => nearN_le) (k := cs.length) (by omega)
    rw [sumK_all] at hb
    change fr 3 = .I ((nearSum cs : Nat) : Int) at f3
    change nearSum cs ≤ _ at hb
    generalize nearSum cs = n at f3 hb
    have ht : Int.tdiv (n : Int) 2 = ((n / 2 : Nat) : Int) := by rw [Int.tdiv_eq_ediv_of_nonneg (by omega)]; omega
    simp (disch := omega) only [f1, f3, f4, ht, ↓SXd, SXu, slBounds, ↓sop, ↓aop, ↓reduceIte, LV.cells, AOp.dst, LV.I, LV.B, LV.U, LV.S, LV.nil, Nat.reduceEqDiff, Nat.reduceAdd, Nat.reduceMul, Nat.reduceSub, Nat.reduceLeDiff, Nat.reduceBEq, Nat.reduceDiv, Nat.reduceMod, Int.reduceToNat, Int.reduceLT, Int.reduceLE, Int.reduceAdd, Int.reduceSub, Int.reduceMul, Int.reduceEq, Int.reduceNeg, reduceCtorEq, resV, resAll, ARes.ev, LV.flat, ite_true, ite_false, exists_eq_left', exists_eq_left, keyOf, implies_true, fillC, capOf]
    exact cmp_pre hpre rfl
theorem h_sTouching (hn : cs.length ≤ 1000000000) : CallsTo PG F.spec_TouchingFaces [.agg [.I x, .I y, .I z, .ref t 0 cs.length]] M (.tup [.I ((if HeapOK x y z cs then nearSum cs / 2 else 0 : Nat) : Int), .B (decide (HeapOK x y z cs))]) M := by
  refine calls_run K.spec_TouchingFaces rfl ?_
  simp (disch := omega) only [C.spec_TouchingFaces, ↓SXd, SXu, slBounds, ↓sop, ↓aop, ↓reduceIte, LV.cells, AOp.dst, LV.I, LV.B, LV.U, LV.S, LV.nil, Nat.reduceEqDiff, Nat.reduceAdd, Nat.reduceMul, Nat.reduceSub, Nat.reduceLeDiff, Nat.reduceBEq, Nat.reduceDiv, Nat.reduceMod, Int.reduceToNat, Int.reduceLT, Int.reduceLE, Int.reduceAdd, Int.reduceSub, Int.reduceMul, Int.reduceEq, Int.reduceNeg, reduceCtorEq, resV, resAll, ARes.ev, LV.flat, ite_true, ite_false, exists_eq_left', exists_eq_left, keyOf, implies_true, fillC, capOf]
  refine callK_of (h_l2Heap (Has.app h.has) hn) ?_
  simp (disch := omega) only [↓SXd, SXu, slBounds, ↓sop, ↓aop, ↓reduceIte, LV.cells, AOp.dst, LV.I, LV.B, LV.U, LV.S, LV.nil, Nat.reduceEqDiff, Nat.reduceAdd, Nat.reduceMul, Nat.reduceSub, Nat.reduceLeDiff, Nat.reduceBEq, Nat.reduceDiv, Nat.reduceMod, Int.reduceToNat, Int.reduceLT, Int.reduceLE, Int.reduceAdd, Int.reduceSub, Int.reduceMul, Int.reduceEq, Int.reduceNeg, reduceCtorEq, resV, resAll, ARes.ev, LV.flat, ite_true, ite_false, exists_eq_left', exists_eq_left, keyOf, implies_true, fillC, capOf]
  by_cases hH : HeapOK x y z cs
  rotate_left
  · rw [if_neg hH]
    simp (disch := omega) only [hH, ↓SXd, SXu, slBounds, ↓sop, ↓aop, ↓reduceIte, LV.cells, AOp.dst, LV.I, LV.B, LV.U, LV.S, LV.nil, Nat.reduceEqDiff, Nat.reduceAdd, Nat.reduceMul, Nat.reduceSub, Nat.reduceLeDiff, Nat.reduceBEq, Nat.reduceDiv, Nat.reduceMod, Int.reduceToNat, Int.reduceLT, Int.reduceLE, Int.reduceAdd, Int.reduceSub, Int.reduceMul, Int.reduceEq, Int.reduceNeg, reduceCtorEq, resV, resAll, ARes.ev, LV.flat, ite_true, ite_false, exists_eq_left', exists_eq_left, keyOf, implies_true, fillC, capOf]
    exact cmp_drop rfl
  rw [if_pos hH]
  simp (disch := omega) only [hH, ↓SXd, SXu, slBounds, ↓sop, ↓aop, ↓reduceIte, LV.cells, AOp.dst, LV.I, LV.B, LV.U, LV.S, LV.nil, Nat.reduceEqDiff, Nat.reduceAdd, Nat.reduceMul, Nat.reduceSub, Nat.reduceLeDiff, Nat.reduceBEq, Nat.reduceDiv, Nat.reduceMod, Int.reduceToNat, Int.reduceLT, Int.reduceLE, Int.reduceAdd, Int.reduceSub, Int.reduceMul, Int.reduceEq, Int.reduceNeg, reduceCtorEq, resV, resAll, ARes.ev, LV.flat, ite_true, ite_false, exists_eq_left', exists_eq_left, keyOf, implies_true, fillC, capOf]
  refine callK_of (h_l6Pairs h.app hH) ?_
  simp (disch := omega) only [↓SXd, SXu, slBounds, ↓sop, ↓aop, ↓reduceIte, LV.cells, AOp.dst, LV.I, LV.B, LV.U, LV.S, LV.nil, Nat.reduceEqDiff, Nat.reduceAdd, Nat.reduceMul, Nat.reduceSub, Nat.reduceLeDiff, Nat.reduceBEq, Nat.reduceDiv, Nat.reduceMod, Int.reduceToNat, Int.reduceLT, Int.reduceLE, Int.reduceAdd, Int.reduceSub, Int.reduceMul, Int.reduceEq, Int.reduceNeg, reduceCtorEq, resV, resAll, ARes.ev, LV.flat, ite_true, ite_false, exists_eq_left', exists_eq_left, keyOf, implies_true, fillC, capOf]
  exact cmp_drop rfl
theorem g_TouchingFaces (hn : cs.length ≤ 1000000000) : CallsTo PG F.impl_TouchingFaces [.agg [.I x, .I y, .I z, .ref t 0 cs.length]] M (.tup [.I ((if HeapOK x y z cs then nearSum cs / 2 else 0 : Nat) : Int), .B (decide (HeapOK x y z cs))]) M := by
  refine calls_run K.impl_TouchingFaces rfl ?_
  simp (disch := omega) only [C.impl_TouchingFaces, ↓SXd, SXu, slBounds, ↓sop, ↓aop, ↓reduceIte, LV.cells, AOp.dst, LV.I, LV.B, LV.U, LV.S, LV.nil, Nat.reduceEqDiff, Nat.reduceAdd, Nat.reduceMul, Nat.reduceSub, Nat.reduceLeDiff, Nat.reduceBEq, Nat.reduceDiv, Nat.reduceMod, Int.reduceToNat, Int.reduceLT, Int.reduceLE, Int.reduceAdd, Int.reduceSub, Int.reduceMul, Int.reduceEq, Int.reduceNeg, reduceCtorEq, resV, resAll, ARes.ev, LV.flat, ite_true, ite_false, exists_eq_left', exists_eq_left, keyOf, implies_true, fillC, capOf]
  refine callK_of (g_IsHeap (Has.app h.has) hn) ?_
  simp (disch := omega) only [↓SXd, SXu, slBounds, ↓sop, ↓aop, ↓reduceIte, LV.cells, AOp.dst, LV.I, LV.B, LV.U, LV.S, LV.nil, Nat.reduceEqDiff, Nat.reduceAdd, Nat.reduceMul, Nat.reduceSub, Nat.reduceLeDiff, Nat.reduceBEq, Nat.reduceDiv, Nat.reduceMod, Int.reduceToNat, Int.reduceLT, Int.reduceLE, Int.reduceAdd, Int.reduceSub, Int.reduceMul, Int.reduceEq, Int.reduceNeg, reduceCtorEq, resV, resAll, ARes.ev, LV.flat, ite_true, ite_false, exists_eq_left', exists_eq_left, keyOf, implies_true, fillC, capOf]
  by_cases hH : HeapOK x y z cs
  rotate_left
  · rw [if_neg hH]
    simp (disch := omega) only [hH, ↓SXd, SXu, slBounds, ↓sop, ↓aop, ↓reduceIte, LV.cells, AOp.dst, LV.I, LV.B, LV.U, LV.S, LV.nil, Nat.reduceEqDiff, Nat.reduceAdd, Nat.reduceMul, Nat.reduceSub, Nat.reduceLeDiff, Nat.reduceBEq, Nat.reduceDiv, Nat.reduceMod, Int.reduceToNat, Int.reduceLT, Int.reduceLE, Int.reduceAdd, Int.reduceSub, Int.reduceMul, Int.reduceEq, Int.reduceNeg, reduceCtorEq, resV, resAll, ARes.ev, LV.flat, ite_true, ite_false, exists_eq_left', exists_eq_left, keyOf, implies_true, fillC, capOf]
    exact cmp_drop rfl
  rw [if_pos hH]
  have hlen := hH.len
  simp (disch := omega) only [hH, ↓SXd, SXu, slBounds, ↓sop, ↓aop, ↓reduceIte, LV.cells, AOp.dst, LV.I, LV.B, LV.U, LV.S, LV.nil, Nat.reduceEqDiff, Nat.reduceAdd, Nat.reduceMul, Nat.reduceSub, Nat.reduceLeDiff, Nat.reduceBEq, Nat.reduceDiv, Nat.reduceMod, Int.reduceToNat, Int.reduceLT, Int.reduceLE, Int.reduceAdd, Int.reduceSub, Int.reduceMul, Int.reduceEq, Int.reduceNeg, reduceCtorEq, resV, resAll, ARes.ev, LV.flat, ite_true, ite_false, exists_eq_left', exists_eq_left, keyOf, implies_true, fillC, capOf]
  refine ev_loop (fun m fr M' => ∃ k : Nat, k + m = cs.length ∧ Pre M M' ∧ Live M' M.length (.row [.I x, .I y, .I z, .ref t 0 cs.length] true 0) ∧ fr 1 = .ptr M.length 0 ∧ fr 4 = .I ((sumK (nearN cs) cs k : Nat) : Int) ∧ fr 11 = .ref t 0 cs.length ∧ fr 12 = .I cs.length ∧ fr 13 = .I k) cs.length
    ⟨0, by omega, Pre.app _ _, Live.new, rfl, rfl, rfl, rfl, rfl⟩ ?_
  rintro m fr M' ⟨k, hk, hpre, b1, f1, f4, f11, f12, f13⟩
  simp (disch := omega) only [f1, f4, f11, f12, f13, ↓SXd, SXu, slBounds, ↓sop, ↓aop, ↓reduceIte, LV.cells, AOp.dst, LV.I, LV.B, LV.U, LV.S, LV.nil, Nat.reduceEqDiff, Nat.reduceAdd, Nat.reduceMul, Nat.reduceSub, Nat.reduceLeDiff, Nat.reduceBEq, Nat.reduceDiv, Nat.reduceMod, Int.reduceToNat, Int.reduceLT, Int.reduceLE, Int.reduceAdd, Int.reduceSub, Int.reduceMul, Int.reduceEq, Int.reduceNeg, reduceCtorEq, resV, resAll, ARes.ev, LV.flat, ite_true, ite_false, exists_eq_left', exists_eq_left, keyOf, implies_true, fillC, capOf]
  refine condC_dec (fun hlt => ?_) (fun hlt => ?_)
  · have hkl : k < cs.length := by omega
    have hg := (h.pre hpre).tri0 hkl
    have hcb := hH.mem (getD_mem' (d := default) hkl)
    have hss := sumK_succ (f := nearN cs) hkl
    have hsl := sumK_le (f := nearN cs) (cs := cs) (b := 6) (fun c => nearN_le) (k := k) (by omega)
    have hnl := near_len hH.nodup (cs.getD k default)
    have hn6 := nearN_le (cs := cs) (c := cs.getD k default)
    generalize cs.getD k default = c at hg hcb hss hnl hn6
    simp (disch := omega) only [f1, f4, f11, f12, f13, hg, Cell.row, Nat.mul_one, Nat.zero_add, splice, ↓SXd, SXu, slBounds, ↓sop, ↓aop, ↓reduceIte, LV.cells, AOp.dst, LV.I, LV.B, LV.U, LV.S, LV.nil, Nat.reduceEqDiff, Nat.reduceAdd, Nat.reduceMul, Nat.reduceSub, Nat.reduceLeDiff, Nat.reduceBEq, Nat.reduceDiv, Nat.reduceMod, Int.reduceToNat, Int.reduceLT, Int.reduceLE, Int.reduceAdd, Int.reduceSub, Int.reduceMul, Int.reduceEq, Int.reduceNeg, reduceCtorEq, resV, resAll, ARes.ev, LV.flat, ite_true, ite_false, exists_eq_left', exists_eq_left, keyOf, implies_true, fillC, capOf]
    have k5 : Live (M' ++ [some (.row [.I c.a, .I c.b, .I c.c] true 0)]) M'.length (.row [.I c.a, .I c.b, .I c.c] true 0) := Live.new
    have hp5 : Pre M (M' ++ [some (.row [.I c.a, .I c.b, .I c.c] true 0)]) := hpre.trans (Pre.app _ _)
    have b5 := b1.app (L := [some (.row [.I c.a, .I c.b, .I c.c] true 0)])
    simp (disch := omega) only [f1, f4, f11, f12, f13, b5.cells, k5.cells, ↓SXd, SXu, slBounds, ↓sop, ↓aop, ↓reduceIte, LV.cells, AOp.dst, LV.I, LV.B, LV.U, LV.S, LV.nil, Nat.reduceEqDiff, Nat.reduceAdd, Nat.reduceMul, Nat.reduceSub, Nat.reduceLeDiff, Nat.reduceBEq, Nat.reduceDiv, Nat.reduceMod, Int.reduceToNat, Int.reduceLT, Int.reduceLE, Int.reduceAdd, Int.reduceSub, Int.reduceMul, Int.reduceEq, Int.reduceNeg, reduceCtorEq, resV, resAll, ARes.ev, LV.flat, ite_true, ite_false, exists_eq_left', exists_eq_left, keyOf, implies_true, fillC, capOf]
    refine callK_of (g_box) ?_
    simp (disch := omega) only [f1, f4, f11, f12, f13, ↓SXd, SXu, slBounds, ↓sop, ↓aop, ↓reduceIte, LV.cells, AOp.dst, LV.I, LV.B, LV.U, LV.S, LV.nil, Nat.reduceEqDiff, Nat.reduceAdd, Nat.reduceMul, Nat.reduceSub, Nat.reduceLeDiff, Nat.reduceBEq, Nat.reduceDiv, Nat.reduceMod, Int.reduceToNat, Int.reduceLT, Int.reduceLE, Int.reduceAdd, Int.reduceSub, Int.reduceMul, Int.reduceEq, Int.reduceNeg, reduceCtorEq, resV, resAll, ARes.ev, LV.flat, ite_true, ite_false, exists_eq_left', exists_eq_left, keyOf, implies_true, fillC, capOf]
    refine callK_of (g_nearSet hH.1 hcb) ?_
    simp (disch := omega) only [f1, f4, f11, f12, f13, ↓SXd, SXu, slBounds, ↓sop, ↓aop, ↓reduceIte, LV.cells, AOp.dst, LV.I, LV.B, LV.U, LV.S, LV.nil, Nat.reduceEqDiff, Nat.reduceAdd, Nat.reduceMul, Nat.reduceSub, Nat.reduceLeDiff, Nat.reduceBEq, Nat.reduceDiv, Nat.reduceMod, Int.reduceToNat, Int.reduceLT, Int.reduceLE, Int.reduceAdd, Int.reduceSub, Int.reduceMul, Int.reduceEq, Int.reduceNeg, reduceCtorEq, resV, resAll, ARes.ev, LV.flat, ite_true, ite_false, exists_eq_left', exists_eq_left, keyOf, implies_true, fillC, capOf]
    refine callK_of (g_cubes (h.pre hp5).has hn hH.1 (fun d hd => hH.mem hd)) ?_
    simp (disch := omega) only [f1, f4, f11, f12, f13, ↓SXd, SXu, slBounds, ↓sop, ↓aop, ↓reduceIte, LV.cells, AOp.dst, LV.I, LV.B, LV.U, LV.S, LV.nil, Nat.reduceEqDiff, Nat.reduceAdd, Nat.reduceMul, Nat.reduceSub, Nat.reduceLeDiff, Nat.reduceBEq, Nat.reduceDiv, Nat.reduceMod, Int.reduceToNat, Int.reduceLT, Int.reduceLE, Int.reduceAdd, Int.reduceSub, Int.reduceMul, Int.reduceEq, Int.reduceNeg, reduceCtorEq, resV, resAll, ARes.ev, LV.flat, ite_true, ite_false, exists_eq_left', exists_eq_left, keyOf, implies_true, fillC, capOf]
    rw [bs_and hH.1]
    refine callK_of (g_count) ?_
    simp (disch := omega) only [f1, f4, f11, f12, f13, ↓SXd, SXu, slBounds, ↓sop, ↓aop, ↓reduceIte, LV.cells, AOp.dst, LV.I, LV.B, LV.U, LV.S, LV.nil, Nat.reduceEqDiff, Nat.reduceAdd, Nat.reduceMul, Nat.reduceSub, Nat.reduceLeDiff, Nat.reduceBEq, Nat.reduceDiv, Nat.reduceMod, Int.reduceToNat, Int.reduceLT, Int.reduceLE, Int.reduceAdd, Int.reduceSub, Int.reduceMul, Int.reduceEq, Int.reduceNeg, reduceCtorEq, resV, resAll, ARes.ev, LV.flat, ite_true, ite_false, exists_eq_left', exists_eq_left, keyOf, implies_true, fillC, capOf]
    have hpk : cs.filter (fun d => decide (apart d c = 1)) = pick x y z fun d => decide (apart c d = 1) && decide (d ∈ cs) := by
      refine (congrArg (List.filter fun d => decide (apart d c = 1)) hH.pick).trans ?_
      unfold pick
      rw [List.filter_filter]
      refine List.filter_congr fun d _ => ?_
      rw [apart_comm]
    rw [swar_bs hH.1, ← hpk, hnl]
    simp (disch := omega) only [f1, f4, f11, f12, f13, ↓SXd, SXu, slBounds, ↓sop, ↓aop, ↓reduceIte, LV.cells, AOp.dst, LV.I, LV.B, LV.U, LV.S, LV.nil, Nat.reduceEqDiff, Nat.reduceAdd, Nat.reduceMul, Nat.reduceSub, Nat.reduceLeDiff, Nat.reduceBEq, Nat.reduceDiv, Nat.reduceMod, Int.reduceToNat, Int.reduceLT, Int.reduceLE, Int.reduceAdd, Int.reduceSub, Int.reduceMul, Int.reduceEq, Int.reduceNeg, reduceCtorEq, resV, resAll, ARes.ev, LV.flat, ite_true, ite_false, exists_eq_left', exists_eq_left, keyOf, implies_true, fillC, capOf]
    exact ⟨m - 1, by omega, k + 1, by omega, hp5, b5, f1, by rw [hss]; exact eqI (by omega), f11, f12, eqI (natI _)⟩
  · have hkl : k = cs.length := by omega
    subst hkl
    rw [sumK_all] at f4
    have hb := sumK_le (f := nearN cs) (cs := cs) (b := 6) (fun c => nearN_le) (k := cs.length) (by omega)
    rw [sumK_all] at hb
    change fr 4 = .I ((nearSum cs : Nat) : Int) at f4
    change nearSum cs ≤ _ at hb
    generalize nearSum cs = n at f4 hb
    have ht : Int.tdiv (n : Int) 2 = ((n / 2 : Nat) : Int) := by rw [Int.tdiv_eq_ediv_of_nonneg (by omega)]; omega
    simp (disch := omega) only [f1, f4, f11, f12, f13, ht, ↓SXd, SXu, slBounds, ↓sop, ↓aop, ↓reduceIte, LV.cells, AOp.dst, LV.I, LV.B, LV.U, LV.S, LV.nil, Nat.reduceEqDiff, Nat.reduceAdd, Nat.reduceMul, Nat.reduceSub, Nat.reduceLeDiff, Nat.reduceBEq, Nat.reduceDiv, Nat.reduceMod, Int.reduceToNat, Int.reduceLT, Int.reduceLE, Int.reduceAdd, Int.reduceSub, Int.reduceMul, Int.reduceEq, Int.reduceNeg, reduceCtorEq, resV, resAll, ARes.ev, LV.flat, ite_true, ite_false, exists_eq_left', exists_eq_left, keyOf, implies_true, fillC, capOf]
    exact cmp_pre hpre rfl
theorem g_BareFaces (hn : cs.length ≤ 1000000000) : CallsTo PG F.impl_BareFaces [.agg [.I x, .I y, .I z, .ref t 0 cs.length]] M (.tup [.agg (if HeapOK x y z cs then [.I (faceN cs 0 : Nat), .I (faceN cs 1 : Nat), .I (faceN cs 2 : Nat), .I (faceN cs 3 : Nat), .I (faceN cs 4 : Nat), .I (faceN cs 5 : Nat)] else [.I 0, .I 0, .I 0, .I 0, .I 0, .I 0]), .B (decide (HeapOK x y z cs))]) M := by
  refine calls_run K.impl_BareFaces rfl ?_
  simp (disch := omega) only [C.impl_BareFaces, ↓SXd, SXu, slBounds, ↓sop, ↓aop, ↓reduceIte, LV.cells, AOp.dst, LV.I, LV.B, LV.U, LV.S, LV.nil, Nat.reduceEqDiff, Nat.reduceAdd, Nat.reduceMul, Nat.reduceSub, Nat.reduceLeDiff, Nat.reduceBEq, Nat.reduceDiv, Nat.reduceMod, Int.reduceToNat, Int.reduceLT, Int.reduceLE, Int.reduceAdd, Int.reduceSub, Int.reduceMul, Int.reduceEq, Int.reduceNeg, reduceCtorEq, resV, resAll, ARes.ev, LV.flat, ite_true, ite_false, exists_eq_left', exists_eq_left, keyOf, implies_true, fillC, capOf]
  refine callK_of (g_IsHeap (Has.app h.has) hn) ?_
  simp (disch := omega) only [↓SXd, SXu, slBounds, ↓sop, ↓aop, ↓reduceIte, LV.cells, AOp.dst, LV.I, LV.B, LV.U, LV.S, LV.nil, Nat.reduceEqDiff, Nat.reduceAdd, Nat.reduceMul, Nat.reduceSub, Nat.reduceLeDiff, Nat.reduceBEq, Nat.reduceDiv, Nat.reduceMod, Int.reduceToNat, Int.reduceLT, Int.reduceLE, Int.reduceAdd, Int.reduceSub, Int.reduceMul, Int.reduceEq, Int.reduceNeg, reduceCtorEq, resV, resAll, ARes.ev, LV.flat, ite_true, ite_false, exists_eq_left', exists_eq_left, keyOf, implies_true, fillC, capOf]
  by_cases hH : HeapOK x y z cs
  rotate_left
  · rw [if_neg hH]
    simp (disch := omega) only [hH, splice, ↓SXd, SXu, slBounds, ↓sop, ↓aop, ↓reduceIte, LV.cells, AOp.dst, LV.I, LV.B, LV.U, LV.S, LV.nil, Nat.reduceEqDiff, Nat.reduceAdd, Nat.reduceMul, Nat.reduceSub, Nat.reduceLeDiff, Nat.reduceBEq, Nat.reduceDiv, Nat.reduceMod, Int.reduceToNat, Int.reduceLT, Int.reduceLE, Int.reduceAdd, Int.reduceSub, Int.reduceMul, Int.reduceEq, Int.reduceNeg, reduceCtorEq, resV, resAll, ARes.ev, LV.flat, ite_true, ite_false, exists_eq_left', exists_eq_left, keyOf, implies_true, fillC, capOf]
    exact cmp_drop rfl
  rw [if_pos hH]
  simp (disch := omega) only [hH, ↓SXd, SXu, slBounds, ↓sop, ↓aop, ↓reduceIte, LV.cells, AOp.dst, LV.I, LV.B, LV.U, LV.S, LV.nil, Nat.reduceEqDiff, Nat.reduceAdd, Nat.reduceMul, Nat.reduceSub, Nat.reduceLeDiff, Nat.reduceBEq, Nat.reduceDiv, Nat.reduceMod, Int.reduceToNat, Int.reduceLT, Int.reduceLE, Int.reduceAdd, Int.reduceSub, Int.reduceMul, Int.reduceEq, Int.reduceNeg, reduceCtorEq, resV, resAll, ARes.ev, LV.flat, ite_true, ite_false, exists_eq_left', exists_eq_left, keyOf, implies_true, fillC, capOf]
  refine callK_of (g_bareFaces h.app hH) ?_
  simp (disch := omega) only [splice, ↓SXd, SXu, slBounds, ↓sop, ↓aop, ↓reduceIte, LV.cells, AOp.dst, LV.I, LV.B, LV.U, LV.S, LV.nil, Nat.reduceEqDiff, Nat.reduceAdd, Nat.reduceMul, Nat.reduceSub, Nat.reduceLeDiff, Nat.reduceBEq, Nat.reduceDiv, Nat.reduceMod, Int.reduceToNat, Int.reduceLT, Int.reduceLE, Int.reduceAdd, Int.reduceSub, Int.reduceMul, Int.reduceEq, Int.reduceNeg, reduceCtorEq, resV, resAll, ARes.ev, LV.flat, ite_true, ite_false, exists_eq_left', exists_eq_left, keyOf, implies_true, fillC, capOf]
  exact cmp_drop rfl
theorem g_OutsideFaces (hn : cs.length ≤ 1000000000) : CallsTo PG F.impl_OutsideFaces [.agg [.I x, .I y, .I z, .ref t 0 cs.length]] M (.tup [.I ((if HeapOK x y z cs then surfN (filL x y z cs) else 0 : Nat) : Int), .B (decide (HeapOK x y z cs))]) M := by
  refine calls_run K.impl_OutsideFaces rfl ?_
  simp (disch := omega) only [C.impl_OutsideFaces, ↓SXd, SXu, slBounds, ↓sop, ↓aop, ↓reduceIte, LV.cells, AOp.dst, LV.I, LV.B, LV.U, LV.S, LV.nil, Nat.reduceEqDiff, Nat.reduceAdd, Nat.reduceMul, Nat.reduceSub, Nat.reduceLeDiff, Nat.reduceBEq, Nat.reduceDiv, Nat.reduceMod, Int.reduceToNat, Int.reduceLT, Int.reduceLE, Int.reduceAdd, Int.reduceSub, Int.reduceMul, Int.reduceEq, Int.reduceNeg, reduceCtorEq, resV, resAll, ARes.ev, LV.flat, ite_true, ite_false, exists_eq_left', exists_eq_left, keyOf, implies_true, fillC, capOf]
  refine callK_of (g_IsHeap (Has.app h.has) hn) ?_
  simp (disch := omega) only [↓SXd, SXu, slBounds, ↓sop, ↓aop, ↓reduceIte, LV.cells, AOp.dst, LV.I, LV.B, LV.U, LV.S, LV.nil, Nat.reduceEqDiff, Nat.reduceAdd, Nat.reduceMul, Nat.reduceSub, Nat.reduceLeDiff, Nat.reduceBEq, Nat.reduceDiv, Nat.reduceMod, Int.reduceToNat, Int.reduceLT, Int.reduceLE, Int.reduceAdd, Int.reduceSub, Int.reduceMul, Int.reduceEq, Int.reduceNeg, reduceCtorEq, resV, resAll, ARes.ev, LV.flat, ite_true, ite_false, exists_eq_left', exists_eq_left, keyOf, implies_true, fillC, capOf]
  by_cases hH : HeapOK x y z cs
  rotate_left
  · rw [if_neg hH]
    simp (disch := omega) only [hH, ↓SXd, SXu, slBounds, ↓sop, ↓aop, ↓reduceIte, LV.cells, AOp.dst, LV.I, LV.B, LV.U, LV.S, LV.nil, Nat.reduceEqDiff, Nat.reduceAdd, Nat.reduceMul, Nat.reduceSub, Nat.reduceLeDiff, Nat.reduceBEq, Nat.reduceDiv, Nat.reduceMod, Int.reduceToNat, Int.reduceLT, Int.reduceLE, Int.reduceAdd, Int.reduceSub, Int.reduceMul, Int.reduceEq, Int.reduceNeg, reduceCtorEq, resV, resAll, ARes.ev, LV.flat, ite_true, ite_false, exists_eq_left', exists_eq_left, keyOf, implies_true, fillC, capOf]
    exact cmp_drop rfl
  rw [if_pos hH]
  have hlen := hH.len
  have hS := hH.1
  obtain ⟨⟨_, _⟩, ⟨_, _⟩, ⟨_, _⟩⟩ := id hS
  have hsum : surfN (filL x y z cs) = (cs.map (bareN (filL x y z cs))).sum := (outside_law hH).1.trans (surf_swap cs)
  have hb6 : ∀ c, bareN (filL x y z cs) c ≤ 6 := fun c => Nat.le_trans List.countP_le_length (by simp)
  simp (disch := omega) only [hH, ↓SXd, SXu, slBounds, ↓sop, ↓aop, ↓reduceIte, LV.cells, AOp.dst, LV.I, LV.B, LV.U, LV.S, LV.nil, Nat.reduceEqDiff, Nat.reduceAdd, Nat.reduceMul, Nat.reduceSub, Nat.reduceLeDiff, Nat.reduceBEq, Nat.reduceDiv, Nat.reduceMod, Int.reduceToNat, Int.reduceLT, Int.reduceLE, Int.reduceAdd, Int.reduceSub, Int.reduceMul, Int.reduceEq, Int.reduceNeg, reduceCtorEq, resV, resAll, ARes.ev, LV.flat, ite_true, ite_false, exists_eq_left', exists_eq_left, keyOf, implies_true, fillC, capOf]
  refine callK_of (g_enclosed (Has.app h.has) hn hH) ?_
  simp (disch := omega) only [↓SXd, SXu, slBounds, ↓sop, ↓aop, ↓reduceIte, LV.cells, AOp.dst, LV.I, LV.B, LV.U, LV.S, LV.nil, Nat.reduceEqDiff, Nat.reduceAdd, Nat.reduceMul, Nat.reduceSub, Nat.reduceLeDiff, Nat.reduceBEq, Nat.reduceDiv, Nat.reduceMod, Int.reduceToNat, Int.reduceLT, Int.reduceLE, Int.reduceAdd, Int.reduceSub, Int.reduceMul, Int.reduceEq, Int.reduceNeg, reduceCtorEq, resV, resAll, ARes.ev, LV.flat, ite_true, ite_false, exists_eq_left', exists_eq_left, keyOf, implies_true, fillC, capOf]
  refine ev_loop (fun m fr M' => ∃ k : Nat, k + m = cs.length ∧ Pre M M' ∧ Live M' M.length (.row [.I x, .I y, .I z, .ref t 0 cs.length] true 0) ∧ fr 1 = .ptr M.length 0 ∧ fr 4 = .I ((sumK (bareN (filL x y z cs)) cs k : Nat) : Int) ∧ fr 5 = .W (bs x y z (closed x y z fun c => decide (c ∈ cs))) ∧ fr 16 = .ref t 0 cs.length ∧ fr 17 = .I cs.length ∧ fr 18 = .I k) cs.length
    ⟨0, by omega, Pre.app _ _, Live.new, rfl, rfl, rfl, rfl, rfl, rfl⟩ ?_
  rintro m fr M' ⟨k, hk, hpre, b1, f1, f4, f5, f16, f17, f18⟩
  simp (disch := omega) only [f1, f4, f5, f16, f17, f18, ↓SXd, SXu, slBounds, ↓sop, ↓aop, ↓reduceIte, LV.cells, AOp.dst, LV.I, LV.B, LV.U, LV.S, LV.nil, Nat.reduceEqDiff, Nat.reduceAdd, Nat.reduceMul, Nat.reduceSub, Nat.reduceLeDiff, Nat.reduceBEq, Nat.reduceDiv, Nat.reduceMod, Int.reduceToNat, Int.reduceLT, Int.reduceLE, Int.reduceAdd, Int.reduceSub, Int.reduceMul, Int.reduceEq, Int.reduceNeg, reduceCtorEq, resV, resAll, ARes.ev, LV.flat, ite_true, ite_false, exists_eq_left', exists_eq_left, keyOf, implies_true, fillC, capOf]
  refine condC_dec (fun hlt => ?_) (fun hlt => ?_)
  · have hkl : k < cs.length := by omega
    have hg := (h.pre hpre).tri0 hkl
    have hcb := hH.mem (getD_mem' (d := default) hkl)
    have hss := sumK_succ (f := bareN (filL x y z cs)) hkl
    have hsl := sumK_le (f := bareN (filL x y z cs)) (cs := cs) (b := 6) hb6 (k := k) (by omega)
    generalize cs.getD k default = c at hg hcb hss
    generalize sumK (bareN (filL x y z cs)) cs k = s0 at f4 hss hsl
    obtain ⟨⟨_, _⟩, ⟨_, _⟩, ⟨_, _⟩⟩ := id hcb
    simp (disch := omega) only [f1, f4, f5, f16, f17, f18, hg, Cell.row, Nat.mul_one, Nat.zero_add, splice, ↓SXd, SXu, slBounds, ↓sop, ↓aop, ↓reduceIte, LV.cells, AOp.dst, LV.I, LV.B, LV.U, LV.S, LV.nil, Nat.reduceEqDiff, Nat.reduceAdd, Nat.reduceMul, Nat.reduceSub, Nat.reduceLeDiff, Nat.reduceBEq, Nat.reduceDiv, Nat.reduceMod, Int.reduceToNat, Int.reduceLT, Int.reduceLE, Int.reduceAdd, Int.reduceSub, Int.reduceMul, Int.reduceEq, Int.reduceNeg, reduceCtorEq, resV, resAll, ARes.ev, LV.flat, ite_true, ite_false, exists_eq_left', exists_eq_left, keyOf, implies_true, fillC, capOf]
    refine ev_loop (fun m2 fr N => ∃ d : Nat, d + m2 = 6 ∧ Pre M N ∧ M'.length < N.length ∧ Live N M.length (.row [.I x, .I y, .I z, .ref t 0 cs.length] true 0) ∧ Live N M'.length (.row c.row true 0) ∧ fr 1 = .ptr M.length 0 ∧ fr 4 = .I ((s0 + (List.range d).countP (fun f => decide (nbC c f ∉ filL x y z cs)) : Nat) : Int) ∧ fr 5 = .W (bs x y z (closed x y z fun c => decide (c ∈ cs))) ∧ fr 16 = .ref t 0 cs.length ∧ fr 17 = .I cs.length ∧ fr 18 = .I k ∧ fr 7 = .ptr M'.length 0 ∧ fr 22 = .I d) 6
      ⟨0, rfl, hpre.trans (Pre.app _ _), by simp, b1.app, Live.new, f1, f4, f5, f16, f17, f18, rfl, rfl⟩ ?_
    clear f1 f4 f5 f16 f17 f18 b1 hpre hg
    rintro m2 fr N ⟨d, hd, hpre, hN, b1, b7, f1, f4, f5, f16, f17, f18, f7, f22⟩
    simp (disch := omega) only [f1, f4, f5, f16, f17, f18, f7, f22, ↓SXd, SXu, slBounds, ↓sop, ↓aop, ↓reduceIte, LV.cells, AOp.dst, LV.I, LV.B, LV.U, LV.S, LV.nil, Nat.reduceEqDiff, Nat.reduceAdd, Nat.reduceMul, Nat.reduceSub, Nat.reduceLeDiff, Nat.reduceBEq, Nat.reduceDiv, Nat.reduceMod, Int.reduceToNat, Int.reduceLT, Int.reduceLE, Int.reduceAdd, Int.reduceSub, Int.reduceMul, Int.reduceEq, Int.reduceNeg, reduceCtorEq, resV, resAll, ARes.ev, LV.flat, ite_true, ite_false, exists_eq_left', exists_eq_left, keyOf, implies_true, fillC, capOf]
    refine condC_dec (fun hlt2 => ?_) (fun hlt2 => ?_)
    · have hd6 : d < 6 := by omega
      have hcl : (List.range d).countP (fun f => decide (nbC c f ∉ filL x y z cs)) ≤ 6 := Nat.le_trans List.countP_le_length (by simp; omega)
      have hcs : (List.range (d + 1)).countP (fun f => decide (nbC c f ∉ filL x y z cs)) = (List.range d).countP (fun f => decide (nbC c f ∉ filL x y z cs)) + if nbC c d ∉ filL x y z cs then 1 else 0 := by
        rw [List.range_succ, List.countP_append, List.countP_singleton]
        simp only [decide_eq_true_eq]
      generalize (List.range d).countP (fun f => decide (nbC c f ∉ filL x y z cs)) = n0 at f4 hcl hcs
      generalize hn1 : (List.range (d + 1)).countP (fun f => decide (nbC c f ∉ filL x y z cs)) = n1 at hcs
      simp (disch := omega) only [f1, f4, f5, f16, f17, f18, f7, f22, b1.cells, b7.cells, Cell.row, ↓SXd, SXu, slBounds, ↓sop, ↓aop, ↓reduceIte, LV.cells, AOp.dst, LV.I, LV.B, LV.U, LV.S, LV.nil, Nat.reduceEqDiff, Nat.reduceAdd, Nat.reduceMul, Nat.reduceSub, Nat.reduceLeDiff, Nat.reduceBEq, Nat.reduceDiv, Nat.reduceMod, Int.reduceToNat, Int.reduceLT, Int.reduceLE, Int.reduceAdd, Int.reduceSub, Int.reduceMul, Int.reduceEq, Int.reduceNeg, reduceCtorEq, resV, resAll, ARes.ev, LV.flat, ite_true, ite_false, exists_eq_left', exists_eq_left, keyOf, implies_true, fillC, capOf]
      refine callK_of (g_beyond (c := c) ⟨by omega, by omega, by omega⟩ hd6) ?_
      simp (disch := omega) only [f1, f4, f5, f16, f17, f18, f7, f22, splice, ↓SXd, SXu, slBounds, ↓sop, ↓aop, ↓reduceIte, LV.cells, AOp.dst, LV.I, LV.B, LV.U, LV.S, LV.nil, Nat.reduceEqDiff, Nat.reduceAdd, Nat.reduceMul, Nat.reduceSub, Nat.reduceLeDiff, Nat.reduceBEq, Nat.reduceDiv, Nat.reduceMod, Int.reduceToNat, Int.reduceLT, Int.reduceLE, Int.reduceAdd, Int.reduceSub, Int.reduceMul, Int.reduceEq, Int.reduceNeg, reduceCtorEq, resV, resAll, ARes.ev, LV.flat, ite_true, ite_false, exists_eq_left', exists_eq_left, keyOf, implies_true, fillC, capOf]
      have e9 : Live (N ++ [some (.row [.I (nbC c d).a, .I (nbC c d).b, .I (nbC c d).c] true 0)]) N.length (.row [.I (nbC c d).a, .I (nbC c d).b, .I (nbC c d).c] true 0) := Live.new
      have hpN : Pre N (N ++ [some (.row [.I (nbC c d).a, .I (nbC c d).b, .I (nbC c d).c] true 0)]) := Pre.app _ _
      have hmf := mem_fil hH (c := nbC c d)
      generalize nbC c d = e at e9 hpN hmf hcs ⊢
      generalize N ++ [some (.row [.I e.a, .I e.b, .I e.c] true 0)] = N1 at e9 hpN ⊢
      have hNl := hpN.1
      have c1 := b1.pre hpN
      have c7 := b7.pre hpN
      have hpre1 := hpre.trans hpN
      simp (disch := omega) only [f1, f4, f5, f16, f17, f18, f7, f22, c1.cells, e9.cells, ↓SXd, SXu, slBounds, ↓sop, ↓aop, ↓reduceIte, LV.cells, AOp.dst, LV.I, LV.B, LV.U, LV.S, LV.nil, Nat.reduceEqDiff, Nat.reduceAdd, Nat.reduceMul, Nat.reduceSub, Nat.reduceLeDiff, Nat.reduceBEq, Nat.reduceDiv, Nat.reduceMod, Int.reduceToNat, Int.reduceLT, Int.reduceLE, Int.reduceAdd, Int.reduceSub, Int.reduceMul, Int.reduceEq, Int.reduceNeg, reduceCtorEq, resV, resAll, ARes.ev, LV.flat, ite_true, ite_false, exists_eq_left', exists_eq_left, keyOf, implies_true, fillC, capOf]
      refine callK_of (g_isBare (h.pre hpre1).has hH) ?_
      simp (disch := omega) only [f1, f4, f5, f16, f17, f18, f7, f22, ↓SXd, SXu, slBounds, ↓sop, ↓aop, ↓reduceIte, LV.cells, AOp.dst, LV.I, LV.B, LV.U, LV.S, LV.nil, Nat.reduceEqDiff, Nat.reduceAdd, Nat.reduceMul, Nat.reduceSub, Nat.reduceLeDiff, Nat.reduceBEq, Nat.reduceDiv, Nat.reduceMod, Int.reduceToNat, Int.reduceLT, Int.reduceLE, Int.reduceAdd, Int.reduceSub, Int.reduceMul, Int.reduceEq, Int.reduceNeg, reduceCtorEq, resV, resAll, ARes.ev, LV.flat, ite_true, ite_false, exists_eq_left', exists_eq_left, keyOf, implies_true, fillC, capOf]
      by_cases j1 : e ∈ cs
      · rw [show decide (e ∉ cs) = false from decide_eq_false fun k => k j1]
        simp (disch := omega) only [f1, f4, f5, f16, f17, f18, f7, f22, ↓SXd, SXu, slBounds, ↓sop, ↓aop, ↓reduceIte, LV.cells, AOp.dst, LV.I, LV.B, LV.U, LV.S, LV.nil, Nat.reduceEqDiff, Nat.reduceAdd, Nat.reduceMul, Nat.reduceSub, Nat.reduceLeDiff, Nat.reduceBEq, Nat.reduceDiv, Nat.reduceMod, Int.reduceToNat, Int.reduceLT, Int.reduceLE, Int.reduceAdd, Int.reduceSub, Int.reduceMul, Int.reduceEq, Int.reduceNeg, reduceCtorEq, resV, resAll, ARes.ev, LV.flat, ite_true, ite_false, exists_eq_left', exists_eq_left, keyOf, implies_true, fillC, capOf]
        exact ⟨m2 - 1, by omega, d + 1, by omega, hpre1, by omega, c1, c7, f1, f4.trans (by rw [hn1, hcs, if_neg (fun k => k (hmf.2 (.inl j1)))]; rfl), f5, f16, f17, f18, f7, eqI (natI _)⟩
      rw [show decide (e ∉ cs) = true from decide_eq_true j1]
      simp (disch := omega) only [f1, f4, f5, f16, f17, f18, f7, f22, c1.cells, e9.cells, ↓SXd, SXu, slBounds, ↓sop, ↓aop, ↓reduceIte, LV.cells, AOp.dst, LV.I, LV.B, LV.U, LV.S, LV.nil, Nat.reduceEqDiff, Nat.reduceAdd, Nat.reduceMul, Nat.reduceSub, Nat.reduceLeDiff, Nat.reduceBEq, Nat.reduceDiv, Nat.reduceMod, Int.reduceToNat, Int.reduceLT, Int.reduceLE, Int.reduceAdd, Int.reduceSub, Int.reduceMul, Int.reduceEq, Int.reduceNeg, reduceCtorEq, resV, resAll, ARes.ev, LV.flat, ite_true, ite_false, exists_eq_left', exists_eq_left, keyOf, implies_true, fillC, capOf]
      refine callK_of (g_box) ?_
      simp (disch := omega) only [f1, f4, f5, f16, f17, f18, f7, f22, ↓SXd, SXu, slBounds, ↓sop, ↓aop, ↓reduceIte, LV.cells, AOp.dst, LV.I, LV.B, LV.U, LV.S, LV.nil, Nat.reduceEqDiff, Nat.reduceAdd, Nat.reduceMul, Nat.reduceSub, Nat.reduceLeDiff, Nat.reduceBEq, Nat.reduceDiv, Nat.reduceMod, Int.reduceToNat, Int.reduceLT, Int.reduceLE, Int.reduceAdd, Int.reduceSub, Int.reduceMul, Int.reduceEq, Int.reduceNeg, reduceCtorEq, resV, resAll, ARes.ev, LV.flat, ite_true, ite_false, exists_eq_left', exists_eq_left, keyOf, implies_true, fillC, capOf]
      refine callK_of (g_has hS) ?_
      simp (disch := omega) only [f1, f4, f5, f16, f17, f18, f7, f22, ↓SXd, SXu, slBounds, ↓sop, ↓aop, ↓reduceIte, LV.cells, AOp.dst, LV.I, LV.B, LV.U, LV.S, LV.nil, Nat.reduceEqDiff, Nat.reduceAdd, Nat.reduceMul, Nat.reduceSub, Nat.reduceLeDiff, Nat.reduceBEq, Nat.reduceDiv, Nat.reduceMod, Int.reduceToNat, Int.reduceLT, Int.reduceLE, Int.reduceAdd, Int.reduceSub, Int.reduceMul, Int.reduceEq, Int.reduceNeg, reduceCtorEq, resV, resAll, ARes.ev, LV.flat, ite_true, ite_false, exists_eq_left', exists_eq_left, keyOf, implies_true, fillC, capOf]
      by_cases j2 : e.inBox x y z
      · rw [show decide (Cell.inBox x y z ⟨e.a, e.b, e.c⟩) = true from decide_eq_true j2]
        simp (disch := omega) only [f1, f4, f5, f16, f17, f18, f7, f22, c1.cells, e9.cells, ↓SXd, SXu, slBounds, ↓sop, ↓aop, ↓reduceIte, LV.cells, AOp.dst, LV.I, LV.B, LV.U, LV.S, LV.nil, Nat.reduceEqDiff, Nat.reduceAdd, Nat.reduceMul, Nat.reduceSub, Nat.reduceLeDiff, Nat.reduceBEq, Nat.reduceDiv, Nat.reduceMod, Int.reduceToNat, Int.reduceLT, Int.reduceLE, Int.reduceAdd, Int.reduceSub, Int.reduceMul, Int.reduceEq, Int.reduceNeg, reduceCtorEq, resV, resAll, ARes.ev, LV.flat, ite_true, ite_false, exists_eq_left', exists_eq_left, keyOf, implies_true, fillC, capOf]
        refine callK_of (g_box) ?_
        simp (disch := omega) only [f1, f4, f5, f16, f17, f18, f7, f22, ↓SXd, SXu, slBounds, ↓sop, ↓aop, ↓reduceIte, LV.cells, AOp.dst, LV.I, LV.B, LV.U, LV.S, LV.nil, Nat.reduceEqDiff, Nat.reduceAdd, Nat.reduceMul, Nat.reduceSub, Nat.reduceLeDiff, Nat.reduceBEq, Nat.reduceDiv, Nat.reduceMod, Int.reduceToNat, Int.reduceLT, Int.reduceLE, Int.reduceAdd, Int.reduceSub, Int.reduceMul, Int.reduceEq, Int.reduceNeg, reduceCtorEq, resV, resAll, ARes.ev, LV.flat, ite_true, ite_false, exists_eq_left', exists_eq_left, keyOf, implies_true, fillC, capOf]
        refine callK_of (g_index hS j2) ?_
        simp (disch := omega) only [f1, f4, f5, f16, f17, f18, f7, f22, ↓SXd, SXu, slBounds, ↓sop, ↓aop, ↓reduceIte, LV.cells, AOp.dst, LV.I, LV.B, LV.U, LV.S, LV.nil, Nat.reduceEqDiff, Nat.reduceAdd, Nat.reduceMul, Nat.reduceSub, Nat.reduceLeDiff, Nat.reduceBEq, Nat.reduceDiv, Nat.reduceMod, Int.reduceToNat, Int.reduceLT, Int.reduceLE, Int.reduceAdd, Int.reduceSub, Int.reduceMul, Int.reduceEq, Int.reduceNeg, reduceCtorEq, resV, resAll, ARes.ev, LV.flat, ite_true, ite_false, exists_eq_left', exists_eq_left, keyOf, implies_true, fillC, capOf]
        refine callK_of (g_has_set (idx_in hS j2).1) ?_
        simp (disch := omega) only [f1, f4, f5, f16, f17, f18, f7, f22, ↓SXd, SXu, slBounds, ↓sop, ↓aop, ↓reduceIte, LV.cells, AOp.dst, LV.I, LV.B, LV.U, LV.S, LV.nil, Nat.reduceEqDiff, Nat.reduceAdd, Nat.reduceMul, Nat.reduceSub, Nat.reduceLeDiff, Nat.reduceBEq, Nat.reduceDiv, Nat.reduceMod, Int.reduceToNat, Int.reduceLT, Int.reduceLE, Int.reduceAdd, Int.reduceSub, Int.reduceMul, Int.reduceEq, Int.reduceNeg, reduceCtorEq, resV, resAll, ARes.ev, LV.flat, ite_true, ite_false, exists_eq_left', exists_eq_left, keyOf, implies_true, fillC, capOf]
        rw [bs_has hS j2]
        cases j3 : closed x y z (fun c => decide (c ∈ cs)) e
        · simp (disch := omega) only [f1, f4, f5, f16, f17, f18, f7, f22, ↓SXd, SXu, slBounds, ↓sop, ↓aop, ↓reduceIte, LV.cells, AOp.dst, LV.I, LV.B, LV.U, LV.S, LV.nil, Nat.reduceEqDiff, Nat.reduceAdd, Nat.reduceMul, Nat.reduceSub, Nat.reduceLeDiff, Nat.reduceBEq, Nat.reduceDiv, Nat.reduceMod, Int.reduceToNat, Int.reduceLT, Int.reduceLE, Int.reduceAdd, Int.reduceSub, Int.reduceMul, Int.reduceEq, Int.reduceNeg, reduceCtorEq, resV, resAll, ARes.ev, LV.flat, ite_true, ite_false, exists_eq_left', exists_eq_left, keyOf, implies_true, fillC, capOf]
          exact ⟨m2 - 1, by omega, d + 1, by omega, hpre1, by omega, c1, c7, f1, by rw [hn1, hcs, if_pos (fun k => (hmf.1 k).elim j1 fun k2 => by rw [j3] at k2; exact Bool.noConfusion k2.2)]; exact eqI (by omega), f5, f16, f17, f18, f7, eqI (natI _)⟩
        · simp (disch := omega) only [f1, f4, f5, f16, f17, f18, f7, f22, ↓SXd, SXu, slBounds, ↓sop, ↓aop, ↓reduceIte, LV.cells, AOp.dst, LV.I, LV.B, LV.U, LV.S, LV.nil, Nat.reduceEqDiff, Nat.reduceAdd, Nat.reduceMul, Nat.reduceSub, Nat.reduceLeDiff, Nat.reduceBEq, Nat.reduceDiv, Nat.reduceMod, Int.reduceToNat, Int.reduceLT, Int.reduceLE, Int.reduceAdd, Int.reduceSub, Int.reduceMul, Int.reduceEq, Int.reduceNeg, reduceCtorEq, resV, resAll, ARes.ev, LV.flat, ite_true, ite_false, exists_eq_left', exists_eq_left, keyOf, implies_true, fillC, capOf]
          exact ⟨m2 - 1, by omega, d + 1, by omega, hpre1, by omega, c1, c7, f1, f4.trans (by rw [hn1, hcs, if_neg (fun k => k (hmf.2 (.inr ⟨j2, j3⟩)))]; rfl), f5, f16, f17, f18, f7, eqI (natI _)⟩
      · rw [show decide (Cell.inBox x y z ⟨e.a, e.b, e.c⟩) = false from decide_eq_false j2]
        simp (disch := omega) only [f1, f4, f5, f16, f17, f18, f7, f22, ↓SXd, SXu, slBounds, ↓sop, ↓aop, ↓reduceIte, LV.cells, AOp.dst, LV.I, LV.B, LV.U, LV.S, LV.nil, Nat.reduceEqDiff, Nat.reduceAdd, Nat.reduceMul, Nat.reduceSub, Nat.reduceLeDiff, Nat.reduceBEq, Nat.reduceDiv, Nat.reduceMod, Int.reduceToNat, Int.reduceLT, Int.reduceLE, Int.reduceAdd, Int.reduceSub, Int.reduceMul, Int.reduceEq, Int.reduceNeg, reduceCtorEq, resV, resAll, ARes.ev, LV.flat, ite_true, ite_false, exists_eq_left', exists_eq_left, keyOf, implies_true, fillC, capOf]
        exact ⟨m2 - 1, by omega, d + 1, by omega, hpre1, by omega, c1, c7, f1, by rw [hn1, hcs, if_pos (fun k => (hmf.1 k).elim j1 fun k2 => j2 k2.1)]; exact eqI (by omega), f5, f16, f17, f18, f7, eqI (natI _)⟩
    · have hd6 : d = 6 := by omega
      subst hd6
      simp (disch := omega) only [f1, f4, f5, f16, f17, f18, f7, f22, ↓SXd, SXu, slBounds, ↓sop, ↓aop, ↓reduceIte, LV.cells, AOp.dst, LV.I, LV.B, LV.U, LV.S, LV.nil, Nat.reduceEqDiff, Nat.reduceAdd, Nat.reduceMul, Nat.reduceSub, Nat.reduceLeDiff, Nat.reduceBEq, Nat.reduceDiv, Nat.reduceMod, Int.reduceToNat, Int.reduceLT, Int.reduceLE, Int.reduceAdd, Int.reduceSub, Int.reduceMul, Int.reduceEq, Int.reduceNeg, reduceCtorEq, resV, resAll, ARes.ev, LV.flat, ite_true, ite_false, exists_eq_left', exists_eq_left, keyOf, implies_true, fillC, capOf]
      exact ⟨m - 1, by omega, k + 1, by omega, hpre, b1, f1, f4.trans (by rw [hss]; rfl), f5, f16, f17, eqI (natI _)⟩
  · have hkl : k = cs.length := by omega
    subst hkl
    rw [sumK_all, ← hsum] at f4
    simp (disch := omega) only [f1, f4, f5, f16, f17, f18, ↓SXd, SXu, slBounds, ↓sop, ↓aop, ↓reduceIte, LV.cells, AOp.dst, LV.I, LV.B, LV.U, LV.S, LV.nil, Nat.reduceEqDiff, Nat.reduceAdd, Nat.reduceMul, Nat.reduceSub, Nat.reduceLeDiff, Nat.reduceBEq, Nat.reduceDiv, Nat.reduceMod, Int.reduceToNat, Int.reduceLT, Int.reduceLE, Int.reduceAdd, Int.reduceSub, Int.reduceMul, Int.reduceEq, Int.reduceNeg, reduceCtorEq, resV, resAll, ARes.ev, LV.flat, ite_true, ite_false, exists_eq_left', exists_eq_left, keyOf, implies_true, fillC, capOf]
    exact cmp_pre hpre rfl
end
end Go.Ab

/- Plain: the square of the number of cubes is at most the product of the three shadows. -/
namespace Go.Ab
open Go
set_option linter.unusedSimpArgs false
set_option linter.unusedVariables false
set_option maxRecDepth 20000

theorem sum_add {α : Type} (g h : α → Nat) : ∀ l : List α, (l.map fun i => g i + h i).sum = (l.map g).sum + (l.map h).sum
  | [] => rfl
  | a :: l => by
    have := sum_add g h l
    simp only [List.map_cons, List.sum_cons, this]; omega
section
variable {x y z : Int}
/-- How many cells lie on a line. -/
def lineN (y z : Int) (d : Nat) (cs : List Cell) (i : Nat) : Nat := cs.countP (onLine y z d i)
/-- The lit lines of a direction. -/
def litX (x y z : Int) (d : Nat) (cs : List Cell) : List Nat := (List.range (linesOf x y z d).toNat).filter fun i => decide (0 < lineN y z d cs i)
end
end Go.Ab

/- Contracts: bare squares by lines, both sides. -/
namespace Go.Ab
open Go
set_option linter.unusedSimpArgs false
set_option linter.unusedVariables false
set_option maxRecDepth 20000

/-- A number is added at a place of a list. -/
def addAt (v : List Int) (j : Nat) (a : Int) : List Int := v.set j (v.getD j 0 + a)
theorem addAt_zero {v : List Int} {j : Nat} (h : j < v.length) : addAt v j 0 = v := by
  unfold addAt
  refine int_ext (by simp) fun i hi => ?_
  rw [List.getD_eq_getElem?_getD, List.getElem?_set]
  by_cases e : j = i
  · subst e; simp [h]
  · simp [e]
theorem addAt_get {v : List Int} {j i : Nat} {a : Int} (h : j < v.length) : (addAt v j a).getD i 0 = v.getD i 0 + if j = i then a else 0 := by
  unfold addAt
  rw [List.getD_eq_getElem?_getD, List.getElem?_set]
  by_cases e : j = i
  · subst e; simp [h]
  · simp [e]
theorem addAt_len {v : List Int} {j : Nat} {a : Int} : (addAt v j a).length = v.length := by simp [addAt]
theorem addAt_add {v : List Int} {j : Nat} {a b : Int} (h : j < v.length) : addAt (addAt v j a) j b = addAt v j (a + b) := by
  refine int_ext (by simp [addAt_len]) fun i hi => ?_
  rw [addAt_get (by rw [addAt_len]; exact h), addAt_get h, addAt_get h]
  split <;> omega
/-- Each cell's weight is added to its line. -/
def sqStep (y z : Int) (d : Nat) (g : Cell → Nat) (v : List Int) (c : Cell) : List Int := addAt v (lineOf y z c d).toNat (g c)
def sqF (x y z : Int) (d : Nat) (g : Cell → Nat) (l : List Cell) : List Int := l.foldl (sqStep y z d g) (List.replicate (linesOf x y z d).toNat 0)
section
variable {x y z : Int} {d : Nat} {g : Cell → Nat}
theorem sqFold_len : ∀ {l : List Cell} {v : List Int}, (l.foldl (sqStep y z d g) v).length = v.length
  | [], _ => rfl
  | c :: l, v => by rw [List.foldl_cons, sqFold_len]; exact addAt_len
theorem sqF_len {l : List Cell} : (sqF x y z d g l).length = (linesOf x y z d).toNat := by unfold sqF; rw [sqFold_len]; simp
theorem sqFold_get : ∀ {l : List Cell} {v : List Int} {i : Nat}, (∀ c ∈ l, (lineOf y z c d).toNat < v.length) → (l.foldl (sqStep y z d g) v).getD i 0 = v.getD i 0 + (((l.map fun c => if (lineOf y z c d).toNat = i then g c else 0).sum : Nat) : Int)
  | [], v, i, _ => by simp
  | c :: l, v, i, h => by
    rw [List.foldl_cons, sqFold_get (fun e he => by unfold sqStep; rw [addAt_len]; exact h e (by simp [he]))]
    unfold sqStep
    rw [addAt_get (h c (by simp)), List.map_cons, List.sum_cons]
    split <;> omega
theorem sqFold_sum : ∀ {l : List Cell} {v : List Int}, (∀ c ∈ l, (lineOf y z c d).toNat < v.length) → litSum (l.foldl (sqStep y z d g) v) = litSum v + (((l.map g).sum : Nat) : Int)
  | [], v, _ => by simp
  | c :: l, v, h => by
    rw [List.foldl_cons, sqFold_sum (fun e he => by unfold sqStep; rw [addAt_len]; exact h e (by simp [he]))]
    unfold sqStep addAt
    rw [litSum_set (h c (by simp)), List.map_cons, List.sum_cons]
    omega
theorem sqF_succ {l : List Cell} {k : Nat} (h : k < l.length) : sqF x y z d g (l.take (k + 1)) = addAt (sqF x y z d g (l.take k)) (lineOf y z (l.getD k default) d).toNat (g (l.getD k default)) := by
  unfold sqF
  rw [take_succ_foldl _ _ _ _ default h]
  rfl
theorem sqF_in (hS : Sides x y z) (hd : d < 3) {l : List Cell} (hin : ∀ c ∈ l, c.inBox x y z) : ∀ c ∈ l, (lineOf y z c d).toNat < (List.replicate (linesOf x y z d).toNat (0 : Int)).length := fun c hc => by
  have := lineOf_in hS (hin c hc) hd
  simp; omega
theorem sqF_bound (hS : Sides x y z) (hd : d < 3) {l : List Cell} (hin : ∀ c ∈ l, c.inBox x y z) (hg : ∀ c, g c ≤ 2) (i : Nat) : 0 ≤ (sqF x y z d g l).getD i 0 ∧ (sqF x y z d g l).getD i 0 ≤ 2 * l.length := by
  unfold sqF
  rw [sqFold_get (sqF_in hS hd hin)]
  have h0 : (List.replicate (linesOf x y z d).toNat (0 : Int)).getD i 0 = 0 := by
    rw [List.getD_eq_getElem?_getD, List.getElem?_replicate]; split <;> simp
  have h1 : ∀ l : List Cell, (l.map fun c => if (lineOf y z c d).toNat = i then g c else 0).sum ≤ 2 * l.length := fun l => by
    induction l with
    | nil => simp
    | cons a l ih =>
      simp only [List.map_cons, List.sum_cons, List.length_cons]
      have := hg a
      split <;> omega
  have := h1 l
  omega
end
/-- The ends of stretches count twice. -/
def gEnd (cs : List Cell) (d : Nat) (c : Cell) : Nat := if nbC c (2 * d + 1) ∉ cs then 2 else 0
/-- The first faces of two count. -/
def gTwo (cs : List Cell) (d e : Nat) (c : Cell) : Nat := (List.range e).countP fun f => decide (nbC c (2 * d + f) ∉ cs)
theorem gTwo_succ {cs : List Cell} {d e : Nat} {c : Cell} : gTwo cs d (e + 1) c = gTwo cs d e c + if nbC c (2 * d + e) ∉ cs then 1 else 0 := by
  unfold gTwo
  rw [List.range_succ, List.countP_append, List.countP_singleton]
  simp only [decide_eq_true_eq]
theorem gTwo_le {cs : List Cell} {d e : Nat} {c : Cell} : gTwo cs d e c ≤ e := Nat.le_trans List.countP_le_length (by simp)
theorem gEnd_le {cs : List Cell} {d : Nat} {c : Cell} : gEnd cs d c ≤ 2 := by unfold gEnd; split <;> omega
theorem sum_ifs {l : List Cell} (P Q : Cell → Bool) (a : Nat) : (l.map fun c => if P c = true then (if Q c = true then a else 0) else 0).sum = a * l.countP fun c => P c && Q c := by
  induction l with
  | nil => simp
  | cons b l ih =>
    simp only [List.map_cons, List.sum_cons, ih, List.countP_cons]
    cases P b <;> cases Q b <;> simp [Nat.mul_add] <;> omega
section
variable {x y z : Int} {d : Nat} {cs : List Cell} (hH : HeapOK x y z cs) (hd : d < 3)
include hH hd
theorem sq_same : sqF x y z d (gTwo cs d 2) cs = sqF x y z d (gEnd cs d) cs := by
  have hin : ∀ c ∈ cs, c.inBox x y z := fun c hc => hH.mem hc
  refine int_ext (by rw [sqF_len, sqF_len]) fun i hi => ?_
  unfold sqF
  rw [sqFold_get (sqF_in hH.1 hd hin), sqFold_get (sqF_in hH.1 hd hin)]
  refine congrArg _ (congrArg Int.ofNat ?_)
  have e1 : (cs.map fun c => if (lineOf y z c d).toNat = i then gEnd cs d c else 0).sum = 2 * cs.countP fun c => onLine y z d i c && decide (nbC c (2 * d + 1) ∉ cs) := by
    rw [← sum_ifs]
    refine congrArg List.sum (List.map_congr_left fun c _ => ?_)
    unfold gEnd onLine
    simp only [decide_eq_true_eq]
  have e2 : (cs.map fun c => if (lineOf y z c d).toNat = i then gTwo cs d 2 c else 0).sum = (1 * cs.countP fun c => onLine y z d i c && decide (nbC c (2 * d) ∉ cs)) + 1 * cs.countP fun c => onLine y z d i c && decide (nbC c (2 * d + 1) ∉ cs) := by
    rw [← sum_ifs, ← sum_ifs, ← sum_add]
    refine congrArg List.sum (List.map_congr_left fun c _ => ?_)
    rw [gTwo_succ, gTwo_succ]
    unfold gTwo onLine
    simp only [decide_eq_true_eq, List.range_zero, List.countP_nil, Nat.zero_add, Nat.add_zero]
    split <;> rfl
  have e3 := face_line hH.nodup (q := onLine y z d i) (f := 2 * d) (by omega) fun c => by
    unfold onLine
    rw [(line_nb hd).1]
  have e4 : oppF (2 * d) = 2 * d + 1 := by unfold oppF; rw [if_pos (by omega)]
  rw [e4] at e3
  rw [e1, e2]
  omega
theorem sq_sum : litSum (sqF x y z d (gEnd cs d) cs) = (faceN cs (2 * d) : Int) + faceN cs (2 * d + 1) := by
  have hin : ∀ c ∈ cs, c.inBox x y z := fun c hc => hH.mem hc
  rw [← sq_same hH hd]
  unfold sqF
  rw [sqFold_sum (sqF_in hH.1 hd hin), litSum_zero, Int.zero_add]
  have e2 : (cs.map (gTwo cs d 2)).sum = (1 * cs.countP fun c => (fun _ => true) c && decide (nbC c (2 * d) ∉ cs)) + 1 * cs.countP fun c => (fun _ => true) c && decide (nbC c (2 * d + 1) ∉ cs) := by
    rw [← sum_ifs, ← sum_ifs, ← sum_add]
    refine congrArg List.sum (List.map_congr_left fun c _ => ?_)
    rw [gTwo_succ, gTwo_succ]
    unfold gTwo
    simp only [decide_eq_true_eq, List.range_zero, List.countP_nil, Nat.zero_add, Nat.add_zero, if_true]
  rw [e2]
  unfold faceN
  simp only [Bool.true_and, Nat.one_mul]
  omega
end
/-- What BareSquares answers. -/
noncomputable def sqrOf (x y z : Int) (cs : List Cell) (d : Int) : List Int := by
  classical
  exact if HeapOK x y z cs ∧ Dir d then sqF x y z d.toNat (gEnd cs d.toNat) cs else []
noncomputable def sqrB (x y z : Int) (cs : List Cell) (d : Int) : Bool := by
  classical
  exact decide (HeapOK x y z cs ∧ Dir d)
/-- A list of numbers that may be read, and a truth. -/
def IntsG (M : Mem) (l : List Int) (b : Bool) (v : LV) (N : Mem) : Prop := ∃ w, v = .tup [w, .B b] ∧ IntsV N w l ∧ Pre M N
theorem step_nb {c : Cell} {d : Nat} (hd : d < 3) : nbC c (2 * d + 1) = ⟨c.a + (if d = 0 then 1 else 0), c.b + (if d = 1 then 1 else 0), c.c + (if d = 2 then 1 else 0)⟩ := by
  rcases (show d = 0 ∨ d = 1 ∨ d = 2 by omega) with rfl | rfl | rfl <;> simp [nbC]
section
variable {x y z : Int} {t : Nat} {w : Bool} {cs : List Cell} {M : Mem} (h : Live M t (.row (triL cs) w 3))
include h
theorem h_l6Stretches {d : Nat} (hH : HeapOK x y z cs) (hd : d < 3) : CallsR PG F.spec_l6Stretches [.agg [.I x, .I y, .I z, .ref t 0 cs.length], .I d] M fun v N => ∃ u : Nat, v = .ref u 0 (sqF x y z d (gEnd cs d) cs).length ∧ Ints N u 0 (sqF x y z d (gEnd cs d) cs) ∧ Pre M N := by
  have hS := hH.1
  have hlp : 1 ≤ linesOf x y z d ∧ linesOf x y z d ≤ 16 := by
    have := prod_le hS
    rcases (show d = 0 ∨ d = 1 ∨ d = 2 by omega) with rfl | rfl | rfl
    · exact this.2.2
    · exact this.2.1
    · exact this.1
  have hlen := hH.len
  have hin : ∀ c ∈ cs, c.inBox x y z := fun c hc => hH.mem hc
  have hda : Dir (if d = 0 then 1 else 0) := by unfold Dir; split <;> omega
  have hdb : Dir (if d = 2 then 1 else 2) := by unfold Dir; split <;> omega
  have hline : ∀ c : Cell, c.at (if d = 0 then 1 else 0) * sideOf x y z (if d = 2 then 1 else 2) + c.at (if d = 2 then 1 else 2) = lineOf y z c d := fun c => by
    rcases (show d = 0 ∨ d = 1 ∨ d = 2 by omega) with rfl | rfl | rfl <;> rfl
  have hrA : 0 ≤ (if d = 0 then (1 : Int) else 0) ∧ (if d = 0 then (1 : Int) else 0) < 3 := by split <;> omega
  have hrB : 0 ≤ (if d = 2 then (1 : Int) else 2) ∧ (if d = 2 then (1 : Int) else 2) < 3 := by split <;> omega
  have hst : [LV.I 0, .I 0, .I 0].set d (.I 1) = [.I (if d = 0 then 1 else 0), .I (if d = 1 then 1 else 0), .I (if d = 2 then 1 else 0)] := by
    rcases (show d = 0 ∨ d = 1 ∨ d = 2 by omega) with rfl | rfl | rfl <;> rfl
  have hvl : (viewL x y z d cs).length = (linesOf x y z d).toNat := viewL_len
  refine callsR_run K.spec_l6Stretches rfl ?_
  simp (disch := omega) only [C.spec_l6Stretches, ↓SXd, SXu, slBounds, ↓sop, ↓aop, ↓reduceIte, LV.cells, AOp.dst, LV.I, LV.B, LV.U, LV.S, LV.nil, Nat.reduceEqDiff, Nat.reduceAdd, Nat.reduceMul, Nat.reduceSub, Nat.reduceLeDiff, Nat.reduceBEq, Nat.reduceDiv, Nat.reduceMod, Int.reduceToNat, Int.reduceLT, Int.reduceLE, Int.reduceAdd, Int.reduceSub, Int.reduceMul, Int.reduceEq, Int.reduceNeg, reduceCtorEq, resV, resAll, ARes.ev, LV.flat, ite_true, ite_false, exists_eq_left', exists_eq_left, keyOf, implies_true, fillC, capOf]
  refine callK_of (h_l2View (Has.app h.has) hH hd) ?_
  simp (disch := omega) only [hvl, made_int, splice, ↓SXd, SXu, slBounds, ↓sop, ↓aop, ↓reduceIte, LV.cells, AOp.dst, LV.I, LV.B, LV.U, LV.S, LV.nil, Nat.reduceEqDiff, Nat.reduceAdd, Nat.reduceMul, Nat.reduceSub, Nat.reduceLeDiff, Nat.reduceBEq, Nat.reduceDiv, Nat.reduceMod, Int.reduceToNat, Int.reduceLT, Int.reduceLE, Int.reduceAdd, Int.reduceSub, Int.reduceMul, Int.reduceEq, Int.reduceNeg, reduceCtorEq, resV, resAll, ARes.ev, LV.flat, ite_true, ite_false, exists_eq_left', exists_eq_left, keyOf, implies_true, fillC, capOf]
  generalize viewL x y z d cs = vw at hvl ⊢
  have b6 : Live (M ++ [some (.row [.I x, .I y, .I z, .ref t 0 cs.length] true 0), some (.row (intL vw) true 1), some (.row (intL (List.replicate (linesOf x y z d).toNat 0)) true 1), some (.row [.I 0, .I 0, .I 0] true 0)]) (M.length + 3) (.row [.I 0, .I 0, .I 0] true 0) := Live.newj rfl
  have b2 : Live (M ++ [some (.row [.I x, .I y, .I z, .ref t 0 cs.length] true 0), some (.row (intL vw) true 1), some (.row (intL (List.replicate (linesOf x y z d).toNat 0)) true 1), some (.row [.I 0, .I 0, .I 0] true 0)]) M.length (.row [.I x, .I y, .I z, .ref t 0 cs.length] true 0) := Live.new
  have bo : Live (M ++ [some (.row [.I x, .I y, .I z, .ref t 0 cs.length] true 0), some (.row (intL vw) true 1), some (.row (intL (List.replicate (linesOf x y z d).toNat 0)) true 1), some (.row [.I 0, .I 0, .I 0] true 0)]) (M.length + 2) (.row (intL (List.replicate (linesOf x y z d).toNat 0)) true 1) := Live.newj rfl
  have hpre : Pre M (M ++ [some (.row [.I x, .I y, .I z, .ref t 0 cs.length] true 0), some (.row (intL vw) true 1), some (.row (intL (List.replicate (linesOf x y z d).toNat 0)) true 1), some (.row [.I 0, .I 0, .I 0] true 0)]) := Pre.app _ _
  generalize M ++ [some (.row [.I x, .I y, .I z, .ref t 0 cs.length] true 0), some (.row (intL vw) true 1), some (.row (intL (List.replicate (linesOf x y z d).toNat 0)) true 1), some (Blk.row [.I 0, .I 0, .I 0] true 0)] = M1 at b6 b2 bo hpre ⊢
  refine callK_of (h_l2Others hd) ?_
  simp (disch := omega) only [↓SXd, SXu, slBounds, ↓sop, ↓aop, ↓reduceIte, LV.cells, AOp.dst, LV.I, LV.B, LV.U, LV.S, LV.nil, Nat.reduceEqDiff, Nat.reduceAdd, Nat.reduceMul, Nat.reduceSub, Nat.reduceLeDiff, Nat.reduceBEq, Nat.reduceDiv, Nat.reduceMod, Int.reduceToNat, Int.reduceLT, Int.reduceLE, Int.reduceAdd, Int.reduceSub, Int.reduceMul, Int.reduceEq, Int.reduceNeg, reduceCtorEq, resV, resAll, ARes.ev, LV.flat, ite_true, ite_false, exists_eq_left', exists_eq_left, keyOf, implies_true, fillC, capOf]
  generalize (if d = 0 then (1 : Int) else 0) = A at hda hline hrA ⊢
  generalize (if d = 2 then (1 : Int) else 2) = B at hdb hline hrB ⊢
  obtain ⟨rA1, rA2⟩ := hrA
  obtain ⟨rB1, rB2⟩ := hrB
  refine memK_at b6 (show d < 3 by omega) fun M2 k1 k2 k3 => ?_
  rw [hst] at k2
  have b2 := live_step b2 (by omega) k3
  have bo := live_step bo (by omega) k3
  have hpre := pre_step hpre (by omega) (j := 0) k1 k3
  clear b6
  simp (disch := omega) only [↓SXd, SXu, slBounds, ↓sop, ↓aop, ↓reduceIte, LV.cells, AOp.dst, LV.I, LV.B, LV.U, LV.S, LV.nil, Nat.reduceEqDiff, Nat.reduceAdd, Nat.reduceMul, Nat.reduceSub, Nat.reduceLeDiff, Nat.reduceBEq, Nat.reduceDiv, Nat.reduceMod, Int.reduceToNat, Int.reduceLT, Int.reduceLE, Int.reduceAdd, Int.reduceSub, Int.reduceMul, Int.reduceEq, Int.reduceNeg, reduceCtorEq, resV, resAll, ARes.ev, LV.flat, ite_true, ite_false, exists_eq_left', exists_eq_left, keyOf, implies_true, fillC, capOf]
  refine ev_loop (fun m fr M' => ∃ k : Nat, k + m = cs.length ∧ Pre M M' ∧ Live M' M.length (.row [.I x, .I y, .I z, .ref t 0 cs.length] true 0) ∧ Live M' (M.length + 2) (.row (intL (sqF x y z d (gEnd cs d) (cs.take k))) true 1) ∧ Live M' (M.length + 3) (.row [.I (if d = 0 then 1 else 0), .I (if d = 1 then 1 else 0), .I (if d = 2 then 1 else 0)] true 0) ∧
    fr 2 = .ptr M.length 0 ∧ fr 5 = .ref (M.length + 2) 0 (linesOf x y z d).toNat ∧ fr 6 = .ptr (M.length + 3) 0 ∧ fr 7 = .I A ∧ fr 8 = .I B ∧ fr 9 = .I k) cs.length
    ⟨0, by omega, hpre, b2, bo, k2, rfl, rfl, rfl, rfl, rfl, rfl⟩ ?_
  clear b2 bo k2 hpre
  rintro m fr M' ⟨k, hk, hpre, b2, bo, b6, f2, f5, f6, f7, f8, f9⟩
  simp (disch := omega) only [f2, f5, f6, f7, f8, f9, b2.cell, ↓SXd, SXu, slBounds, ↓sop, ↓aop, ↓reduceIte, LV.cells, AOp.dst, LV.I, LV.B, LV.U, LV.S, LV.nil, Nat.reduceEqDiff, Nat.reduceAdd, Nat.reduceMul, Nat.reduceSub, Nat.reduceLeDiff, Nat.reduceBEq, Nat.reduceDiv, Nat.reduceMod, Int.reduceToNat, Int.reduceLT, Int.reduceLE, Int.reduceAdd, Int.reduceSub, Int.reduceMul, Int.reduceEq, Int.reduceNeg, reduceCtorEq, resV, resAll, ARes.ev, LV.flat, ite_true, ite_false, exists_eq_left', exists_eq_left, keyOf, implies_true, fillC, capOf]
  refine condC_dec (fun hlt => ?_) (fun hlt => ?_)
  · have hkl : k < cs.length := by omega
    have hc := hH.mem (getD_mem' (d := default) hkl)
    have gA := Tri.gets_at (h.pre hpre).has hkl hda
    have gB := Tri.gets_at (h.pre hpre).has hkl hdb
    have hg := (h.pre hpre).tri0 hkl
    have hsf := sqF_succ (x := x) (y := y) (z := z) (d := d) (g := gEnd cs d) hkl
    have hbd := sqF_bound (g := gEnd cs d) hS hd (l := cs.take k) (fun c hc => hin c (List.mem_of_mem_take hc)) (fun c => gEnd_le)
    have hfl := sqF_len (x := x) (y := y) (z := z) (d := d) (g := gEnd cs d) (l := cs.take k)
    have htl := List.length_take_le' k cs
    generalize cs.getD k default = c at gA gB hg hc hsf
    generalize sqF x y z d (gEnd cs d) (cs.take k) = v at bo hsf hbd hfl
    obtain ⟨l1, l2⟩ := lineOf_in hS hc hd
    obtain ⟨v1, v2⟩ := hbd (lineOf y z c d).toNat
    have hlt2 : (lineOf y z c d).toNat < v.length := by omega
    have hlc := hline c
    have aA := at_in hc A
    have aB := at_in hc B
    have sB := sideOf_in hS B
    have sA := sideOf_in hS A
    rw [Nat.zero_add] at gA gB
    have hmul : 0 ≤ c.at A * sideOf x y z B ∧ c.at A * sideOf x y z B ≤ 16 := by
      rcases (show sideOf x y z B = 1 ∨ sideOf x y z B = 2 ∨ sideOf x y z B = 3 ∨ sideOf x y z B = 4 by omega) with e | e | e | e <;> rw [e] <;> omega
    have hcell := bo.cell (o := (lineOf y z c d).toNat)
    rw [intL_get hlt2] at hcell
    have hnb := step_nb (c := c) hd
    have hs0 : 0 ≤ (if d = 0 then (1 : Int) else 0) ∧ (if d = 0 then (1 : Int) else 0) ≤ 1 := by split <;> omega
    have hs1 : 0 ≤ (if d = 1 then (1 : Int) else 0) ∧ (if d = 1 then (1 : Int) else 0) ≤ 1 := by split <;> omega
    have hs2 : 0 ≤ (if d = 2 then (1 : Int) else 0) ∧ (if d = 2 then (1 : Int) else 0) ≤ 1 := by split <;> omega
    generalize (if d = 0 then (1 : Int) else 0) = s0 at b6 hnb hs0
    generalize (if d = 1 then (1 : Int) else 0) = s1 at b6 hnb hs1
    generalize (if d = 2 then (1 : Int) else 0) = s2 at b6 hnb hs2
    obtain ⟨⟨_, _⟩, ⟨_, _⟩, ⟨_, _⟩⟩ := id hc
    obtain ⟨⟨_, _⟩, ⟨_, _⟩, ⟨_, _⟩⟩ := id hS
    simp (disch := omega) only [f2, f5, f6, f7, f8, f9, b2.cell, b2.cells, gA, gB, Nat.mul_one, Nat.zero_add, ↓SXd, SXu, slBounds, ↓sop, ↓aop, ↓reduceIte, LV.cells, AOp.dst, LV.I, LV.B, LV.U, LV.S, LV.nil, Nat.reduceEqDiff, Nat.reduceAdd, Nat.reduceMul, Nat.reduceSub, Nat.reduceLeDiff, Nat.reduceBEq, Nat.reduceDiv, Nat.reduceMod, Int.reduceToNat, Int.reduceLT, Int.reduceLE, Int.reduceAdd, Int.reduceSub, Int.reduceMul, Int.reduceEq, Int.reduceNeg, reduceCtorEq, resV, resAll, ARes.ev, LV.flat, ite_true, ite_false, exists_eq_left', exists_eq_left, keyOf, implies_true, fillC, capOf]
    refine callK_of (h_l2Long hdb) ?_
    simp (disch := omega) only [f2, f5, f6, f7, f8, f9, hlc, b2.cell, b2.cells, b6.cells, hg, Cell.row, Nat.mul_one, Nat.zero_add, ↓SXd, SXu, slBounds, ↓sop, ↓aop, ↓reduceIte, LV.cells, AOp.dst, LV.I, LV.B, LV.U, LV.S, LV.nil, Nat.reduceEqDiff, Nat.reduceAdd, Nat.reduceMul, Nat.reduceSub, Nat.reduceLeDiff, Nat.reduceBEq, Nat.reduceDiv, Nat.reduceMod, Int.reduceToNat, Int.reduceLT, Int.reduceLE, Int.reduceAdd, Int.reduceSub, Int.reduceMul, Int.reduceEq, Int.reduceNeg, reduceCtorEq, resV, resAll, ARes.ev, LV.flat, ite_true, ite_false, exists_eq_left', exists_eq_left, keyOf, implies_true, fillC, capOf]
    refine callK_of (h_l6Beside (a := c.a) (b := c.b) (c := c.c) (d := s0) (e := s1) (f := s2) ⟨by omega, by omega, by omega, by omega, by omega, by omega⟩) ?_
    simp (disch := omega) only [f2, f5, f6, f7, f8, f9, ↓SXd, SXu, slBounds, ↓sop, ↓aop, ↓reduceIte, LV.cells, AOp.dst, LV.I, LV.B, LV.U, LV.S, LV.nil, Nat.reduceEqDiff, Nat.reduceAdd, Nat.reduceMul, Nat.reduceSub, Nat.reduceLeDiff, Nat.reduceBEq, Nat.reduceDiv, Nat.reduceMod, Int.reduceToNat, Int.reduceLT, Int.reduceLE, Int.reduceAdd, Int.reduceSub, Int.reduceMul, Int.reduceEq, Int.reduceNeg, reduceCtorEq, resV, resAll, ARes.ev, LV.flat, ite_true, ite_false, exists_eq_left', exists_eq_left, keyOf, implies_true, fillC, capOf]
    refine callK_of (h_l2Has (h.pre hpre).has (by omega)) ?_
    rw [← hnb]
    by_cases hm : nbC c (2 * d + 1) ∈ cs
    · rw [decide_eq_true hm]
      have hge : ((gEnd cs d c : Nat) : Int) = 0 := by unfold gEnd; rw [if_neg (fun k => k hm)]; rfl
      rw [hge, addAt_zero hlt2] at hsf
      simp (disch := omega) only [f2, f5, f6, f7, f8, f9, ↓SXd, SXu, slBounds, ↓sop, ↓aop, ↓reduceIte, LV.cells, AOp.dst, LV.I, LV.B, LV.U, LV.S, LV.nil, Nat.reduceEqDiff, Nat.reduceAdd, Nat.reduceMul, Nat.reduceSub, Nat.reduceLeDiff, Nat.reduceBEq, Nat.reduceDiv, Nat.reduceMod, Int.reduceToNat, Int.reduceLT, Int.reduceLE, Int.reduceAdd, Int.reduceSub, Int.reduceMul, Int.reduceEq, Int.reduceNeg, reduceCtorEq, resV, resAll, ARes.ev, LV.flat, ite_true, ite_false, exists_eq_left', exists_eq_left, keyOf, implies_true, fillC, capOf]
      exact ⟨m - 1, by omega, k + 1, by omega, hpre, b2, by rw [hsf]; exact bo, b6, f2, f5, f6, f7, f8, eqI (natI _)⟩
    · rw [decide_eq_false hm]
      have hge : ((gEnd cs d c : Nat) : Int) = 2 := by unfold gEnd; rw [if_pos hm]; rfl
      rw [hge] at hsf
      simp (disch := omega) only [f2, f5, f6, f7, f8, f9, hcell, Nat.mul_one, Nat.zero_add, ↓SXd, SXu, slBounds, ↓sop, ↓aop, ↓reduceIte, LV.cells, AOp.dst, LV.I, LV.B, LV.U, LV.S, LV.nil, Nat.reduceEqDiff, Nat.reduceAdd, Nat.reduceMul, Nat.reduceSub, Nat.reduceLeDiff, Nat.reduceBEq, Nat.reduceDiv, Nat.reduceMod, Int.reduceToNat, Int.reduceLT, Int.reduceLE, Int.reduceAdd, Int.reduceSub, Int.reduceMul, Int.reduceEq, Int.reduceNeg, reduceCtorEq, resV, resAll, ARes.ev, LV.flat, ite_true, ite_false, exists_eq_left', exists_eq_left, keyOf, implies_true, fillC, capOf]
      refine memK_int bo hlt2 fun N k1 k2 k3 => ?_
      simp (disch := omega) only [f2, f5, f6, f7, f8, f9, ↓SXd, SXu, slBounds, ↓sop, ↓aop, ↓reduceIte, LV.cells, AOp.dst, LV.I, LV.B, LV.U, LV.S, LV.nil, Nat.reduceEqDiff, Nat.reduceAdd, Nat.reduceMul, Nat.reduceSub, Nat.reduceLeDiff, Nat.reduceBEq, Nat.reduceDiv, Nat.reduceMod, Int.reduceToNat, Int.reduceLT, Int.reduceLE, Int.reduceAdd, Int.reduceSub, Int.reduceMul, Int.reduceEq, Int.reduceNeg, reduceCtorEq, resV, resAll, ARes.ev, LV.flat, ite_true, ite_false, exists_eq_left', exists_eq_left, keyOf, implies_true, fillC, capOf]
      exact ⟨m - 1, by omega, k + 1, by omega, pre_step hpre (by omega) (j := 0) k1 k3, live_step b2 (by omega) k3, by rw [hsf]; exact k2, live_step b6 (by omega) k3, f2, f5, f6, f7, f8, eqI (natI _)⟩
  · simp (disch := omega) only [f2, f5, f6, f7, f8, f9, ↓SXd, SXu, slBounds, ↓sop, ↓aop, ↓reduceIte, LV.cells, AOp.dst, LV.I, LV.B, LV.U, LV.S, LV.nil, Nat.reduceEqDiff, Nat.reduceAdd, Nat.reduceMul, Nat.reduceSub, Nat.reduceLeDiff, Nat.reduceBEq, Nat.reduceDiv, Nat.reduceMod, Int.reduceToNat, Int.reduceLT, Int.reduceLE, Int.reduceAdd, Int.reduceSub, Int.reduceMul, Int.reduceEq, Int.reduceNeg, reduceCtorEq, resV, resAll, ARes.ev, LV.flat, ite_true, ite_false, exists_eq_left', exists_eq_left, keyOf, implies_true, fillC, capOf]
    have : k = cs.length := by omega
    subst this
    rw [List.take_length] at bo
    exact ⟨M.length + 2, by rw [sqF_len], bo.has, hpre⟩
theorem h_sBareSquares (hn : cs.length ≤ 1000000000) {d : Int} : CallsR PG F.spec_BareSquares [.agg [.I x, .I y, .I z, .ref t 0 cs.length], .I d] M (IntsG M (sqrOf x y z cs d) (sqrB x y z cs d)) := by
  refine callsR_run K.spec_BareSquares rfl ?_
  simp (disch := omega) only [C.spec_BareSquares, ↓SXd, SXu, slBounds, ↓sop, ↓aop, ↓reduceIte, LV.cells, AOp.dst, LV.I, LV.B, LV.U, LV.S, LV.nil, Nat.reduceEqDiff, Nat.reduceAdd, Nat.reduceMul, Nat.reduceSub, Nat.reduceLeDiff, Nat.reduceBEq, Nat.reduceDiv, Nat.reduceMod, Int.reduceToNat, Int.reduceLT, Int.reduceLE, Int.reduceAdd, Int.reduceSub, Int.reduceMul, Int.reduceEq, Int.reduceNeg, reduceCtorEq, resV, resAll, ARes.ev, LV.flat, ite_true, ite_false, exists_eq_left', exists_eq_left, keyOf, implies_true, fillC, capOf]
  refine callK_of (h_l2Heap (Has.app h.has) hn) ?_
  simp (disch := omega) only [↓SXd, SXu, slBounds, ↓sop, ↓aop, ↓reduceIte, LV.cells, AOp.dst, LV.I, LV.B, LV.U, LV.S, LV.nil, Nat.reduceEqDiff, Nat.reduceAdd, Nat.reduceMul, Nat.reduceSub, Nat.reduceLeDiff, Nat.reduceBEq, Nat.reduceDiv, Nat.reduceMod, Int.reduceToNat, Int.reduceLT, Int.reduceLE, Int.reduceAdd, Int.reduceSub, Int.reduceMul, Int.reduceEq, Int.reduceNeg, reduceCtorEq, resV, resAll, ARes.ev, LV.flat, ite_true, ite_false, exists_eq_left', exists_eq_left, keyOf, implies_true, fillC, capOf]
  have hdd : Dir d ↔ 0 ≤ d ∧ d ≤ 2 := by unfold Dir; omega
  by_cases hH : HeapOK x y z cs
  rotate_left
  · rw [show sqrOf x y z cs d = [] from if_neg (fun e => hH e.1), show sqrB x y z cs d = false from decide_eq_false fun e => hH e.1]
    simp (disch := omega) only [hH, ↓SXd, SXu, slBounds, ↓sop, ↓aop, ↓reduceIte, LV.cells, AOp.dst, LV.I, LV.B, LV.U, LV.S, LV.nil, Nat.reduceEqDiff, Nat.reduceAdd, Nat.reduceMul, Nat.reduceSub, Nat.reduceLeDiff, Nat.reduceBEq, Nat.reduceDiv, Nat.reduceMod, Int.reduceToNat, Int.reduceLT, Int.reduceLE, Int.reduceAdd, Int.reduceSub, Int.reduceMul, Int.reduceEq, Int.reduceNeg, reduceCtorEq, resV, resAll, ARes.ev, LV.flat, ite_true, ite_false, exists_eq_left', exists_eq_left, keyOf, implies_true, fillC, capOf]
    exact ⟨_, rfl, .inr ⟨_, _, rfl, (Live.newj (j := 1) rfl : Live _ _ (.row (intL []) true 1)).has⟩, Pre.app _ _⟩
  simp (disch := omega) only [hH, ↓SXd, SXu, slBounds, ↓sop, ↓aop, ↓reduceIte, LV.cells, AOp.dst, LV.I, LV.B, LV.U, LV.S, LV.nil, Nat.reduceEqDiff, Nat.reduceAdd, Nat.reduceMul, Nat.reduceSub, Nat.reduceLeDiff, Nat.reduceBEq, Nat.reduceDiv, Nat.reduceMod, Int.reduceToNat, Int.reduceLT, Int.reduceLE, Int.reduceAdd, Int.reduceSub, Int.reduceMul, Int.reduceEq, Int.reduceNeg, reduceCtorEq, resV, resAll, ARes.ev, LV.flat, ite_true, ite_false, exists_eq_left', exists_eq_left, keyOf, implies_true, fillC, capOf]
  refine callK_of (h_l1In) ?_
  simp (disch := omega) only [↓SXd, SXu, slBounds, ↓sop, ↓aop, ↓reduceIte, LV.cells, AOp.dst, LV.I, LV.B, LV.U, LV.S, LV.nil, Nat.reduceEqDiff, Nat.reduceAdd, Nat.reduceMul, Nat.reduceSub, Nat.reduceLeDiff, Nat.reduceBEq, Nat.reduceDiv, Nat.reduceMod, Int.reduceToNat, Int.reduceLT, Int.reduceLE, Int.reduceAdd, Int.reduceSub, Int.reduceMul, Int.reduceEq, Int.reduceNeg, reduceCtorEq, resV, resAll, ARes.ev, LV.flat, ite_true, ite_false, exists_eq_left', exists_eq_left, keyOf, implies_true, fillC, capOf]
  by_cases hd : 0 ≤ d ∧ d ≤ 2
  rotate_left
  · rw [show sqrOf x y z cs d = [] from if_neg (fun e => hd (hdd.1 e.2)), show sqrB x y z cs d = false from decide_eq_false fun e => hd (hdd.1 e.2), decide_eq_false hd]
    simp (disch := omega) only [↓SXd, SXu, slBounds, ↓sop, ↓aop, ↓reduceIte, LV.cells, AOp.dst, LV.I, LV.B, LV.U, LV.S, LV.nil, Nat.reduceEqDiff, Nat.reduceAdd, Nat.reduceMul, Nat.reduceSub, Nat.reduceLeDiff, Nat.reduceBEq, Nat.reduceDiv, Nat.reduceMod, Int.reduceToNat, Int.reduceLT, Int.reduceLE, Int.reduceAdd, Int.reduceSub, Int.reduceMul, Int.reduceEq, Int.reduceNeg, reduceCtorEq, resV, resAll, ARes.ev, LV.flat, ite_true, ite_false, exists_eq_left', exists_eq_left, keyOf, implies_true, fillC, capOf]
    exact ⟨_, rfl, .inr ⟨_, _, rfl, (Live.newj (j := 1) rfl : Live _ _ (.row (intL []) true 1)).has⟩, Pre.app _ _⟩
  rw [show sqrOf x y z cs d = sqF x y z d.toNat (gEnd cs d.toNat) cs from if_pos ⟨hH, hdd.2 hd⟩, show sqrB x y z cs d = true from decide_eq_true ⟨hH, hdd.2 hd⟩, decide_eq_true hd]
  obtain ⟨n, rfl⟩ : ∃ n : Nat, d = n := ⟨d.toNat, by omega⟩
  rw [Int.toNat_natCast]
  simp (disch := omega) only [↓SXd, SXu, slBounds, ↓sop, ↓aop, ↓reduceIte, LV.cells, AOp.dst, LV.I, LV.B, LV.U, LV.S, LV.nil, Nat.reduceEqDiff, Nat.reduceAdd, Nat.reduceMul, Nat.reduceSub, Nat.reduceLeDiff, Nat.reduceBEq, Nat.reduceDiv, Nat.reduceMod, Int.reduceToNat, Int.reduceLT, Int.reduceLE, Int.reduceAdd, Int.reduceSub, Int.reduceMul, Int.reduceEq, Int.reduceNeg, reduceCtorEq, resV, resAll, ARes.ev, LV.flat, ite_true, ite_false, exists_eq_left', exists_eq_left, keyOf, implies_true, fillC, capOf]
  refine callR_of (h_l6Stretches h.app hH (d := n) (by omega)) ?_
  rintro _ N ⟨u, rfl, hu, hp⟩
  simp (disch := omega) only [↓SXd, SXu, slBounds, ↓sop, ↓aop, ↓reduceIte, LV.cells, AOp.dst, LV.I, LV.B, LV.U, LV.S, LV.nil, Nat.reduceEqDiff, Nat.reduceAdd, Nat.reduceMul, Nat.reduceSub, Nat.reduceLeDiff, Nat.reduceBEq, Nat.reduceDiv, Nat.reduceMod, Int.reduceToNat, Int.reduceLT, Int.reduceLE, Int.reduceAdd, Int.reduceSub, Int.reduceMul, Int.reduceEq, Int.reduceNeg, reduceCtorEq, resV, resAll, ARes.ev, LV.flat, ite_true, ite_false, exists_eq_left', exists_eq_left, keyOf, implies_true, fillC, capOf]
  exact ⟨_, rfl, .inr ⟨_, _, rfl, hu⟩, (Pre.app _ _).trans hp⟩
theorem g_BareSquares (hn : cs.length ≤ 1000000000) {d : Int} : CallsR PG F.impl_BareSquares [.agg [.I x, .I y, .I z, .ref t 0 cs.length], .I d] M (IntsG M (sqrOf x y z cs d) (sqrB x y z cs d)) := by
  refine callsR_run K.impl_BareSquares rfl ?_
  simp (disch := omega) only [C.impl_BareSquares, ↓SXd, SXu, slBounds, ↓sop, ↓aop, ↓reduceIte, LV.cells, AOp.dst, LV.I, LV.B, LV.U, LV.S, LV.nil, Nat.reduceEqDiff, Nat.reduceAdd, Nat.reduceMul, Nat.reduceSub, Nat.reduceLeDiff, Nat.reduceBEq, Nat.reduceDiv, Nat.reduceMod, Int.reduceToNat, Int.reduceLT, Int.reduceLE, Int.reduceAdd, Int.reduceSub, Int.reduceMul, Int.reduceEq, Int.reduceNeg, reduceCtorEq, resV, resAll, ARes.ev, LV.flat, ite_true, ite_false, exists_eq_left', exists_eq_left, keyOf, implies_true, fillC, capOf]
  refine callK_of (g_IsHeap (Has.app h.has) hn) ?_
  simp (disch := omega) only [↓SXd, SXu, slBounds, ↓sop, ↓aop, ↓reduceIte, LV.cells, AOp.dst, LV.I, LV.B, LV.U, LV.S, LV.nil, Nat.reduceEqDiff, Nat.reduceAdd, Nat.reduceMul, Nat.reduceSub, Nat.reduceLeDiff, Nat.reduceBEq, Nat.reduceDiv, Nat.reduceMod, Int.reduceToNat, Int.reduceLT, Int.reduceLE, Int.reduceAdd, Int.reduceSub, Int.reduceMul, Int.reduceEq, Int.reduceNeg, reduceCtorEq, resV, resAll, ARes.ev, LV.flat, ite_true, ite_false, exists_eq_left', exists_eq_left, keyOf, implies_true, fillC, capOf]
  have hdd : Dir d ↔ 0 ≤ d ∧ d ≤ 2 := by unfold Dir; omega
  have hisd : ∀ {M : Mem}, CallsTo PG F.impl_isDirection [.I d] M (.B (decide (0 ≤ d ∧ d ≤ 2))) M := fun {M} => by
    refine calls_run K.impl_isDirection rfl ?_
    simp (disch := omega) only [C.impl_isDirection, ↓SXd, SXu, slBounds, ↓sop, ↓aop, ↓reduceIte, LV.cells, AOp.dst, LV.I, LV.B, LV.U, LV.S, LV.nil, Nat.reduceEqDiff, Nat.reduceAdd, Nat.reduceMul, Nat.reduceSub, Nat.reduceLeDiff, Nat.reduceBEq, Nat.reduceDiv, Nat.reduceMod, Int.reduceToNat, Int.reduceLT, Int.reduceLE, Int.reduceAdd, Int.reduceSub, Int.reduceMul, Int.reduceEq, Int.reduceNeg, reduceCtorEq, resV, resAll, ARes.ev, LV.flat, ite_true, ite_false, exists_eq_left', exists_eq_left, keyOf, implies_true, fillC, capOf]
    refine callK_of (g_within) ?_
    simp (disch := omega) only [↓SXd, SXu, slBounds, ↓sop, ↓aop, ↓reduceIte, LV.cells, AOp.dst, LV.I, LV.B, LV.U, LV.S, LV.nil, Nat.reduceEqDiff, Nat.reduceAdd, Nat.reduceMul, Nat.reduceSub, Nat.reduceLeDiff, Nat.reduceBEq, Nat.reduceDiv, Nat.reduceMod, Int.reduceToNat, Int.reduceLT, Int.reduceLE, Int.reduceAdd, Int.reduceSub, Int.reduceMul, Int.reduceEq, Int.reduceNeg, reduceCtorEq, resV, resAll, ARes.ev, LV.flat, ite_true, ite_false, exists_eq_left', exists_eq_left, keyOf, implies_true, fillC, capOf]
    exact cmp_drop0 rfl
  by_cases hH : HeapOK x y z cs
  rotate_left
  · rw [show sqrOf x y z cs d = [] from if_neg (fun e => hH e.1), show sqrB x y z cs d = false from decide_eq_false fun e => hH e.1]
    simp (disch := omega) only [hH, ↓SXd, SXu, slBounds, ↓sop, ↓aop, ↓reduceIte, LV.cells, AOp.dst, LV.I, LV.B, LV.U, LV.S, LV.nil, Nat.reduceEqDiff, Nat.reduceAdd, Nat.reduceMul, Nat.reduceSub, Nat.reduceLeDiff, Nat.reduceBEq, Nat.reduceDiv, Nat.reduceMod, Int.reduceToNat, Int.reduceLT, Int.reduceLE, Int.reduceAdd, Int.reduceSub, Int.reduceMul, Int.reduceEq, Int.reduceNeg, reduceCtorEq, resV, resAll, ARes.ev, LV.flat, ite_true, ite_false, exists_eq_left', exists_eq_left, keyOf, implies_true, fillC, capOf]
    exact ⟨_, rfl, .inl ⟨rfl, rfl⟩, Pre.app _ _⟩
  simp (disch := omega) only [hH, ↓SXd, SXu, slBounds, ↓sop, ↓aop, ↓reduceIte, LV.cells, AOp.dst, LV.I, LV.B, LV.U, LV.S, LV.nil, Nat.reduceEqDiff, Nat.reduceAdd, Nat.reduceMul, Nat.reduceSub, Nat.reduceLeDiff, Nat.reduceBEq, Nat.reduceDiv, Nat.reduceMod, Int.reduceToNat, Int.reduceLT, Int.reduceLE, Int.reduceAdd, Int.reduceSub, Int.reduceMul, Int.reduceEq, Int.reduceNeg, reduceCtorEq, resV, resAll, ARes.ev, LV.flat, ite_true, ite_false, exists_eq_left', exists_eq_left, keyOf, implies_true, fillC, capOf]
  refine callK_of (hisd) ?_
  simp (disch := omega) only [↓SXd, SXu, slBounds, ↓sop, ↓aop, ↓reduceIte, LV.cells, AOp.dst, LV.I, LV.B, LV.U, LV.S, LV.nil, Nat.reduceEqDiff, Nat.reduceAdd, Nat.reduceMul, Nat.reduceSub, Nat.reduceLeDiff, Nat.reduceBEq, Nat.reduceDiv, Nat.reduceMod, Int.reduceToNat, Int.reduceLT, Int.reduceLE, Int.reduceAdd, Int.reduceSub, Int.reduceMul, Int.reduceEq, Int.reduceNeg, reduceCtorEq, resV, resAll, ARes.ev, LV.flat, ite_true, ite_false, exists_eq_left', exists_eq_left, keyOf, implies_true, fillC, capOf]
  by_cases hd : 0 ≤ d ∧ d ≤ 2
  rotate_left
  · rw [show sqrOf x y z cs d = [] from if_neg (fun e => hd (hdd.1 e.2)), show sqrB x y z cs d = false from decide_eq_false fun e => hd (hdd.1 e.2), decide_eq_false hd]
    simp (disch := omega) only [↓SXd, SXu, slBounds, ↓sop, ↓aop, ↓reduceIte, LV.cells, AOp.dst, LV.I, LV.B, LV.U, LV.S, LV.nil, Nat.reduceEqDiff, Nat.reduceAdd, Nat.reduceMul, Nat.reduceSub, Nat.reduceLeDiff, Nat.reduceBEq, Nat.reduceDiv, Nat.reduceMod, Int.reduceToNat, Int.reduceLT, Int.reduceLE, Int.reduceAdd, Int.reduceSub, Int.reduceMul, Int.reduceEq, Int.reduceNeg, reduceCtorEq, resV, resAll, ARes.ev, LV.flat, ite_true, ite_false, exists_eq_left', exists_eq_left, keyOf, implies_true, fillC, capOf]
    exact ⟨_, rfl, .inl ⟨rfl, rfl⟩, Pre.app _ _⟩
  rw [show sqrOf x y z cs d = sqF x y z d.toNat (gEnd cs d.toNat) cs from if_pos ⟨hH, hdd.2 hd⟩, show sqrB x y z cs d = true from decide_eq_true ⟨hH, hdd.2 hd⟩, decide_eq_true hd]
  obtain ⟨n, rfl⟩ : ∃ n : Nat, d = n := ⟨d.toNat, by omega⟩
  rw [Int.toNat_natCast, ← sq_same hH (show n < 3 by omega)]
  have hd3 : n < 3 := by omega
  clear hd hdd
  have hS := hH.1
  have hlp : 1 ≤ linesOf x y z n ∧ linesOf x y z n ≤ 16 := by
    have := prod_le hS
    rcases (show n = 0 ∨ n = 1 ∨ n = 2 by omega) with rfl | rfl | rfl
    · exact this.2.2
    · exact this.2.1
    · exact this.1
  have hlen := hH.len
  have hin : ∀ c ∈ cs, c.inBox x y z := fun c hc => hH.mem hc
  obtain ⟨⟨_, _⟩, ⟨_, _⟩, ⟨_, _⟩⟩ := id hS
  simp (disch := omega) only [↓SXd, SXu, slBounds, ↓sop, ↓aop, ↓reduceIte, LV.cells, AOp.dst, LV.I, LV.B, LV.U, LV.S, LV.nil, Nat.reduceEqDiff, Nat.reduceAdd, Nat.reduceMul, Nat.reduceSub, Nat.reduceLeDiff, Nat.reduceBEq, Nat.reduceDiv, Nat.reduceMod, Int.reduceToNat, Int.reduceLT, Int.reduceLE, Int.reduceAdd, Int.reduceSub, Int.reduceMul, Int.reduceEq, Int.reduceNeg, reduceCtorEq, resV, resAll, ARes.ev, LV.flat, ite_true, ite_false, exists_eq_left', exists_eq_left, keyOf, implies_true, fillC, capOf]
  refine callK_of (g_box) ?_
  simp (disch := omega) only [↓SXd, SXu, slBounds, ↓sop, ↓aop, ↓reduceIte, LV.cells, AOp.dst, LV.I, LV.B, LV.U, LV.S, LV.nil, Nat.reduceEqDiff, Nat.reduceAdd, Nat.reduceMul, Nat.reduceSub, Nat.reduceLeDiff, Nat.reduceBEq, Nat.reduceDiv, Nat.reduceMod, Int.reduceToNat, Int.reduceLT, Int.reduceLE, Int.reduceAdd, Int.reduceSub, Int.reduceMul, Int.reduceEq, Int.reduceNeg, reduceCtorEq, resV, resAll, ARes.ev, LV.flat, ite_true, ite_false, exists_eq_left', exists_eq_left, keyOf, implies_true, fillC, capOf]
  refine callK_of (g_lines hS hd3) ?_
  simp (disch := omega) only [made_int, ↓SXd, SXu, slBounds, ↓sop, ↓aop, ↓reduceIte, LV.cells, AOp.dst, LV.I, LV.B, LV.U, LV.S, LV.nil, Nat.reduceEqDiff, Nat.reduceAdd, Nat.reduceMul, Nat.reduceSub, Nat.reduceLeDiff, Nat.reduceBEq, Nat.reduceDiv, Nat.reduceMod, Int.reduceToNat, Int.reduceLT, Int.reduceLE, Int.reduceAdd, Int.reduceSub, Int.reduceMul, Int.reduceEq, Int.reduceNeg, reduceCtorEq, resV, resAll, ARes.ev, LV.flat, ite_true, ite_false, exists_eq_left', exists_eq_left, keyOf, implies_true, fillC, capOf]
  refine ev_loop (fun m fr M' => ∃ k : Nat, k + m = cs.length ∧ Pre M M' ∧ Live M' M.length (.row [.I x, .I y, .I z, .ref t 0 cs.length] true 0) ∧ Live M' (M.length + 1) (.row (intL (sqF x y z n (gTwo cs n 2) (cs.take k))) true 1) ∧
    fr 1 = .I n ∧ fr 2 = .ptr M.length 0 ∧ fr 6 = .ref (M.length + 1) 0 (linesOf x y z n).toNat ∧ fr 24 = .ref t 0 cs.length ∧ fr 25 = .I cs.length ∧ fr 26 = .I k) cs.length
    ⟨0, by omega, Pre.app _ _, Live.new, Live.newj rfl, rfl, rfl, rfl, rfl, rfl, rfl⟩ ?_
  rintro m fr M' ⟨k, hk, hpre, b2, bo, f1, f2, f6, f24, f25, f26⟩
  simp (disch := omega) only [f1, f2, f6, f24, f25, f26, ↓SXd, SXu, slBounds, ↓sop, ↓aop, ↓reduceIte, LV.cells, AOp.dst, LV.I, LV.B, LV.U, LV.S, LV.nil, Nat.reduceEqDiff, Nat.reduceAdd, Nat.reduceMul, Nat.reduceSub, Nat.reduceLeDiff, Nat.reduceBEq, Nat.reduceDiv, Nat.reduceMod, Int.reduceToNat, Int.reduceLT, Int.reduceLE, Int.reduceAdd, Int.reduceSub, Int.reduceMul, Int.reduceEq, Int.reduceNeg, reduceCtorEq, resV, resAll, ARes.ev, LV.flat, ite_true, ite_false, exists_eq_left', exists_eq_left, keyOf, implies_true, fillC, capOf]
  refine condC_dec (fun hlt => ?_) (fun hlt => ?_)
  · have hkl : k < cs.length := by omega
    have hc := hH.mem (getD_mem' (d := default) hkl)
    have hg := (h.pre hpre).tri0 hkl
    have hsf := sqF_succ (x := x) (y := y) (z := z) (d := n) (g := gTwo cs n 2) hkl
    have hbd := sqF_bound (g := gTwo cs n 2) hS hd3 (l := cs.take k) (fun c hc => hin c (List.mem_of_mem_take hc)) (fun c => gTwo_le)
    have hfl := sqF_len (x := x) (y := y) (z := z) (d := n) (g := gTwo cs n 2) (l := cs.take k)
    have htl := List.length_take_le' k cs
    generalize cs.getD k default = c at hg hc hsf
    generalize sqF x y z n (gTwo cs n 2) (cs.take k) = v at bo hsf hbd hfl
    obtain ⟨l1, l2⟩ := lineOf_in hS hc hd3
    obtain ⟨v1, v2⟩ := hbd (lineOf y z c n).toNat
    have hlt2 : (lineOf y z c n).toNat < v.length := by omega
    obtain ⟨⟨_, _⟩, ⟨_, _⟩, ⟨_, _⟩⟩ := id hc
    simp (disch := omega) only [f1, f2, f6, f24, f25, f26, hg, Cell.row, Nat.mul_one, Nat.zero_add, splice, ↓SXd, SXu, slBounds, ↓sop, ↓aop, ↓reduceIte, LV.cells, AOp.dst, LV.I, LV.B, LV.U, LV.S, LV.nil, Nat.reduceEqDiff, Nat.reduceAdd, Nat.reduceMul, Nat.reduceSub, Nat.reduceLeDiff, Nat.reduceBEq, Nat.reduceDiv, Nat.reduceMod, Int.reduceToNat, Int.reduceLT, Int.reduceLE, Int.reduceAdd, Int.reduceSub, Int.reduceMul, Int.reduceEq, Int.reduceNeg, reduceCtorEq, resV, resAll, ARes.ev, LV.flat, ite_true, ite_false, exists_eq_left', exists_eq_left, keyOf, implies_true, fillC, capOf]
    refine ev_loop (fun m2 fr N => ∃ e : Nat, e + m2 = 2 ∧ Pre M N ∧ M'.length < N.length ∧ Live N M.length (.row [.I x, .I y, .I z, .ref t 0 cs.length] true 0) ∧ Live N (M.length + 1) (.row (intL (addAt v (lineOf y z c n).toNat (gTwo cs n e c))) true 1) ∧ Live N M'.length (.row [.I c.a, .I c.b, .I c.c] true 0) ∧
      fr 1 = .I n ∧ fr 2 = .ptr M.length 0 ∧ fr 6 = .ref (M.length + 1) 0 (linesOf x y z n).toNat ∧ fr 24 = .ref t 0 cs.length ∧ fr 25 = .I cs.length ∧ fr 26 = .I k ∧ fr 8 = .ptr M'.length 0 ∧ fr 9 = .I ((2 * n + e : Nat) : Int)) 2
      ⟨0, rfl, hpre.trans (Pre.app _ _), by simp, b2.app, by rw [show ((gTwo cs n 0 c : Nat) : Int) = 0 from rfl, addAt_zero hlt2]; exact bo.app, Live.new, f1, f2, f6, f24, f25, f26, rfl, eqI (by omega)⟩ ?_
    have hbl := b2.lt
    have hbol := bo.lt
    clear f1 f2 f6 f24 f25 f26 b2 bo hpre hg
    rintro m2 fr N ⟨e, he, hpre, hN, b2, bo, b8, f1, f2, f6, f24, f25, f26, f8, f9⟩
    simp (disch := omega) only [f1, f2, f6, f24, f25, f26, f8, f9, ↓SXd, SXu, slBounds, ↓sop, ↓aop, ↓reduceIte, LV.cells, AOp.dst, LV.I, LV.B, LV.U, LV.S, LV.nil, Nat.reduceEqDiff, Nat.reduceAdd, Nat.reduceMul, Nat.reduceSub, Nat.reduceLeDiff, Nat.reduceBEq, Nat.reduceDiv, Nat.reduceMod, Int.reduceToNat, Int.reduceLT, Int.reduceLE, Int.reduceAdd, Int.reduceSub, Int.reduceMul, Int.reduceEq, Int.reduceNeg, reduceCtorEq, resV, resAll, ARes.ev, LV.flat, ite_true, ite_false, exists_eq_left', exists_eq_left, keyOf, implies_true, fillC, capOf]
    refine condC_dec (fun hlt3 => ?_) (fun hlt3 => ?_)
    · have he2 : e < 2 := by omega
      simp (disch := omega) only [f1, f2, f6, f24, f25, f26, f8, f9, b2.cells, b8.cells, ↓SXd, SXu, slBounds, ↓sop, ↓aop, ↓reduceIte, LV.cells, AOp.dst, LV.I, LV.B, LV.U, LV.S, LV.nil, Nat.reduceEqDiff, Nat.reduceAdd, Nat.reduceMul, Nat.reduceSub, Nat.reduceLeDiff, Nat.reduceBEq, Nat.reduceDiv, Nat.reduceMod, Int.reduceToNat, Int.reduceLT, Int.reduceLE, Int.reduceAdd, Int.reduceSub, Int.reduceMul, Int.reduceEq, Int.reduceNeg, reduceCtorEq, resV, resAll, ARes.ev, LV.flat, ite_true, ite_false, exists_eq_left', exists_eq_left, keyOf, implies_true, fillC, capOf]
      refine callK_of (g_beyond (c := c) (f := 2 * n + e) ⟨by omega, by omega, by omega⟩ (by omega)) ?_
      simp (disch := omega) only [f1, f2, f6, f24, f25, f26, f8, f9, ↓SXd, SXu, slBounds, ↓sop, ↓aop, ↓reduceIte, LV.cells, AOp.dst, LV.I, LV.B, LV.U, LV.S, LV.nil, Nat.reduceEqDiff, Nat.reduceAdd, Nat.reduceMul, Nat.reduceSub, Nat.reduceLeDiff, Nat.reduceBEq, Nat.reduceDiv, Nat.reduceMod, Int.reduceToNat, Int.reduceLT, Int.reduceLE, Int.reduceAdd, Int.reduceSub, Int.reduceMul, Int.reduceEq, Int.reduceNeg, reduceCtorEq, resV, resAll, ARes.ev, LV.flat, ite_true, ite_false, exists_eq_left', exists_eq_left, keyOf, implies_true, fillC, capOf]
      refine callK_of (g_isBare (h.pre hpre).has hH) ?_
      simp (disch := omega) only [f1, f2, f6, f24, f25, f26, f8, f9, ↓SXd, SXu, slBounds, ↓sop, ↓aop, ↓reduceIte, LV.cells, AOp.dst, LV.I, LV.B, LV.U, LV.S, LV.nil, Nat.reduceEqDiff, Nat.reduceAdd, Nat.reduceMul, Nat.reduceSub, Nat.reduceLeDiff, Nat.reduceBEq, Nat.reduceDiv, Nat.reduceMod, Int.reduceToNat, Int.reduceLT, Int.reduceLE, Int.reduceAdd, Int.reduceSub, Int.reduceMul, Int.reduceEq, Int.reduceNeg, reduceCtorEq, resV, resAll, ARes.ev, LV.flat, ite_true, ite_false, exists_eq_left', exists_eq_left, keyOf, implies_true, fillC, capOf]
      have hts := gTwo_succ (cs := cs) (d := n) (e := e) (c := c)
      have htl2 := gTwo_le (cs := cs) (d := n) (e := e) (c := c)
      generalize hw2 : gTwo cs n (e + 1) c = w2 at hts
      have hbd2 := bo.cell (o := (lineOf y z c n).toNat)
      have hal := addAt_len (v := v) (j := (lineOf y z c n).toNat) (a := ((gTwo cs n e c : Nat) : Int))
      have hag := addAt_get (i := (lineOf y z c n).toNat) (a := ((gTwo cs n e c : Nat) : Int)) hlt2
      have hadd := addAt_add (a := ((gTwo cs n e c : Nat) : Int)) (b := 1) hlt2
      rw [if_pos rfl] at hag
      rw [intL_get (by omega)] at hbd2
      by_cases hb : nbC c (2 * n + e) ∉ cs
      · rw [if_pos hb] at hts
        rw [decide_eq_true hb]
        generalize gTwo cs n e c = w1 at bo hts htl2 hbd2 hal hag hadd
        rw [show ((w1 : Int) + 1) = ((w2 : Nat) : Int) by omega] at hadd
        generalize hav : addAt v (lineOf y z c n).toNat (w1 : Nat) = av at bo hbd2 hal hag hadd
        simp (disch := omega) only [f1, f2, f6, f24, f25, f26, f8, f9, b2.cells, b8.cells, ↓SXd, SXu, slBounds, ↓sop, ↓aop, ↓reduceIte, LV.cells, AOp.dst, LV.I, LV.B, LV.U, LV.S, LV.nil, Nat.reduceEqDiff, Nat.reduceAdd, Nat.reduceMul, Nat.reduceSub, Nat.reduceLeDiff, Nat.reduceBEq, Nat.reduceDiv, Nat.reduceMod, Int.reduceToNat, Int.reduceLT, Int.reduceLE, Int.reduceAdd, Int.reduceSub, Int.reduceMul, Int.reduceEq, Int.reduceNeg, reduceCtorEq, resV, resAll, ARes.ev, LV.flat, ite_true, ite_false, exists_eq_left', exists_eq_left, keyOf, implies_true, fillC, capOf]
        refine callK_of (g_box) ?_
        simp (disch := omega) only [f1, f2, f6, f24, f25, f26, f8, f9, ↓SXd, SXu, slBounds, ↓sop, ↓aop, ↓reduceIte, LV.cells, AOp.dst, LV.I, LV.B, LV.U, LV.S, LV.nil, Nat.reduceEqDiff, Nat.reduceAdd, Nat.reduceMul, Nat.reduceSub, Nat.reduceLeDiff, Nat.reduceBEq, Nat.reduceDiv, Nat.reduceMod, Int.reduceToNat, Int.reduceLT, Int.reduceLE, Int.reduceAdd, Int.reduceSub, Int.reduceMul, Int.reduceEq, Int.reduceNeg, reduceCtorEq, resV, resAll, ARes.ev, LV.flat, ite_true, ite_false, exists_eq_left', exists_eq_left, keyOf, implies_true, fillC, capOf]
        refine callK_of (g_line hS hc hd3) ?_
        simp (disch := omega) only [f1, f2, f6, f24, f25, f26, f8, f9, hbd2, Nat.mul_one, Nat.zero_add, ↓SXd, SXu, slBounds, ↓sop, ↓aop, ↓reduceIte, LV.cells, AOp.dst, LV.I, LV.B, LV.U, LV.S, LV.nil, Nat.reduceEqDiff, Nat.reduceAdd, Nat.reduceMul, Nat.reduceSub, Nat.reduceLeDiff, Nat.reduceBEq, Nat.reduceDiv, Nat.reduceMod, Int.reduceToNat, Int.reduceLT, Int.reduceLE, Int.reduceAdd, Int.reduceSub, Int.reduceMul, Int.reduceEq, Int.reduceNeg, reduceCtorEq, resV, resAll, ARes.ev, LV.flat, ite_true, ite_false, exists_eq_left', exists_eq_left, keyOf, implies_true, fillC, capOf]
        refine memK_int bo (by omega) fun N2 k1 k2 k3 => ?_
        simp (disch := omega) only [f1, f2, f6, f24, f25, f26, f8, f9, ↓SXd, SXu, slBounds, ↓sop, ↓aop, ↓reduceIte, LV.cells, AOp.dst, LV.I, LV.B, LV.U, LV.S, LV.nil, Nat.reduceEqDiff, Nat.reduceAdd, Nat.reduceMul, Nat.reduceSub, Nat.reduceLeDiff, Nat.reduceBEq, Nat.reduceDiv, Nat.reduceMod, Int.reduceToNat, Int.reduceLT, Int.reduceLE, Int.reduceAdd, Int.reduceSub, Int.reduceMul, Int.reduceEq, Int.reduceNeg, reduceCtorEq, resV, resAll, ARes.ev, LV.flat, ite_true, ite_false, exists_eq_left', exists_eq_left, keyOf, implies_true, fillC, capOf]
        refine ⟨m2 - 1, by omega, e + 1, by omega, pre_step hpre (by omega) (j := 0) k1 k3, by omega, live_step b2 (by omega) k3, ?_, live_step b8 (by omega) k3, f1, f2, f6, f24, f25, f26, f8, eqI (by omega)⟩
        rw [show ((gTwo cs n (e + 1) c : Nat) : Int) = ((w2 : Nat) : Int) from by rw [hw2], ← hadd]
        exact k2
      · rw [if_neg hb] at hts
        rw [decide_eq_false hb]
        simp (disch := omega) only [f1, f2, f6, f24, f25, f26, f8, f9, ↓SXd, SXu, slBounds, ↓sop, ↓aop, ↓reduceIte, LV.cells, AOp.dst, LV.I, LV.B, LV.U, LV.S, LV.nil, Nat.reduceEqDiff, Nat.reduceAdd, Nat.reduceMul, Nat.reduceSub, Nat.reduceLeDiff, Nat.reduceBEq, Nat.reduceDiv, Nat.reduceMod, Int.reduceToNat, Int.reduceLT, Int.reduceLE, Int.reduceAdd, Int.reduceSub, Int.reduceMul, Int.reduceEq, Int.reduceNeg, reduceCtorEq, resV, resAll, ARes.ev, LV.flat, ite_true, ite_false, exists_eq_left', exists_eq_left, keyOf, implies_true, fillC, capOf]
        refine ⟨m2 - 1, by omega, e + 1, by omega, hpre, hN, b2, ?_, b8, f1, f2, f6, f24, f25, f26, f8, eqI (by omega)⟩
        rw [hw2, hts]
        exact bo
    · have he2 : e = 2 := by omega
      subst he2
      simp (disch := omega) only [f1, f2, f6, f24, f25, f26, f8, f9, ↓SXd, SXu, slBounds, ↓sop, ↓aop, ↓reduceIte, LV.cells, AOp.dst, LV.I, LV.B, LV.U, LV.S, LV.nil, Nat.reduceEqDiff, Nat.reduceAdd, Nat.reduceMul, Nat.reduceSub, Nat.reduceLeDiff, Nat.reduceBEq, Nat.reduceDiv, Nat.reduceMod, Int.reduceToNat, Int.reduceLT, Int.reduceLE, Int.reduceAdd, Int.reduceSub, Int.reduceMul, Int.reduceEq, Int.reduceNeg, reduceCtorEq, resV, resAll, ARes.ev, LV.flat, ite_true, ite_false, exists_eq_left', exists_eq_left, keyOf, implies_true, fillC, capOf]
      exact ⟨m - 1, by omega, k + 1, by omega, hpre, b2, by rw [hsf]; exact bo, f1, f2, f6, f24, f25, eqI (natI _)⟩
  · simp (disch := omega) only [f1, f2, f6, f24, f25, f26, ↓SXd, SXu, slBounds, ↓sop, ↓aop, ↓reduceIte, LV.cells, AOp.dst, LV.I, LV.B, LV.U, LV.S, LV.nil, Nat.reduceEqDiff, Nat.reduceAdd, Nat.reduceMul, Nat.reduceSub, Nat.reduceLeDiff, Nat.reduceBEq, Nat.reduceDiv, Nat.reduceMod, Int.reduceToNat, Int.reduceLT, Int.reduceLE, Int.reduceAdd, Int.reduceSub, Int.reduceMul, Int.reduceEq, Int.reduceNeg, reduceCtorEq, resV, resAll, ARes.ev, LV.flat, ite_true, ite_false, exists_eq_left', exists_eq_left, keyOf, implies_true, fillC, capOf]
    have : k = cs.length := by omega
    subst this
    rw [List.take_length] at bo
    exact ⟨_, rfl, .inr ⟨_, _, by rw [sqF_len], bo.has⟩, hpre⟩
end
end Go.Ab

/- The abstract code of some functions (written by a program of mine from the translation, by way of prepF). -/
namespace Go.Ab.C
open Go.Ab
def spec_l1Cur_hollow : AFn :=
 ⟨1, 68, [.cellN 2 4],
 .seq (.ops [(none, .alloc 2 [(.I 0), (.I 0), (.I 0), .nil])])
 (.seq (.seq (.ops [(none, .mv 8 (.t 0)),
 (none, .call (some 9) F.spec_l1Cur_one [(.t 8), (.c (.I 2))])])
 (.cond (.t 9) (.seq (.ops [(none, .mv 10 (.t 0)),
 (none, .call (some 11) F.spec_l1Cur_heap [(.t 10)]),
 (none, .store 4 (.t 2) (.t 11))])
 (.ret))
 (.skip)))
 (.seq (.ops [(none, .mv 12 (.t 0)),
 (none, .buildSl 13 3 1 [(.I 0), (.I 0), (.I 0)] [(0, 1, (.c (.I 3))), (1, 1, (.c (.I 4))), (2, 1, (.c (.I 3)))]),
 (none, .call (some 14) F.spec_l1Cur_among [(.t 12), (.t 13)]),
 (none, .mv 15 (.t 0)),
 (none, .buildSl 16 3 1 [(.I 0), (.I 0), (.I 0)] [(0, 1, (.c (.I 3))), (1, 1, (.c (.I 4))), (2, 1, (.c (.I 3)))]),
 (none, .call (some 17) F.spec_l1Cur_among [(.t 15), (.t 16)]),
 (none, .mv 18 (.t 0)),
 (none, .buildSl 19 3 1 [(.I 0), (.I 0), (.I 0)] [(0, 1, (.c (.I 3))), (1, 1, (.c (.I 4))), (2, 1, (.c (.I 3)))]),
 (none, .call (some 20) F.spec_l1Cur_among [(.t 18), (.t 19)]),
 (none, .call (some 21) F.spec_l2Box [(.t 14), (.t 17), (.t 20)]),
 (none, .alloc 3 [(.I 0), (.I 0), (.I 0), .nil]),
 (none, .store 4 (.t 3) (.t 21))])
 (.seq (.seq (.ops [(none, .mv 22 (.t 0)),
 (none, .call (some 23) F.spec_l1Cur_pick [(.t 22), (.c (.I 5))]),
 (none, .mv 4 (.t 23))])
 (.block 0 (.loop (.seq (.seq (.ops [(none, .mv 24 (.t 4)),
 (none, .bin 25 .gtr (.t 24) (.c (.I 0)))])
 (.cond (.t 25) (.skip)
 (.exit 0)))
 (.seq (.block 1 (.seq (.draw [⟨(none, .mv 28 (.t 0)), [], []⟩,
 ⟨(none, .fieldAddr 29 (.t 3) 0), [], []⟩,
 ⟨(none, .load1 30 (.t 29)), [], []⟩,
 ⟨(none, .bin 31 .sub (.t 30) (.c (.I 2))), [], []⟩,
 ⟨(none, .mv 34 (.t 0)), [], []⟩,
 ⟨(none, .fieldAddr 35 (.t 3) 1), [], []⟩,
 ⟨(none, .load1 36 (.t 35)), [], []⟩,
 ⟨(none, .bin 37 .sub (.t 36) (.c (.I 2))), [], []⟩,
 ⟨(none, .mv 40 (.t 0)), [], []⟩,
 ⟨(none, .fieldAddr 41 (.t 3) 2), [], []⟩,
 ⟨(none, .load1 42 (.t 41)), [], []⟩,
 ⟨(none, .bin 43 .sub (.t 42) (.c (.I 2))), [], []⟩,
 ⟨(none, .alloc 5 [(.I 0), (.I 0), (.I 0)]), [], []⟩,
 ⟨(none, .call (some 32) F.spec_l1Cur_pick [(.t 28), (.t 31)]), [12], [4, 5, 6, 7, 8, 9, 10, 11]⟩,
 ⟨(none, .bin 33 .add (.c (.I 1)) (.t 32)), [], []⟩,
 ⟨(none, .call (some 38) F.spec_l1Cur_pick [(.t 34), (.t 37)]), [12], [8, 9, 10, 11, 14]⟩,
 ⟨(none, .bin 39 .add (.c (.I 1)) (.t 38)), [], []⟩,
 ⟨(none, .call (some 44) F.spec_l1Cur_pick [(.t 40), (.t 43)]), [12], [14, 16]⟩,
 ⟨(none, .bin 45 .add (.c (.I 1)) (.t 44)), [], []⟩,
 ⟨(none, .build 46 [(.I 0), (.I 0), (.I 0)] [(0, 1, (.t 33)), (1, 1, (.t 39)), (2, 1, (.t 45))]), [], []⟩,
 ⟨(none, .store 3 (.t 5) (.t 46)), [], []⟩])
 (.seq (.ops [(none, .loadN 47 4 (.t 3)),
 (none, .loadN 48 3 (.t 5)),
 (none, .call (some 49) F.spec_l2Without [(.t 47), (.t 48)]),
 (none, .store 4 (.t 3) (.t 49))])
 (.seq (.ops [(none, .mv 50 (.t 0)),
 (none, .call (some 51) F.spec_l1Cur_one [(.t 50), (.c (.I 3))])])
 (.cond (.t 51) (.seq (.ops [(none, .mv 52 (.t 0)),
 (none, .call (some 53) F.spec_l1Cur_pick [(.t 52), (.c (.I 3))]),
 (none, .mv 6 (.t 53))])
 (.seq (.ops [(none, .mv 7 (.c (.I 0)))])
 (.block 2 (.loop (.seq (.seq (.ops [(none, .mv 54 (.t 7)),
 (none, .loadN 55 4 (.t 3)),
 (none, .mv 56 (.t 6)),
 (none, .call (some 57) F.spec_l2Long [(.t 55), (.t 56)]),
 (none, .bin 58 .lss (.t 54) (.t 57))])
 (.cond (.t 58) (.skip)
 (.exit 2)))
 (.seq (.block 3 (.seq (.ops [(none, .mv 61 (.t 6)),
 (none, .mv 62 (.t 7)),
 (none, .idxA 63 3 1 (.t 5) (.t 61)),
 (none, .store 1 (.t 63) (.t 62))])
 (.ops [(none, .loadN 64 4 (.t 3)),
 (none, .loadN 65 3 (.t 5)),
 (none, .call (some 66) F.spec_l2Without [(.t 64), (.t 65)]),
 (none, .store 4 (.t 3) (.t 66))])))
 (.ops [(none, .mv 59 (.t 7)),
 (none, .bin 60 .add (.t 59) (.c (.I 1))),
 (none, .mv 7 (.t 60))])))))))
 (.skip))))))
 (.ops [(none, .mv 26 (.t 4)),
 (none, .bin 27 .sub (.t 26) (.c (.I 1))),
 (none, .mv 4 (.t 27))]))))))
 (.seq (.ops [(none, .loadN 67 4 (.t 3)),
 (none, .store 4 (.t 2) (.t 67))])
 (.ret)))))⟩
def spec_DrawBareFaces : AFn :=
 ⟨1, 9, [.cellN 2 4],
 .seq (.ops [(none, .alloc 2 [(.I 0), (.I 0), (.I 0), .nil])])
 (.seq (.ops [(none, .mv 4 (.t 0)),
 (none, .build 5 [.nil, (.I 0), (.U 0)] [(0, 1, (.t 4))]),
 (none, .box 6 (.t 5)),
 (none, .mv 3 (.t 6))])
 (.seq (.ops [(none, .mv 7 (.t 3)),
 (none, .call (some 8) F.spec_l1Cur_hollow [(.t 7)]),
 (none, .store 4 (.t 2) (.t 8))])
 (.ret)))⟩
def spec_DrawBareSquares : AFn :=
 ⟨1, 12, [.cellN 2 4, .tmp 3],
 .seq (.ops [(none, .alloc 2 [(.I 0), (.I 0), (.I 0), .nil]),
 (none, .mv 3 (.c (.I 0)))])
 (.seq (.ops [(none, .mv 5 (.t 0)),
 (none, .build 6 [.nil, (.I 0), (.U 0)] [(0, 1, (.t 5))]),
 (none, .box 7 (.t 6)),
 (none, .mv 4 (.t 7))])
 (.seq (.ops [(none, .mv 8 (.t 4)),
 (none, .call (some 9) F.spec_l1Cur_hollow [(.t 8)]),
 (none, .mv 10 (.t 4)),
 (none, .call (some 11) F.spec_l1Cur_direction [(.t 10)]),
 (none, .store 4 (.t 2) (.t 9)),
 (none, .mv 3 (.t 11))])
 (.ret)))⟩
end Go.Ab.C

/- That the program has this code. -/
namespace Go.Ab.K
open Go Go.Ab
theorem spec_l1Cur_hollow : prepF Go.Proofs.Try.prog F.spec_l1Cur_hollow = some C.spec_l1Cur_hollow := by kernel_rfl
theorem spec_DrawBareFaces : prepF Go.Proofs.Try.prog F.spec_DrawBareFaces = some C.spec_DrawBareFaces := by kernel_rfl
theorem spec_DrawBareSquares : prepF Go.Proofs.Try.prog F.spec_DrawBareSquares = some C.spec_DrawBareSquares := by kernel_rfl
end Go.Ab.K

/- The abstract code of some functions (written by a program of mine from the translation, by way of prepF). -/
namespace Go.Ab.C
open Go.Ab
def spec_l1Cur_direction : AFn :=
 ⟨1, 10, [.tmp 2],
 .seq (.ops [(none, .mv 2 (.c (.I 0)))])
 (.seq (.seq (.ops [(none, .mv 3 (.t 0)),
 (none, .call (some 4) F.spec_l1Cur_one [(.t 3), (.c (.I 30))])])
 (.cond (.t 4) (.seq (.ops [(none, .mv 5 (.t 0)),
 (none, .buildSl 6 3 1 [(.I 0), (.I 0), (.I 0)] [(0, 1, (.c (.I (-1)))), (1, 1, (.c (.I 3))), (2, 1, (.c (.I 4611686018427387904)))]),
 (none, .call (some 7) F.spec_l1Cur_among [(.t 5), (.t 6)]),
 (none, .mv 2 (.t 7))])
 (.ret))
 (.skip)))
 (.seq (.ops [(none, .mv 8 (.t 0)),
 (none, .call (some 9) F.spec_l1Cur_pick [(.t 8), (.c (.I 3))]),
 (none, .mv 2 (.t 9))])
 (.ret)))⟩
end Go.Ab.C

/- That the program has this code. -/
namespace Go.Ab.K
open Go Go.Ab
theorem spec_l1Cur_direction : prepF Go.Proofs.Try.prog F.spec_l1Cur_direction = some C.spec_l1Cur_direction := by kernel_rfl
end Go.Ab.K

/- Contracts: what the law of heaps' forms draws. -/
namespace Go.Ab
open Go
set_option linter.unusedSimpArgs false
set_option linter.unusedVariables false
set_option maxRecDepth 20000

theorem d_direction {p t o a : Nat} {bs : List Nat} {M : Mem} (h : CurAt M p t o bs a) (ha : a ≤ 999900) : CallsR PG F.spec_l1Cur_direction [.ptr p 0] M fun v N => (∃ b : Int, v = .I b) ∧ DrawN M p t o bs (a + 4) N := by
  refine callsR_run K.spec_l1Cur_direction rfl ?_
  simp (disch := omega) only [C.spec_l1Cur_direction, ↓SXd, SXu, slBounds, ↓sop, ↓aop, ↓reduceIte, LV.cells, AOp.dst, LV.I, LV.B, LV.U, LV.S, LV.nil, Nat.reduceEqDiff, Nat.reduceAdd, Nat.reduceMul, Nat.reduceSub, Nat.reduceLeDiff, Nat.reduceBEq, Nat.reduceDiv, Nat.reduceMod, Int.reduceToNat, Int.reduceLT, Int.reduceLE, Int.reduceAdd, Int.reduceSub, Int.reduceMul, Int.reduceEq, Int.reduceNeg, reduceCtorEq, resV, resAll, ARes.ev, LV.flat, ite_true, ite_false, exists_eq_left', exists_eq_left, keyOf, implies_true, fillC, capOf]
  refine callR_of (d_one h (by omega)) ?_
  rintro _ N1 ⟨⟨b, rfl⟩, hd1⟩
  cases b
  · simp (disch := omega) only [↓SXd, SXu, slBounds, ↓sop, ↓aop, ↓reduceIte, LV.cells, AOp.dst, LV.I, LV.B, LV.U, LV.S, LV.nil, Nat.reduceEqDiff, Nat.reduceAdd, Nat.reduceMul, Nat.reduceSub, Nat.reduceLeDiff, Nat.reduceBEq, Nat.reduceDiv, Nat.reduceMod, Int.reduceToNat, Int.reduceLT, Int.reduceLE, Int.reduceAdd, Int.reduceSub, Int.reduceMul, Int.reduceEq, Int.reduceNeg, reduceCtorEq, resV, resAll, ARes.ev, LV.flat, ite_true, ite_false, exists_eq_left', exists_eq_left, keyOf, implies_true, fillC, capOf]
    refine callR_of (d_pick hd1.1 (by omega)) ?_
    rintro _ N2 ⟨⟨b, rfl, _⟩, hd2⟩
    simp (disch := omega) only [↓SXd, SXu, slBounds, ↓sop, ↓aop, ↓reduceIte, LV.cells, AOp.dst, LV.I, LV.B, LV.U, LV.S, LV.nil, Nat.reduceEqDiff, Nat.reduceAdd, Nat.reduceMul, Nat.reduceSub, Nat.reduceLeDiff, Nat.reduceBEq, Nat.reduceDiv, Nat.reduceMod, Int.reduceToNat, Int.reduceLT, Int.reduceLE, Int.reduceAdd, Int.reduceSub, Int.reduceMul, Int.reduceEq, Int.reduceNeg, reduceCtorEq, resV, resAll, ARes.ev, LV.flat, ite_true, ite_false, exists_eq_left', exists_eq_left, keyOf, implies_true, fillC, capOf]
    exact ⟨⟨_, rfl⟩, hd1.trans hd2⟩
  · simp (disch := omega) only [splice, ↓SXd, SXu, slBounds, ↓sop, ↓aop, ↓reduceIte, LV.cells, AOp.dst, LV.I, LV.B, LV.U, LV.S, LV.nil, Nat.reduceEqDiff, Nat.reduceAdd, Nat.reduceMul, Nat.reduceSub, Nat.reduceLeDiff, Nat.reduceBEq, Nat.reduceDiv, Nat.reduceMod, Int.reduceToNat, Int.reduceLT, Int.reduceLE, Int.reduceAdd, Int.reduceSub, Int.reduceMul, Int.reduceEq, Int.reduceNeg, reduceCtorEq, resV, resAll, ARes.ev, LV.flat, ite_true, ite_false, exists_eq_left', exists_eq_left, keyOf, implies_true, fillC, capOf]
    refine callR_of (d_amongNew (xs := [-1, 3, 4611686018427387904]) hd1.1 (by omega) (by simp) (by simp)) ?_
    rintro _ N2 ⟨⟨b, rfl, _⟩, hd2⟩
    simp (disch := omega) only [↓SXd, SXu, slBounds, ↓sop, ↓aop, ↓reduceIte, LV.cells, AOp.dst, LV.I, LV.B, LV.U, LV.S, LV.nil, Nat.reduceEqDiff, Nat.reduceAdd, Nat.reduceMul, Nat.reduceSub, Nat.reduceLeDiff, Nat.reduceBEq, Nat.reduceDiv, Nat.reduceMod, Int.reduceToNat, Int.reduceLT, Int.reduceLE, Int.reduceAdd, Int.reduceSub, Int.reduceMul, Int.reduceEq, Int.reduceNeg, reduceCtorEq, resV, resAll, ARes.ev, LV.flat, ite_true, ite_false, exists_eq_left', exists_eq_left, keyOf, implies_true, fillC, capOf]
    exact ⟨⟨_, rfl⟩, hd1.trans hd2⟩
section
variable {t o : Nat} {bs : List Nat} {M : Mem} (hB : Bytes M t o bs) (h255 : ∀ b ∈ bs, b ≤ 255) (hl : bs.length ≤ 1000000000)
include hB h255 hl
end
end Go.Ab
