/- Parts of the proof of FnShadowsSaid: Vd Ve Jo C_Hi K_Hi C_Hh K_Hh C_Th K_Th C_Tg K_Tg Tg Th C_Pe K_Pe C_Pc K_Pc Oe Pc Pd Pe Hh Tt Hi C_Jb K_Jb Jb Jc Jf C_Jg K_Jg Jg Jp. -/
import Derived.Test.YthgljdbfkojpeaaGreatA9
import Derived.Test.YthgljdbfkojpeaaGreatA5
import Derived.Test.YthgljdbfkojpeaaGreatA8
import Derived.Test.YthgljdbfkojpeaaGreatA3
import Derived.Test.YthgljdbfkojpeaaGreatA4
import Derived.Test.YthgljdbfkojpeaaGreatProg
import Derived.KernelRfl
import Derived.Test.YthgljdbfkojpeaaGreatA6
import Derived.Test.YthgljdbfkojpeaaGreatA7
set_option linter.all false
/- Contracts: cells that must be, the reference's side; MustCells and SpareCells, both sides. -/
namespace Go.Ab
open Go
set_option linter.unusedSimpArgs false
set_option linter.unusedVariables false
set_option maxRecDepth 20000

theorem h_l3Must {x y z : Int} {t o : Nat} {cs : List Cell} {c : Cell} {M : Mem} (h : Tri M t o cs) (hH : HeapOK x y z cs) (hc : c.inBox x y z) :
    CallsTo PG F.spec_l3Must [.agg [.I x, .I y, .I z, .ref t o cs.length], .agg [.I c.a, .I c.b, .I c.c]] M (.B (aloneK y z cs 3 c)) M := by
  have hS := hH.1
  have ht := h.lt
  refine calls_run K.spec_l3Must rfl ?_
  simp (disch := omega) only [C.spec_l3Must, ↓SXd, SXu, slBounds, ↓sop, ↓aop, ↓reduceIte, LV.cells, AOp.dst, LV.I, LV.B, LV.U, LV.S, LV.nil, Nat.reduceEqDiff, Nat.reduceAdd, Nat.reduceMul, Nat.reduceSub, Nat.reduceLeDiff, Nat.reduceBEq, Nat.reduceDiv, Nat.reduceMod, Int.reduceToNat, Int.reduceLT, Int.reduceLE, Int.reduceAdd, Int.reduceSub, Int.reduceMul, Int.reduceEq, Int.reduceNeg, reduceCtorEq, resV, resAll, ARes.ev, LV.flat, ite_true, ite_false, exists_eq_left', exists_eq_left, keyOf, implies_true, fillC, capOf]
  refine ev_loop (fun m fr M' => ∃ d : Nat, d + m = 3 ∧ Pre M M' ∧ Live M' M.length (.row [.I x, .I y, .I z, .ref t o cs.length] true 0) ∧ Live M' (M.length + 1) (.row [.I c.a, .I c.b, .I c.c] true 0) ∧ aloneK y z cs d c = false ∧ fr 2 = .ptr M.length 0 ∧ fr 3 = .ptr (M.length + 1) 0 ∧ fr 5 = .I d) 3
    ⟨0, rfl, Pre.app _ _, Live.new, Live.newj rfl, rfl, rfl, rfl, rfl⟩ ?_
  rintro m fr M' ⟨d, hd, hpre, b2, b3, hal, f2, f3, f5⟩
  simp (disch := omega) only [f2, f3, f5, ↓SXd, SXu, slBounds, ↓sop, ↓aop, ↓reduceIte, LV.cells, AOp.dst, LV.I, LV.B, LV.U, LV.S, LV.nil, Nat.reduceEqDiff, Nat.reduceAdd, Nat.reduceMul, Nat.reduceSub, Nat.reduceLeDiff, Nat.reduceBEq, Nat.reduceDiv, Nat.reduceMod, Int.reduceToNat, Int.reduceLT, Int.reduceLE, Int.reduceAdd, Int.reduceSub, Int.reduceMul, Int.reduceEq, Int.reduceNeg, reduceCtorEq, resV, resAll, ARes.ev, LV.flat, ite_true, ite_false, exists_eq_left', exists_eq_left, keyOf, implies_true, fillC, capOf]
  refine condC_dec (fun hlt => ?_) (fun hlt => ?_)
  · have hd3 : d < 3 := by omega
    have hll := lines_le hS hd3
    have hvl := viewL_len (x := x) (y := y) (z := z) (d := d) (cs := cs)
    obtain ⟨l1, l2⟩ := lineOf_in hS hc hd3
    have hget := viewL_get (x := x) (y := y) (z := z) (d := d) (cs := cs) (i := (lineOf y z c d).toNat) (by omega)
    have hsu : aloneK y z cs (d + 1) c = decide (cs.countP (onLine y z d (lineOf y z c d).toNat) = 1) := by
      show (aloneK y z cs d c || _) = _
      rw [hal, Bool.false_or]
    have hda : Dir (if d = 0 then 1 else 0) := by unfold Dir; split <;> omega
    have hdb : Dir (if d = 2 then 1 else 2) := by unfold Dir; split <;> omega
    have hline : c.at (if d = 0 then 1 else 0) * sideOf x y z (if d = 2 then 1 else 2) + c.at (if d = 2 then 1 else 2) = lineOf y z c d := by
      rcases (show d = 0 ∨ d = 1 ∨ d = 2 by omega) with rfl | rfl | rfl <;> rfl
    have hrA : 0 ≤ (if d = 0 then (1 : Int) else 0) ∧ (if d = 0 then (1 : Int) else 0) < 3 := by split <;> omega
    have hrB : 0 ≤ (if d = 2 then (1 : Int) else 2) ∧ (if d = 2 then (1 : Int) else 2) < 3 := by split <;> omega
    simp (disch := omega) only [f2, f3, f5, ↓SXd, SXu, slBounds, ↓sop, ↓aop, ↓reduceIte, LV.cells, AOp.dst, LV.I, LV.B, LV.U, LV.S, LV.nil, Nat.reduceEqDiff, Nat.reduceAdd, Nat.reduceMul, Nat.reduceSub, Nat.reduceLeDiff, Nat.reduceBEq, Nat.reduceDiv, Nat.reduceMod, Int.reduceToNat, Int.reduceLT, Int.reduceLE, Int.reduceAdd, Int.reduceSub, Int.reduceMul, Int.reduceEq, Int.reduceNeg, reduceCtorEq, resV, resAll, ARes.ev, LV.flat, ite_true, ite_false, exists_eq_left', exists_eq_left, keyOf, implies_true, fillC, capOf]
    refine callK_of (h_l2Others hd3) ?_
    simp (disch := omega) only [f2, f3, f5, b2.cells, ↓SXd, SXu, slBounds, ↓sop, ↓aop, ↓reduceIte, LV.cells, AOp.dst, LV.I, LV.B, LV.U, LV.S, LV.nil, Nat.reduceEqDiff, Nat.reduceAdd, Nat.reduceMul, Nat.reduceSub, Nat.reduceLeDiff, Nat.reduceBEq, Nat.reduceDiv, Nat.reduceMod, Int.reduceToNat, Int.reduceLT, Int.reduceLE, Int.reduceAdd, Int.reduceSub, Int.reduceMul, Int.reduceEq, Int.reduceNeg, reduceCtorEq, resV, resAll, ARes.ev, LV.flat, ite_true, ite_false, exists_eq_left', exists_eq_left, keyOf, implies_true, fillC, capOf]
    generalize (if d = 0 then (1 : Int) else 0) = A at hda hline hrA ⊢
    generalize (if d = 2 then (1 : Int) else 2) = B at hdb hline hrB ⊢
    obtain ⟨rA1, rA2⟩ := hrA
    obtain ⟨rB1, rB2⟩ := hrB
    have aA := at_in hc A
    have aB := at_in hc B
    have sB := sideOf_in hS B
    have sA := sideOf_in hS A
    have hmul : 0 ≤ c.at A * sideOf x y z B ∧ c.at A * sideOf x y z B ≤ 16 := by
      rcases (show sideOf x y z B = 1 ∨ sideOf x y z B = 2 ∨ sideOf x y z B = 3 ∨ sideOf x y z B = 4 by omega) with e | e | e | e <;> rw [e] <;> omega
    have kA : [LV.I c.a, .I c.b, .I c.c][A.toNat]? = some (.I (c.at A)) := by
      rcases (show A = 0 ∨ A = 1 ∨ A = 2 by omega) with rfl | rfl | rfl <;> rfl
    have kB : [LV.I c.a, .I c.b, .I c.c][B.toNat]? = some (.I (c.at B)) := by
      rcases (show B = 0 ∨ B = 1 ∨ B = 2 by omega) with rfl | rfl | rfl <;> rfl
    have gA := b3.cell (o := A.toNat)
    have gB := b3.cell (o := B.toNat)
    rw [kA] at gA
    rw [kB] at gB
    simp (disch := omega) only [f2, f3, f5, gA, gB, b2.cells, Nat.mul_one, Nat.zero_add, ↓SXd, SXu, slBounds, ↓sop, ↓aop, ↓reduceIte, LV.cells, AOp.dst, LV.I, LV.B, LV.U, LV.S, LV.nil, Nat.reduceEqDiff, Nat.reduceAdd, Nat.reduceMul, Nat.reduceSub, Nat.reduceLeDiff, Nat.reduceBEq, Nat.reduceDiv, Nat.reduceMod, Int.reduceToNat, Int.reduceLT, Int.reduceLE, Int.reduceAdd, Int.reduceSub, Int.reduceMul, Int.reduceEq, Int.reduceNeg, reduceCtorEq, resV, resAll, ARes.ev, LV.flat, ite_true, ite_false, exists_eq_left', exists_eq_left, keyOf, implies_true, fillC, capOf]
    refine callK_of (h_l2View (h.pre hpre) hH hd3) ?_
    simp (disch := omega) only [f2, f3, f5, ↓SXd, SXu, slBounds, ↓sop, ↓aop, ↓reduceIte, LV.cells, AOp.dst, LV.I, LV.B, LV.U, LV.S, LV.nil, Nat.reduceEqDiff, Nat.reduceAdd, Nat.reduceMul, Nat.reduceSub, Nat.reduceLeDiff, Nat.reduceBEq, Nat.reduceDiv, Nat.reduceMod, Int.reduceToNat, Int.reduceLT, Int.reduceLE, Int.reduceAdd, Int.reduceSub, Int.reduceMul, Int.reduceEq, Int.reduceNeg, reduceCtorEq, resV, resAll, ARes.ev, LV.flat, ite_true, ite_false, exists_eq_left', exists_eq_left, keyOf, implies_true, fillC, capOf]
    refine callK_of (h_l2Long hdb) ?_
    simp (disch := omega) only [f2, f3, f5, hline, intL_get, hget, ↓SXd, SXu, slBounds, ↓sop, ↓aop, ↓reduceIte, LV.cells, AOp.dst, LV.I, LV.B, LV.U, LV.S, LV.nil, Nat.reduceEqDiff, Nat.reduceAdd, Nat.reduceMul, Nat.reduceSub, Nat.reduceLeDiff, Nat.reduceBEq, Nat.reduceDiv, Nat.reduceMod, Int.reduceToNat, Int.reduceLT, Int.reduceLE, Int.reduceAdd, Int.reduceSub, Int.reduceMul, Int.reduceEq, Int.reduceNeg, reduceCtorEq, resV, resAll, ARes.ev, LV.flat, ite_true, ite_false, exists_eq_left', exists_eq_left, keyOf, implies_true, fillC, capOf]
    have hcv : (((cs.countP (onLine y z d (lineOf y z c d).toNat) : Nat) : Int) = 1) = (cs.countP (onLine y z d (lineOf y z c d).toNat) = 1) := by rw [eq_iff_iff]; omega
    by_cases h1 : cs.countP (onLine y z d (lineOf y z c d).toNat) = 1
    · simp (disch := omega) only [f2, f3, f5, hcv, h1, ↓SXd, SXu, slBounds, ↓sop, ↓aop, ↓reduceIte, LV.cells, AOp.dst, LV.I, LV.B, LV.U, LV.S, LV.nil, Nat.reduceEqDiff, Nat.reduceAdd, Nat.reduceMul, Nat.reduceSub, Nat.reduceLeDiff, Nat.reduceBEq, Nat.reduceDiv, Nat.reduceMod, Int.reduceToNat, Int.reduceLT, Int.reduceLE, Int.reduceAdd, Int.reduceSub, Int.reduceMul, Int.reduceEq, Int.reduceNeg, reduceCtorEq, resV, resAll, ARes.ev, LV.flat, ite_true, ite_false, exists_eq_left', exists_eq_left, keyOf, implies_true, fillC, capOf]
      rw [aloneK_iff.2 ⟨d, hd3, h1⟩]
      exact cmp_pre hpre.app' rfl
    · simp (disch := omega) only [f2, f3, f5, hcv, h1, ↓SXd, SXu, slBounds, ↓sop, ↓aop, ↓reduceIte, LV.cells, AOp.dst, LV.I, LV.B, LV.U, LV.S, LV.nil, Nat.reduceEqDiff, Nat.reduceAdd, Nat.reduceMul, Nat.reduceSub, Nat.reduceLeDiff, Nat.reduceBEq, Nat.reduceDiv, Nat.reduceMod, Int.reduceToNat, Int.reduceLT, Int.reduceLE, Int.reduceAdd, Int.reduceSub, Int.reduceMul, Int.reduceEq, Int.reduceNeg, reduceCtorEq, resV, resAll, ARes.ev, LV.flat, ite_true, ite_false, exists_eq_left', exists_eq_left, keyOf, implies_true, fillC, capOf]
      rw [decide_eq_false h1] at hsu
      exact ⟨m - 1, by omega, d + 1, by omega, hpre.app', b2.app, b3.app, hsu, f2, f3, eqI (natI _)⟩
  · simp (disch := omega) only [f2, f3, f5, ↓SXd, SXu, slBounds, ↓sop, ↓aop, ↓reduceIte, LV.cells, AOp.dst, LV.I, LV.B, LV.U, LV.S, LV.nil, Nat.reduceEqDiff, Nat.reduceAdd, Nat.reduceMul, Nat.reduceSub, Nat.reduceLeDiff, Nat.reduceBEq, Nat.reduceDiv, Nat.reduceMod, Int.reduceToNat, Int.reduceLT, Int.reduceLE, Int.reduceAdd, Int.reduceSub, Int.reduceMul, Int.reduceEq, Int.reduceNeg, reduceCtorEq, resV, resAll, ARes.ev, LV.flat, ite_true, ite_false, exists_eq_left', exists_eq_left, keyOf, implies_true, fillC, capOf]
    have : d = 3 := by omega
    subst this
    rw [hal]
    exact cmp_pre hpre rfl
/-- Of the allowed cells those that must be (sp false), or the others. -/
def shdPart (x y z : Int) (tp fr sd : List Int) (sp : Bool) : List Cell := (pick x y z (allowedB y z tp fr sd)).filter fun c => aloneK y z (pick x y z (allowedB y z tp fr sd)) 3 c != sp
section
variable {x y z : Int} {t o t' o' t2 o2 : Nat} {tp fr sd : List Int} {M : Mem} (h1 : Ints M t o tp) (h2 : Ints M t' o' fr) (h3 : Ints M t2 o2 sd)
include h1 h2 h3
theorem h_l3Parted {sp : Bool} (hok : ShdOK x y z tp fr sd) : CallsTo PG F.spec_l3Parted [.agg [.I x, .I y, .I z, .ref t o tp.length, .ref t' o' fr.length, .ref t2 o2 sd.length], .B sp] M (.ref M.length 0 (shdPart x y z tp fr sd sp).length)
    (M ++ [some (.row (triL (shdPart x y z tp fr sd sp)) true 3)]) := by
  have hS := hok.1
  have ht := h1.lt
  have ht' := h2.lt
  have ht2 := h3.lt
  refine calls_run K.spec_l3Parted rfl ?_
  simp (disch := omega) only [C.spec_l3Parted, ↓SXd, SXu, slBounds, ↓sop, ↓aop, ↓reduceIte, LV.cells, AOp.dst, LV.I, LV.B, LV.U, LV.S, LV.nil, Nat.reduceEqDiff, Nat.reduceAdd, Nat.reduceMul, Nat.reduceSub, Nat.reduceLeDiff, Nat.reduceBEq, Nat.reduceDiv, Nat.reduceMod, Int.reduceToNat, Int.reduceLT, Int.reduceLE, Int.reduceAdd, Int.reduceSub, Int.reduceMul, Int.reduceEq, Int.reduceNeg, reduceCtorEq, resV, resAll, ARes.ev, LV.flat, ite_true, ite_false, exists_eq_left', exists_eq_left, keyOf, implies_true, fillC, capOf]
  refine callK_of (h_l3Allowed h1.app h2.app h3.app hok) ?_
  simp (disch := omega) only [splice, ↓SXd, SXu, slBounds, ↓sop, ↓aop, ↓reduceIte, LV.cells, AOp.dst, LV.I, LV.B, LV.U, LV.S, LV.nil, Nat.reduceEqDiff, Nat.reduceAdd, Nat.reduceMul, Nat.reduceSub, Nat.reduceLeDiff, Nat.reduceBEq, Nat.reduceDiv, Nat.reduceMod, Int.reduceToNat, Int.reduceLT, Int.reduceLE, Int.reduceAdd, Int.reduceSub, Int.reduceMul, Int.reduceEq, Int.reduceNeg, reduceCtorEq, resV, resAll, ARes.ev, LV.flat, ite_true, ite_false, exists_eq_left', exists_eq_left, keyOf, implies_true, fillC, capOf]
  unfold shdPart
  have hH := pick_ok hS (allowedB y z tp fr sd)
  have hAl := pick_len hS (allowedB y z tp fr sd)
  generalize pick x y z (allowedB y z tp fr sd) = A at hH hAl ⊢
  refine ev_loop (fun m fr1 M' => ∃ i u : Nat, i + m = A.length ∧ Pre M M' ∧ Live M' (M.length + 2) (.row (triL A) true 3) ∧ Live M' (M.length + 3) (.row [.I x, .I y, .I z, .ref (M.length + 2) 0 A.length] true 0) ∧ Live M' u (.row (triL ((A.take i).filter fun c => aloneK y z A 3 c != sp)) true 3) ∧ M.length ≤ u ∧ u ≠ M.length + 2 ∧ u ≠ M.length + 3 ∧
    fr1 1 = .B sp ∧ fr1 5 = .ref u 0 ((A.take i).filter fun c => aloneK y z A 3 c != sp).length ∧ fr1 6 = .ptr (M.length + 3) 0 ∧ fr1 7 = .I i) A.length
    ⟨0, M.length + 1, by omega, Pre.app _ _, Live.newj rfl, Live.newj rfl, Live.newj rfl, by omega, by omega, by omega, rfl, rfl, rfl, rfl⟩ ?_
  rintro m fr1 M' ⟨i, u, hi, hpre, ba, b6, bu, hu, hu2, hu3, f1, f5, f6, f7⟩
  simp (disch := omega) only [f1, f5, f6, f7, b6.cell, ↓SXd, SXu, slBounds, ↓sop, ↓aop, ↓reduceIte, LV.cells, AOp.dst, LV.I, LV.B, LV.U, LV.S, LV.nil, Nat.reduceEqDiff, Nat.reduceAdd, Nat.reduceMul, Nat.reduceSub, Nat.reduceLeDiff, Nat.reduceBEq, Nat.reduceDiv, Nat.reduceMod, Int.reduceToNat, Int.reduceLT, Int.reduceLE, Int.reduceAdd, Int.reduceSub, Int.reduceMul, Int.reduceEq, Int.reduceNeg, reduceCtorEq, resV, resAll, ARes.ev, LV.flat, ite_true, ite_false, exists_eq_left', exists_eq_left, keyOf, implies_true, fillC, capOf]
  refine condC_dec (fun hlt => ?_) (fun hlt => ?_)
  · have hil : i < A.length := by omega
    have hg := ba.tri0 hil
    have hc := hH.mem (getD_mem' (d := default) hil)
    have hts : A.take (i + 1) = A.take i ++ [A.getD i default] := by
      rw [List.take_succ, List.getElem?_eq_getElem hil]; simp [hil]
    have hfl := List.length_filter_le (fun c => aloneK y z A 3 c != sp) (A.take i)
    have htl := List.length_take_le i A
    generalize A.getD i default = c at hg hc hts
    have hstep : (A.take (i + 1)).filter (fun c => aloneK y z A 3 c != sp) = (A.take i).filter (fun c => aloneK y z A 3 c != sp) ++ (if aloneK y z A 3 c != sp then [c] else []) := by
      rw [hts, List.filter_append, List.filter_cons, List.filter_nil]
    simp (disch := omega) only [f1, f5, f6, f7, hg, Cell.row, b6.cell, b6.cells, ↓SXd, SXu, slBounds, ↓sop, ↓aop, ↓reduceIte, LV.cells, AOp.dst, LV.I, LV.B, LV.U, LV.S, LV.nil, Nat.reduceEqDiff, Nat.reduceAdd, Nat.reduceMul, Nat.reduceSub, Nat.reduceLeDiff, Nat.reduceBEq, Nat.reduceDiv, Nat.reduceMod, Int.reduceToNat, Int.reduceLT, Int.reduceLE, Int.reduceAdd, Int.reduceSub, Int.reduceMul, Int.reduceEq, Int.reduceNeg, reduceCtorEq, resV, resAll, ARes.ev, LV.flat, ite_true, ite_false, exists_eq_left', exists_eq_left, keyOf, implies_true, fillC, capOf]
    refine callK_of (h_l3Must (ba.has) hH hc) ?_
    simp (disch := omega) only [f1, f5, f6, f7, ↓SXd, SXu, slBounds, ↓sop, ↓aop, ↓reduceIte, LV.cells, AOp.dst, LV.I, LV.B, LV.U, LV.S, LV.nil, Nat.reduceEqDiff, Nat.reduceAdd, Nat.reduceMul, Nat.reduceSub, Nat.reduceLeDiff, Nat.reduceBEq, Nat.reduceDiv, Nat.reduceMod, Int.reduceToNat, Int.reduceLT, Int.reduceLE, Int.reduceAdd, Int.reduceSub, Int.reduceMul, Int.reduceEq, Int.reduceNeg, reduceCtorEq, resV, resAll, ARes.ev, LV.flat, ite_true, ite_false, exists_eq_left', exists_eq_left, keyOf, implies_true, fillC, capOf]
    have hne : ∀ b : Bool, (b != sp) = !(b == sp) := fun b => by cases b <;> cases sp <;> rfl
    generalize aloneK y z A 3 c = al at hstep ⊢
    have hb6 := b6.lt
    by_cases he : al = sp
    · subst he
      rw [if_neg (by simp), List.append_nil] at hstep
      rw [show (al == al) = true by simp]
      simp (disch := omega) only [f1, f5, f6, f7, ↓SXd, SXu, slBounds, ↓sop, ↓aop, ↓reduceIte, LV.cells, AOp.dst, LV.I, LV.B, LV.U, LV.S, LV.nil, Nat.reduceEqDiff, Nat.reduceAdd, Nat.reduceMul, Nat.reduceSub, Nat.reduceLeDiff, Nat.reduceBEq, Nat.reduceDiv, Nat.reduceMod, Int.reduceToNat, Int.reduceLT, Int.reduceLE, Int.reduceAdd, Int.reduceSub, Int.reduceMul, Int.reduceEq, Int.reduceNeg, reduceCtorEq, resV, resAll, ARes.ev, LV.flat, ite_true, ite_false, exists_eq_left', exists_eq_left, keyOf, implies_true, fillC, capOf]
      rw [← hstep] at bu f5
      exact ⟨m - 1, by omega, i + 1, u, by omega, hpre, ba, b6, bu, hu, hu2, hu3, f1, f5, f6, eqI (natI _)⟩
    · rw [if_pos (by simpa using he)] at hstep
      rw [show (al == sp) = false by simpa using he]
      simp (disch := omega) only [f1, f5, f6, f7, hg, Cell.row, splice, b6.cell, ↓SXd, SXu, slBounds, ↓sop, ↓aop, ↓reduceIte, LV.cells, AOp.dst, LV.I, LV.B, LV.U, LV.S, LV.nil, Nat.reduceEqDiff, Nat.reduceAdd, Nat.reduceMul, Nat.reduceSub, Nat.reduceLeDiff, Nat.reduceBEq, Nat.reduceDiv, Nat.reduceMod, Int.reduceToNat, Int.reduceLT, Int.reduceLE, Int.reduceAdd, Int.reduceSub, Int.reduceMul, Int.reduceEq, Int.reduceNeg, reduceCtorEq, resV, resAll, ARes.ev, LV.flat, ite_true, ite_false, exists_eq_left', exists_eq_left, keyOf, implies_true, fillC, capOf]
      refine appendK_cell bu (by omega) fun N l1 l2 l3 => ?_
      simp (disch := omega) only [f1, f5, f6, f7, ↓SXd, SXu, slBounds, ↓sop, ↓aop, ↓reduceIte, LV.cells, AOp.dst, LV.I, LV.B, LV.U, LV.S, LV.nil, Nat.reduceEqDiff, Nat.reduceAdd, Nat.reduceMul, Nat.reduceSub, Nat.reduceLeDiff, Nat.reduceBEq, Nat.reduceDiv, Nat.reduceMod, Int.reduceToNat, Int.reduceLT, Int.reduceLE, Int.reduceAdd, Int.reduceSub, Int.reduceMul, Int.reduceEq, Int.reduceNeg, reduceCtorEq, resV, resAll, ARes.ev, LV.flat, ite_true, ite_false, exists_eq_left', exists_eq_left, keyOf, implies_true, fillC, capOf]
      rw [cell_eta, ← hstep] at l2
      exact ⟨m - 1, by omega, i + 1, M'.length + 1, by omega, pre_step hpre (by omega) l1 l3, live_step ba (by omega) l3, live_step b6 (by omega) l3, l2, by omega, by omega, by omega, f1, by rw [hstep, List.length_append, List.length_singleton]; rfl, f6, eqI (natI _)⟩
  · simp (disch := omega) only [f1, f5, f6, f7, ↓SXd, SXu, slBounds, ↓sop, ↓aop, ↓reduceIte, LV.cells, AOp.dst, LV.I, LV.B, LV.U, LV.S, LV.nil, Nat.reduceEqDiff, Nat.reduceAdd, Nat.reduceMul, Nat.reduceSub, Nat.reduceLeDiff, Nat.reduceBEq, Nat.reduceDiv, Nat.reduceMod, Int.reduceToNat, Int.reduceLT, Int.reduceLE, Int.reduceAdd, Int.reduceSub, Int.reduceMul, Int.reduceEq, Int.reduceNeg, reduceCtorEq, resV, resAll, ARes.ev, LV.flat, ite_true, ite_false, exists_eq_left', exists_eq_left, keyOf, implies_true, fillC, capOf]
    have : i = A.length := by omega
    subst this
    rw [List.take_length] at bu f5
    exact cmp_keepL hpre (by omega) bu (triL_lo _) (by simp [rn, rn0, rn1])
end
end Go.Ab

/- Contracts: MustCells and SpareCells, both sides. -/
namespace Go.Ab
open Go
set_option linter.unusedSimpArgs false
set_option linter.unusedVariables false
set_option maxRecDepth 20000

/-- A valid shadow whose lists fit together. -/
def Fits (x y z : Int) (tp fr sd : List Int) : Prop := ShdOK x y z tp fr sd ∧ HasShd x y z tp fr sd (pick x y z (allowedB y z tp fr sd))
instance (x y z : Int) (tp fr sd : List Int) : Decidable (Fits x y z tp fr sd) := by unfold Fits; exact inferInstance
theorem shdPart_pick {x y z : Int} {tp fr sd : List Int} {sp : Bool} (hok : ShdOK x y z tp fr sd) :
    shdPart x y z tp fr sd sp = pick x y z fun c => allowedB y z tp fr sd c && (mustTo x y z (allowedB y z tp fr sd) (lits tp fr sd) c != sp) := by
  unfold shdPart
  rw [show ∀ q, (pick x y z (allowedB y z tp fr sd)).filter q = pick x y z fun c => allowedB y z tp fr sd c && q c from fun q => by unfold pick; rw [List.filter_filter]; apply List.filter_congr; intro c _; rw [Bool.and_comm]]
  refine pick_congr hok.1 fun c hc => ?_
  rw [must_eq hok hc]
  cases allowedB y z tp fr sd c <;> simp
theorem shdPart_must {x y z : Int} {tp fr sd : List Int} (hok : ShdOK x y z tp fr sd) : shdPart x y z tp fr sd false = pick x y z (mustTo x y z (allowedB y z tp fr sd) (lits tp fr sd)) := by
  rw [shdPart_pick hok]
  refine pick_congr hok.1 fun c hc => ?_
  rw [must_eq hok hc]
  cases allowedB y z tp fr sd c <;> simp
theorem shdPart_spare {x y z : Int} {tp fr sd : List Int} (hok : ShdOK x y z tp fr sd) : shdPart x y z tp fr sd true = pick x y z fun c => allowedB y z tp fr sd c && !mustTo x y z (allowedB y z tp fr sd) (lits tp fr sd) c := by
  rw [shdPart_pick hok]
  refine pick_congr hok.1 fun c hc => ?_
  simp
def partOf (x y z : Int) (tp fr sd : List Int) (sp : Bool) : Option (List Cell) := if Fits x y z tp fr sd then some (shdPart x y z tp fr sd sp) else none
theorem partOf_len {x y z : Int} {tp fr sd : List Int} {sp : Bool} : ((partOf x y z tp fr sd sp).getD []).length ≤ 1000000 := by
  unfold partOf
  split
  · rename_i h
    rw [Option.getD_some, shdPart_pick h.1]
    have := pick_len h.1.1 fun c => allowedB y z tp fr sd c && (mustTo x y z (allowedB y z tp fr sd) (lits tp fr sd) c != sp)
    omega
  · simp
section
variable {x y z : Int} {t o t' o' t2 o2 : Nat} {tp fr sd : List Int} {M : Mem} (h1 : Ints M t o tp) (h2 : Ints M t' o' fr) (h3 : Ints M t2 o2 sd) (l1 : tp.length ≤ 1000000000) (l2 : fr.length ≤ 1000000000) (l3 : sd.length ≤ 1000000000)
include h1 h2 h3 l1 l2 l3
theorem h_sMustCells : CallsR PG F.spec_MustCells [.agg [.I x, .I y, .I z, .ref t o tp.length, .ref t' o' fr.length, .ref t2 o2 sd.length]] M (CellsRes M (partOf x y z tp fr sd false)) := by
  refine callsR_run K.spec_MustCells rfl ?_
  simp (disch := omega) only [C.spec_MustCells, ↓SXd, SXu, slBounds, ↓sop, ↓aop, ↓reduceIte, LV.cells, AOp.dst, LV.I, LV.B, LV.U, LV.S, LV.nil, Nat.reduceEqDiff, Nat.reduceAdd, Nat.reduceMul, Nat.reduceSub, Nat.reduceLeDiff, Nat.reduceBEq, Nat.reduceDiv, Nat.reduceMod, Int.reduceToNat, Int.reduceLT, Int.reduceLE, Int.reduceAdd, Int.reduceSub, Int.reduceMul, Int.reduceEq, Int.reduceNeg, reduceCtorEq, resV, resAll, ARes.ev, LV.flat, ite_true, ite_false, exists_eq_left', exists_eq_left, keyOf, implies_true, fillC, capOf]
  refine callK_of (h_l3Fit h1.app h2.app h3.app l1 l2 l3) ?_

  by_cases hF : Fits x y z tp fr sd
  · rw [show decide (ShdOK x y z tp fr sd ∧ HasShd x y z tp fr sd (pick x y z (allowedB y z tp fr sd))) = true from decide_eq_true hF]
    simp (disch := omega) only [↓SXd, SXu, slBounds, ↓sop, ↓aop, ↓reduceIte, LV.cells, AOp.dst, LV.I, LV.B, LV.U, LV.S, LV.nil, Nat.reduceEqDiff, Nat.reduceAdd, Nat.reduceMul, Nat.reduceSub, Nat.reduceLeDiff, Nat.reduceBEq, Nat.reduceDiv, Nat.reduceMod, Int.reduceToNat, Int.reduceLT, Int.reduceLE, Int.reduceAdd, Int.reduceSub, Int.reduceMul, Int.reduceEq, Int.reduceNeg, reduceCtorEq, resV, resAll, ARes.ev, LV.flat, ite_true, ite_false, exists_eq_left', exists_eq_left, keyOf, implies_true, fillC, capOf]
    refine callN_of (h_l3Parted h1.app h2.app h3.app hF.1) ?_
    intro u N hu hp hl
    simp (disch := omega) only [↓SXd, SXu, slBounds, ↓sop, ↓aop, ↓reduceIte, LV.cells, AOp.dst, LV.I, LV.B, LV.U, LV.S, LV.nil, Nat.reduceEqDiff, Nat.reduceAdd, Nat.reduceMul, Nat.reduceSub, Nat.reduceLeDiff, Nat.reduceBEq, Nat.reduceDiv, Nat.reduceMod, Int.reduceToNat, Int.reduceLT, Int.reduceLE, Int.reduceAdd, Int.reduceSub, Int.reduceMul, Int.reduceEq, Int.reduceNeg, reduceCtorEq, resV, resAll, ARes.ev, LV.flat, ite_true, ite_false, exists_eq_left', exists_eq_left, keyOf, implies_true, fillC, capOf]
    unfold partOf
    rw [if_pos hF]
    exact ⟨_, rfl, SlC.of hl, Newer.of (by simp at hu; omega), (Pre.app _ _).trans hp⟩
  · rw [show decide (ShdOK x y z tp fr sd ∧ HasShd x y z tp fr sd (pick x y z (allowedB y z tp fr sd))) = false from decide_eq_false hF]
    simp (disch := omega) only [↓SXd, SXu, slBounds, ↓sop, ↓aop, ↓reduceIte, LV.cells, AOp.dst, LV.I, LV.B, LV.U, LV.S, LV.nil, Nat.reduceEqDiff, Nat.reduceAdd, Nat.reduceMul, Nat.reduceSub, Nat.reduceLeDiff, Nat.reduceBEq, Nat.reduceDiv, Nat.reduceMod, Int.reduceToNat, Int.reduceLT, Int.reduceLE, Int.reduceAdd, Int.reduceSub, Int.reduceMul, Int.reduceEq, Int.reduceNeg, reduceCtorEq, resV, resAll, ARes.ev, LV.flat, ite_true, ite_false, exists_eq_left', exists_eq_left, keyOf, implies_true, fillC, capOf]
    unfold partOf
    rw [if_neg hF]
    exact ⟨_, rfl, SlC.of (l := []) (Live.newj (j := 1) rfl), Newer.of (by omega), Pre.app _ _⟩
theorem h_sSpareCells : CallsR PG F.spec_SpareCells [.agg [.I x, .I y, .I z, .ref t o tp.length, .ref t' o' fr.length, .ref t2 o2 sd.length]] M (CellsRes M (partOf x y z tp fr sd true)) := by
  refine callsR_run K.spec_SpareCells rfl ?_
  simp (disch := omega) only [C.spec_SpareCells, ↓SXd, SXu, slBounds, ↓sop, ↓aop, ↓reduceIte, LV.cells, AOp.dst, LV.I, LV.B, LV.U, LV.S, LV.nil, Nat.reduceEqDiff, Nat.reduceAdd, Nat.reduceMul, Nat.reduceSub, Nat.reduceLeDiff, Nat.reduceBEq, Nat.reduceDiv, Nat.reduceMod, Int.reduceToNat, Int.reduceLT, Int.reduceLE, Int.reduceAdd, Int.reduceSub, Int.reduceMul, Int.reduceEq, Int.reduceNeg, reduceCtorEq, resV, resAll, ARes.ev, LV.flat, ite_true, ite_false, exists_eq_left', exists_eq_left, keyOf, implies_true, fillC, capOf]
  refine callK_of (h_l3Fit h1.app h2.app h3.app l1 l2 l3) ?_

  by_cases hF : Fits x y z tp fr sd
  · rw [show decide (ShdOK x y z tp fr sd ∧ HasShd x y z tp fr sd (pick x y z (allowedB y z tp fr sd))) = true from decide_eq_true hF]
    simp (disch := omega) only [↓SXd, SXu, slBounds, ↓sop, ↓aop, ↓reduceIte, LV.cells, AOp.dst, LV.I, LV.B, LV.U, LV.S, LV.nil, Nat.reduceEqDiff, Nat.reduceAdd, Nat.reduceMul, Nat.reduceSub, Nat.reduceLeDiff, Nat.reduceBEq, Nat.reduceDiv, Nat.reduceMod, Int.reduceToNat, Int.reduceLT, Int.reduceLE, Int.reduceAdd, Int.reduceSub, Int.reduceMul, Int.reduceEq, Int.reduceNeg, reduceCtorEq, resV, resAll, ARes.ev, LV.flat, ite_true, ite_false, exists_eq_left', exists_eq_left, keyOf, implies_true, fillC, capOf]
    refine callN_of (h_l3Parted h1.app h2.app h3.app hF.1) ?_
    intro u N hu hp hl
    simp (disch := omega) only [↓SXd, SXu, slBounds, ↓sop, ↓aop, ↓reduceIte, LV.cells, AOp.dst, LV.I, LV.B, LV.U, LV.S, LV.nil, Nat.reduceEqDiff, Nat.reduceAdd, Nat.reduceMul, Nat.reduceSub, Nat.reduceLeDiff, Nat.reduceBEq, Nat.reduceDiv, Nat.reduceMod, Int.reduceToNat, Int.reduceLT, Int.reduceLE, Int.reduceAdd, Int.reduceSub, Int.reduceMul, Int.reduceEq, Int.reduceNeg, reduceCtorEq, resV, resAll, ARes.ev, LV.flat, ite_true, ite_false, exists_eq_left', exists_eq_left, keyOf, implies_true, fillC, capOf]
    unfold partOf
    rw [if_pos hF]
    exact ⟨_, rfl, SlC.of hl, Newer.of (by simp at hu; omega), (Pre.app _ _).trans hp⟩
  · rw [show decide (ShdOK x y z tp fr sd ∧ HasShd x y z tp fr sd (pick x y z (allowedB y z tp fr sd))) = false from decide_eq_false hF]
    simp (disch := omega) only [↓SXd, SXu, slBounds, ↓sop, ↓aop, ↓reduceIte, LV.cells, AOp.dst, LV.I, LV.B, LV.U, LV.S, LV.nil, Nat.reduceEqDiff, Nat.reduceAdd, Nat.reduceMul, Nat.reduceSub, Nat.reduceLeDiff, Nat.reduceBEq, Nat.reduceDiv, Nat.reduceMod, Int.reduceToNat, Int.reduceLT, Int.reduceLE, Int.reduceAdd, Int.reduceSub, Int.reduceMul, Int.reduceEq, Int.reduceNeg, reduceCtorEq, resV, resAll, ARes.ev, LV.flat, ite_true, ite_false, exists_eq_left', exists_eq_left, keyOf, implies_true, fillC, capOf]
    unfold partOf
    rw [if_neg hF]
    exact ⟨_, rfl, SlC.of (l := []) (Live.newj (j := 1) rfl), Newer.of (by omega), Pre.app _ _⟩
theorem g_MustCells : CallsR PG F.impl_MustCells [.agg [.I x, .I y, .I z, .ref t o tp.length, .ref t' o' fr.length, .ref t2 o2 sd.length]] M (CellsRes M (partOf x y z tp fr sd false)) := by
  refine callsR_run K.impl_MustCells rfl ?_
  simp (disch := omega) only [C.impl_MustCells, ↓SXd, SXu, slBounds, ↓sop, ↓aop, ↓reduceIte, LV.cells, AOp.dst, LV.I, LV.B, LV.U, LV.S, LV.nil, Nat.reduceEqDiff, Nat.reduceAdd, Nat.reduceMul, Nat.reduceSub, Nat.reduceLeDiff, Nat.reduceBEq, Nat.reduceDiv, Nat.reduceMod, Int.reduceToNat, Int.reduceLT, Int.reduceLE, Int.reduceAdd, Int.reduceSub, Int.reduceMul, Int.reduceEq, Int.reduceNeg, reduceCtorEq, resV, resAll, ARes.ev, LV.flat, ite_true, ite_false, exists_eq_left', exists_eq_left, keyOf, implies_true, fillC, capOf]
  refine callR_of (g_isFitting h1.app h2.app h3.app l1 l2 l3) ?_
  rintro _ N ⟨rfl, hp⟩
  have hM : Pre M N := (Pre.app _ _).trans hp
  have b1 : Live N M.length (.row [.I x, .I y, .I z, .ref t o tp.length, .ref t' o' fr.length, .ref t2 o2 sd.length] true 0) := Live.new.pre hp
  by_cases hF : Fits x y z tp fr sd
  · rw [show decide (ShdOK x y z tp fr sd ∧ HasShd x y z tp fr sd (pick x y z (allowedB y z tp fr sd))) = true from decide_eq_true hF]
    simp (disch := omega) only [b1.cells, ↓SXd, SXu, slBounds, ↓sop, ↓aop, ↓reduceIte, LV.cells, AOp.dst, LV.I, LV.B, LV.U, LV.S, LV.nil, Nat.reduceEqDiff, Nat.reduceAdd, Nat.reduceMul, Nat.reduceSub, Nat.reduceLeDiff, Nat.reduceBEq, Nat.reduceDiv, Nat.reduceMod, Int.reduceToNat, Int.reduceLT, Int.reduceLE, Int.reduceAdd, Int.reduceSub, Int.reduceMul, Int.reduceEq, Int.reduceNeg, reduceCtorEq, resV, resAll, ARes.ev, LV.flat, ite_true, ite_false, exists_eq_left', exists_eq_left, keyOf, implies_true, fillC, capOf]
    refine callK_of (g_Shadow_box) ?_
    simp (disch := omega) only [↓SXd, SXu, slBounds, ↓sop, ↓aop, ↓reduceIte, LV.cells, AOp.dst, LV.I, LV.B, LV.U, LV.S, LV.nil, Nat.reduceEqDiff, Nat.reduceAdd, Nat.reduceMul, Nat.reduceSub, Nat.reduceLeDiff, Nat.reduceBEq, Nat.reduceDiv, Nat.reduceMod, Int.reduceToNat, Int.reduceLT, Int.reduceLE, Int.reduceAdd, Int.reduceSub, Int.reduceMul, Int.reduceEq, Int.reduceNeg, reduceCtorEq, resV, resAll, ARes.ev, LV.flat, ite_true, ite_false, exists_eq_left', exists_eq_left, keyOf, implies_true, fillC, capOf]
    refine callK_of (g_must (h1.pre hM) (h2.pre hM) (h3.pre hM) hF.1) ?_
    simp (disch := omega) only [↓SXd, SXu, slBounds, ↓sop, ↓aop, ↓reduceIte, LV.cells, AOp.dst, LV.I, LV.B, LV.U, LV.S, LV.nil, Nat.reduceEqDiff, Nat.reduceAdd, Nat.reduceMul, Nat.reduceSub, Nat.reduceLeDiff, Nat.reduceBEq, Nat.reduceDiv, Nat.reduceMod, Int.reduceToNat, Int.reduceLT, Int.reduceLE, Int.reduceAdd, Int.reduceSub, Int.reduceMul, Int.reduceEq, Int.reduceNeg, reduceCtorEq, resV, resAll, ARes.ev, LV.flat, ite_true, ite_false, exists_eq_left', exists_eq_left, keyOf, implies_true, fillC, capOf]
    refine callN_of (g_list hF.1.1) ?_
    intro u N2 hu hp2 hl
    simp (disch := omega) only [↓SXd, SXu, slBounds, ↓sop, ↓aop, ↓reduceIte, LV.cells, AOp.dst, LV.I, LV.B, LV.U, LV.S, LV.nil, Nat.reduceEqDiff, Nat.reduceAdd, Nat.reduceMul, Nat.reduceSub, Nat.reduceLeDiff, Nat.reduceBEq, Nat.reduceDiv, Nat.reduceMod, Int.reduceToNat, Int.reduceLT, Int.reduceLE, Int.reduceAdd, Int.reduceSub, Int.reduceMul, Int.reduceEq, Int.reduceNeg, reduceCtorEq, resV, resAll, ARes.ev, LV.flat, ite_true, ite_false, exists_eq_left', exists_eq_left, keyOf, implies_true, fillC, capOf]
    unfold partOf
    rw [if_pos hF, shdPart_must hF.1]
    exact ⟨_, rfl, SlC.of hl, Newer.of (by have := hM.1; omega), hM.trans hp2⟩
  · rw [show decide (ShdOK x y z tp fr sd ∧ HasShd x y z tp fr sd (pick x y z (allowedB y z tp fr sd))) = false from decide_eq_false hF]
    simp (disch := omega) only [↓SXd, SXu, slBounds, ↓sop, ↓aop, ↓reduceIte, LV.cells, AOp.dst, LV.I, LV.B, LV.U, LV.S, LV.nil, Nat.reduceEqDiff, Nat.reduceAdd, Nat.reduceMul, Nat.reduceSub, Nat.reduceLeDiff, Nat.reduceBEq, Nat.reduceDiv, Nat.reduceMod, Int.reduceToNat, Int.reduceLT, Int.reduceLE, Int.reduceAdd, Int.reduceSub, Int.reduceMul, Int.reduceEq, Int.reduceNeg, reduceCtorEq, resV, resAll, ARes.ev, LV.flat, ite_true, ite_false, exists_eq_left', exists_eq_left, keyOf, implies_true, fillC, capOf]
    unfold partOf
    rw [if_neg hF]
    exact ⟨_, rfl, SlC.nil, Newer.nil, hM⟩
theorem g_SpareCells : CallsR PG F.impl_SpareCells [.agg [.I x, .I y, .I z, .ref t o tp.length, .ref t' o' fr.length, .ref t2 o2 sd.length]] M (CellsRes M (partOf x y z tp fr sd true)) := by
  refine callsR_run K.impl_SpareCells rfl ?_
  simp (disch := omega) only [C.impl_SpareCells, ↓SXd, SXu, slBounds, ↓sop, ↓aop, ↓reduceIte, LV.cells, AOp.dst, LV.I, LV.B, LV.U, LV.S, LV.nil, Nat.reduceEqDiff, Nat.reduceAdd, Nat.reduceMul, Nat.reduceSub, Nat.reduceLeDiff, Nat.reduceBEq, Nat.reduceDiv, Nat.reduceMod, Int.reduceToNat, Int.reduceLT, Int.reduceLE, Int.reduceAdd, Int.reduceSub, Int.reduceMul, Int.reduceEq, Int.reduceNeg, reduceCtorEq, resV, resAll, ARes.ev, LV.flat, ite_true, ite_false, exists_eq_left', exists_eq_left, keyOf, implies_true, fillC, capOf]
  refine callR_of (g_isFitting h1.app h2.app h3.app l1 l2 l3) ?_
  rintro _ N ⟨rfl, hp⟩
  have hM : Pre M N := (Pre.app _ _).trans hp
  have b1 : Live N M.length (.row [.I x, .I y, .I z, .ref t o tp.length, .ref t' o' fr.length, .ref t2 o2 sd.length] true 0) := Live.new.pre hp
  by_cases hF : Fits x y z tp fr sd
  · rw [show decide (ShdOK x y z tp fr sd ∧ HasShd x y z tp fr sd (pick x y z (allowedB y z tp fr sd))) = true from decide_eq_true hF]
    simp (disch := omega) only [b1.cells, ↓SXd, SXu, slBounds, ↓sop, ↓aop, ↓reduceIte, LV.cells, AOp.dst, LV.I, LV.B, LV.U, LV.S, LV.nil, Nat.reduceEqDiff, Nat.reduceAdd, Nat.reduceMul, Nat.reduceSub, Nat.reduceLeDiff, Nat.reduceBEq, Nat.reduceDiv, Nat.reduceMod, Int.reduceToNat, Int.reduceLT, Int.reduceLE, Int.reduceAdd, Int.reduceSub, Int.reduceMul, Int.reduceEq, Int.reduceNeg, reduceCtorEq, resV, resAll, ARes.ev, LV.flat, ite_true, ite_false, exists_eq_left', exists_eq_left, keyOf, implies_true, fillC, capOf]
    refine callK_of (g_Shadow_box) ?_
    simp (disch := omega) only [↓SXd, SXu, slBounds, ↓sop, ↓aop, ↓reduceIte, LV.cells, AOp.dst, LV.I, LV.B, LV.U, LV.S, LV.nil, Nat.reduceEqDiff, Nat.reduceAdd, Nat.reduceMul, Nat.reduceSub, Nat.reduceLeDiff, Nat.reduceBEq, Nat.reduceDiv, Nat.reduceMod, Int.reduceToNat, Int.reduceLT, Int.reduceLE, Int.reduceAdd, Int.reduceSub, Int.reduceMul, Int.reduceEq, Int.reduceNeg, reduceCtorEq, resV, resAll, ARes.ev, LV.flat, ite_true, ite_false, exists_eq_left', exists_eq_left, keyOf, implies_true, fillC, capOf]
    refine callK_of (g_allowed (h1.pre hM) (h2.pre hM) (h3.pre hM) hF.1) ?_
    simp (disch := omega) only [↓SXd, SXu, slBounds, ↓sop, ↓aop, ↓reduceIte, LV.cells, AOp.dst, LV.I, LV.B, LV.U, LV.S, LV.nil, Nat.reduceEqDiff, Nat.reduceAdd, Nat.reduceMul, Nat.reduceSub, Nat.reduceLeDiff, Nat.reduceBEq, Nat.reduceDiv, Nat.reduceMod, Int.reduceToNat, Int.reduceLT, Int.reduceLE, Int.reduceAdd, Int.reduceSub, Int.reduceMul, Int.reduceEq, Int.reduceNeg, reduceCtorEq, resV, resAll, ARes.ev, LV.flat, ite_true, ite_false, exists_eq_left', exists_eq_left, keyOf, implies_true, fillC, capOf]
    refine callK_of (g_must (h1.pre hM) (h2.pre hM) (h3.pre hM) hF.1) ?_
    simp (disch := omega) only [↓SXd, SXu, slBounds, ↓sop, ↓aop, ↓reduceIte, LV.cells, AOp.dst, LV.I, LV.B, LV.U, LV.S, LV.nil, Nat.reduceEqDiff, Nat.reduceAdd, Nat.reduceMul, Nat.reduceSub, Nat.reduceLeDiff, Nat.reduceBEq, Nat.reduceDiv, Nat.reduceMod, Int.reduceToNat, Int.reduceLT, Int.reduceLE, Int.reduceAdd, Int.reduceSub, Int.reduceMul, Int.reduceEq, Int.reduceNeg, reduceCtorEq, resV, resAll, ARes.ev, LV.flat, ite_true, ite_false, exists_eq_left', exists_eq_left, keyOf, implies_true, fillC, capOf]
    rw [bs_diff hF.1.1]
    refine callN_of (g_list hF.1.1) ?_
    intro u N2 hu hp2 hl
    simp (disch := omega) only [↓SXd, SXu, slBounds, ↓sop, ↓aop, ↓reduceIte, LV.cells, AOp.dst, LV.I, LV.B, LV.U, LV.S, LV.nil, Nat.reduceEqDiff, Nat.reduceAdd, Nat.reduceMul, Nat.reduceSub, Nat.reduceLeDiff, Nat.reduceBEq, Nat.reduceDiv, Nat.reduceMod, Int.reduceToNat, Int.reduceLT, Int.reduceLE, Int.reduceAdd, Int.reduceSub, Int.reduceMul, Int.reduceEq, Int.reduceNeg, reduceCtorEq, resV, resAll, ARes.ev, LV.flat, ite_true, ite_false, exists_eq_left', exists_eq_left, keyOf, implies_true, fillC, capOf]
    unfold partOf
    rw [if_pos hF, shdPart_spare hF.1]
    exact ⟨_, rfl, SlC.of hl, Newer.of (by have := hM.1; omega), hM.trans hp2⟩
  · rw [show decide (ShdOK x y z tp fr sd ∧ HasShd x y z tp fr sd (pick x y z (allowedB y z tp fr sd))) = false from decide_eq_false hF]
    simp (disch := omega) only [↓SXd, SXu, slBounds, ↓sop, ↓aop, ↓reduceIte, LV.cells, AOp.dst, LV.I, LV.B, LV.U, LV.S, LV.nil, Nat.reduceEqDiff, Nat.reduceAdd, Nat.reduceMul, Nat.reduceSub, Nat.reduceLeDiff, Nat.reduceBEq, Nat.reduceDiv, Nat.reduceMod, Int.reduceToNat, Int.reduceLT, Int.reduceLE, Int.reduceAdd, Int.reduceSub, Int.reduceMul, Int.reduceEq, Int.reduceNeg, reduceCtorEq, resV, resAll, ARes.ev, LV.flat, ite_true, ite_false, exists_eq_left', exists_eq_left, keyOf, implies_true, fillC, capOf]
    unfold partOf
    rw [if_neg hF]
    exact ⟨_, rfl, SlC.nil, Newer.nil, hM⟩
end
end Go.Ab

/- Plain: what the law of shadows says. -/
namespace Go.Ab
open Go
set_option linter.unusedSimpArgs false
set_option linter.unusedVariables false
set_option maxRecDepth 20000

theorem shd_get {x y z : Int} {d i : Nat} {cs : List Cell} (h : i < (linesOf x y z d).toNat) : (shdOf x y z d cs).getD i 0 = min ((cs.countP (onLine y z d i) : Nat) : Int) 1 := by
  have hl : i < (viewL x y z d cs).length := by rw [viewL_len]; exact h
  have hv := viewL_get (cs := cs) h
  unfold shdOf onesL
  rw [← hv]
  simp [hl]
theorem shd_ones {x y z : Int} {d : Nat} {cs : List Cell} : Ones (shdOf x y z d cs) := ones_of fun j hj => by
  rw [shdOf_len] at hj
  rw [shd_get hj]
  omega
theorem int_ext {l l' : List Int} (hl : l.length = l'.length) (h : ∀ j, j < l.length → l.getD j 0 = l'.getD j 0) : l = l' := by
  apply List.ext_getElem hl
  intro i h2 h3
  have := h i h2
  simpa [h2, h3] using this
theorem on_own {y z : Int} {c : Cell} {d : Nat} : onLine y z d (lineOf y z c d).toNat c = true := by
  exact decide_eq_true rfl
theorem count_pos {y z : Int} {c : Cell} {d : Nat} {cs : List Cell} (hc : c ∈ cs) : 0 < cs.countP (onLine y z d (lineOf y z c d).toNat) := by
  rw [List.countP_pos_iff]
  exact ⟨c, hc, decide_eq_true rfl⟩
/-- The cells of a heap that has the shadow are allowed. -/
theorem count_one {p : Cell → Bool} {l : List Cell} {c e : Cell} (h : l.countP p = 1) (hc : c ∈ l) (he : e ∈ l) (pc : p c = true) (pe : p e = true) : c = e := by
  rw [List.countP_eq_length_filter] at h
  have h1 : c ∈ l.filter p := List.mem_filter.2 ⟨hc, pc⟩
  have h2 : e ∈ l.filter p := List.mem_filter.2 ⟨he, pe⟩
  match hf : l.filter p, h with
  | [a], _ =>
    rw [hf] at h1 h2
    rw [List.mem_singleton] at h1 h2
    rw [h1, h2]
theorem count_less {p : Cell → Bool} {c : Cell} : ∀ {l : List Cell}, l.Nodup → c ∈ l → (l.filter fun e => !decide (e = c)).countP p + (if p c then 1 else 0) = l.countP p
  | a :: l, hn, hc => by
    rw [List.nodup_cons] at hn
    by_cases e : a = c
    · subst e
      have : (l.filter fun e => !decide (e = a)) = l := by
        rw [List.filter_eq_self]
        intro b hb
        simp only [Bool.not_eq_true', decide_eq_false_iff_not]
        rintro rfl
        exact hn.1 hb
      rw [List.filter_cons_of_neg (by simp), this, List.countP_cons]
    · have hc' : c ∈ l := by
        rcases List.mem_cons.1 hc with rfl | h
        · exact (e rfl).elim
        · exact h
      have ih := count_less (p := p) hn.2 hc'
      rw [List.filter_cons_of_pos (by simpa using e), List.countP_cons, List.countP_cons]
      omega
theorem less_pick {x y z : Int} {cs : List Cell} {c : Cell} (hH : HeapOK x y z cs) : (pick x y z fun e => decide (e ∈ cs) && !decide (e = c)) = cs.filter fun e => !decide (e = c) := by
  rw [← filter_pick (fun e => decide (e ∈ cs)) (fun e => !decide (e = c)), ← hH.pick]
section
variable {x y z : Int} {tp fr sd : List Int} (hok : ShdOK x y z tp fr sd)
include hok
theorem has_list {cs : List Cell} : HasShd x y z tp fr sd cs ↔ ∀ d, d < 3 → shdOf x y z d cs = shdList d tp fr sd := by
  unfold HasShd
  constructor
  · rintro ⟨h2, h1, h0⟩ d hd
    rcases (show d = 0 ∨ d = 1 ∨ d = 2 by omega) with rfl | rfl | rfl
    · exact h0
    · exact h1
    · exact h2
  · intro h
    exact ⟨h 2 (by omega), h 1 (by omega), h 0 (by omega)⟩
theorem has_lines {cs : List Cell} : HasShd x y z tp fr sd cs ↔ ∀ d, d < 3 → ∀ i, i < (linesOf x y z d).toNat → ((shdList d tp fr sd).getD i 0 = 1 ↔ 0 < cs.countP (onLine y z d i)) := by
  rw [has_list hok]
  have key : ∀ {d i : Nat}, d < 3 → i < (linesOf x y z d).toNat → (shdList d tp fr sd).getD i 0 = 0 ∨ (shdList d tp fr sd).getD i 0 = 1 := fun {d i} hd hi => by
    obtain ⟨ho, hl⟩ := hok.list hd
    have := ho _ (getD_mem' (d := 0) (show i < (shdList d tp fr sd).length by omega))
    omega
  constructor
  · intro h d hd i hi
    rw [← h d hd, shd_get hi]
    omega
  · intro h d hd
    obtain ⟨ho, hl⟩ := hok.list hd
    refine int_ext (by rw [shdOf_len]; omega) fun i hi => ?_
    rw [shdOf_len] at hi
    have h1 := h d hd i hi
    rw [shd_get hi]
    rcases key hd hi with e | e
    · rw [e] at h1 ⊢
      have : ¬ 0 < cs.countP (onLine y z d i) := fun q => by have := h1.2 q; omega
      omega
    · rw [e] at h1 ⊢
      have := h1.1 rfl
      omega
theorem line_lt {c : Cell} {d : Nat} (hc : c.inBox x y z) (hd : d < 3) : (lineOf y z c d).toNat < (linesOf x y z d).toNat := by
  have := lineOf_in hok.1 hc hd
  omega
theorem has_allowed {cs : List Cell} (h : HasShd x y z tp fr sd cs) (hin : ∀ c ∈ cs, c.inBox x y z) {c : Cell} (hc : c ∈ cs) : allowedB y z tp fr sd c = true := by
  refine decide_eq_true fun d hd => ?_
  have := ((has_lines hok).1 h d hd _ (line_lt hok (hin c hc) hd)).2 (count_pos hc)
  omega
theorem allowed_lit {c : Cell} {d : Nat} (hc : c.inBox x y z) (hd : d < 3) (h : allowedB y z tp fr sd c = true) : (shdList d tp fr sd).getD (lineOf y z c d).toNat 0 = 1 := by
  have h1 := of_decide_eq_true h d hd
  obtain ⟨ho, hl⟩ := hok.list hd
  have h2 := line_lt hok hc hd
  have := ho _ (getD_mem' (d := 0) (show (lineOf y z c d).toNat < (shdList d tp fr sd).length by omega))
  omega
theorem mem_allowed {c : Cell} : c ∈ pick x y z (allowedB y z tp fr sd) ↔ c.inBox x y z ∧ allowedB y z tp fr sd c = true := mem_pick hok.1
/-- If there is a heap, all allowed cells are one. -/
theorem has_fits {cs : List Cell} (h : HasShd x y z tp fr sd cs) (hin : ∀ c ∈ cs, c.inBox x y z) : Fits x y z tp fr sd := by
  refine ⟨hok, (has_lines hok).2 fun d hd i hi => ?_⟩
  constructor
  · intro e
    have := ((has_lines hok).1 h d hd i hi).1 e
    rw [List.countP_pos_iff] at this ⊢
    obtain ⟨c, hc, hl⟩ := this
    exact ⟨c, (mem_allowed hok).2 ⟨hin c hc, has_allowed hok h hin hc⟩, hl⟩
  · intro e
    rw [List.countP_pos_iff] at e
    obtain ⟨c, hc, hl⟩ := e
    obtain ⟨h1, h2⟩ := (mem_allowed hok).1 hc
    have := allowed_lit hok h1 hd h2
    rw [of_decide_eq_true hl] at this
    exact this
theorem must_in {cs : List Cell} (h : HasShd x y z tp fr sd cs) (hin : ∀ c ∈ cs, c.inBox x y z) {c : Cell} (hc : c ∈ shdPart x y z tp fr sd false) : c ∈ cs := by
  unfold shdPart at hc
  rw [List.mem_filter] at hc
  obtain ⟨h1, h2⟩ := hc
  have h3 : aloneK y z (pick x y z (allowedB y z tp fr sd)) 3 c = true := by simpa using h2
  obtain ⟨d, hd, h4⟩ := aloneK_iff.1 h3
  obtain ⟨k1, k2⟩ := (mem_allowed hok).1 h1
  have h5 := ((has_lines hok).1 h d hd _ (line_lt hok k1 hd)).1 (allowed_lit hok k1 hd k2)
  rw [List.countP_pos_iff] at h5
  obtain ⟨e, he, hl⟩ := h5
  have h6 : e ∈ pick x y z (allowedB y z tp fr sd) := (mem_allowed hok).2 ⟨hin e he, has_allowed hok h hin he⟩
  rw [count_one h4 h1 h6 (on_own) hl]
  exact he
/-- The shadow of all allowed cells. -/
theorem clean_ok : ShdOK x y z (shdOf x y z 2 (pick x y z (allowedB y z tp fr sd))) (shdOf x y z 1 (pick x y z (allowedB y z tp fr sd))) (shdOf x y z 0 (pick x y z (allowedB y z tp fr sd))) := by
  obtain ⟨p1, p2, p3⟩ := prod_le hok.1
  refine ⟨hok.1, ⟨shd_ones, ?_⟩, ⟨shd_ones, ?_⟩, ⟨shd_ones, ?_⟩⟩ <;> rw [shdOf_len] <;> simp only [linesOf] <;> first | (show ((x * y).toNat : Int) = _; omega) | (show ((x * z).toNat : Int) = _; omega) | (show ((y * z).toNat : Int) = _; omega)
theorem clean_list {d : Nat} (hd : d < 3) : shdList d (shdOf x y z 2 (pick x y z (allowedB y z tp fr sd))) (shdOf x y z 1 (pick x y z (allowedB y z tp fr sd))) (shdOf x y z 0 (pick x y z (allowedB y z tp fr sd))) = shdOf x y z d (pick x y z (allowedB y z tp fr sd)) := by
  rcases (show d = 0 ∨ d = 1 ∨ d = 2 by omega) with rfl | rfl | rfl <;> rfl
theorem clean_same : pick x y z (allowedB y z (shdOf x y z 2 (pick x y z (allowedB y z tp fr sd))) (shdOf x y z 1 (pick x y z (allowedB y z tp fr sd))) (shdOf x y z 0 (pick x y z (allowedB y z tp fr sd)))) = pick x y z (allowedB y z tp fr sd) := by
  refine pick_congr hok.1 fun c hc => ?_
  rw [Bool.eq_iff_iff]
  constructor
  · intro h
    refine decide_eq_true fun d hd => ?_
    have h1 := of_decide_eq_true h d hd
    rw [clean_list hok hd, shd_get (line_lt hok hc hd)] at h1
    have : 0 < (pick x y z (allowedB y z tp fr sd)).countP (onLine y z d (lineOf y z c d).toNat) := by omega
    rw [List.countP_pos_iff] at this
    obtain ⟨e, he, hl⟩ := this
    obtain ⟨k1, k2⟩ := (mem_allowed hok).1 he
    have := allowed_lit hok k1 hd k2
    rw [of_decide_eq_true hl] at this
    omega
  · intro h
    refine decide_eq_true fun d hd => ?_
    rw [clean_list hok hd, shd_get (line_lt hok hc hd)]
    have := count_pos (y := y) (z := z) (d := d) ((mem_allowed hok).2 ⟨hc, h⟩)
    omega
theorem clean_fits : Fits x y z (shdOf x y z 2 (pick x y z (allowedB y z tp fr sd))) (shdOf x y z 1 (pick x y z (allowedB y z tp fr sd))) (shdOf x y z 0 (pick x y z (allowedB y z tp fr sd))) := by
  refine ⟨clean_ok hok, ?_⟩
  rw [clean_same hok]
  exact ⟨rfl, rfl, rfl⟩
theorem clean_below {d : Nat} (hd : d < 3) : (shdOf x y z d (pick x y z (allowedB y z tp fr sd))).length = (shdList d tp fr sd).length ∧ ∀ i, i < (shdOf x y z d (pick x y z (allowedB y z tp fr sd))).length → (shdOf x y z d (pick x y z (allowedB y z tp fr sd))).getD i 0 ≤ (shdList d tp fr sd).getD i 0 := by
  obtain ⟨ho, hl⟩ := hok.list hd
  refine ⟨by rw [shdOf_len]; omega, fun i hi => ?_⟩
  rw [shdOf_len] at hi
  have h0 := ho _ (getD_mem' (d := 0) (show i < (shdList d tp fr sd).length by omega))
  rw [shd_get hi]
  by_cases e : 0 < (pick x y z (allowedB y z tp fr sd)).countP (onLine y z d i)
  · have e' := e
    rw [List.countP_pos_iff] at e'
    obtain ⟨c, hc, hl⟩ := e'
    obtain ⟨k1, k2⟩ := (mem_allowed hok).1 hc
    have := allowed_lit hok k1 hd k2
    rw [of_decide_eq_true hl] at this
    omega
  · omega
theorem shdPart_len : (shdPart x y z tp fr sd false).length + (shdPart x y z tp fr sd true).length = (pick x y z (allowedB y z tp fr sd)).length := by
  clear hok
  unfold shdPart
  generalize pick x y z (allowedB y z tp fr sd) = A
  have : ∀ (p : Cell → Bool) (l : List Cell), (l.filter fun c => p c != false).length + (l.filter fun c => p c != true).length = l.length := by
    intro p l
    induction l with
    | nil => rfl
    | cons a l ih =>
      cases h : p a
      · rw [List.filter_cons_of_neg (by simp [h]), List.filter_cons_of_pos (by simp [h])]
        simp only [List.length_cons]; omega
      · rw [List.filter_cons_of_pos (by simp [h]), List.filter_cons_of_neg (by simp [h])]
        simp only [List.length_cons]; omega
  exact this (aloneK y z A 3) A
theorem shdPart_sub {sp : Bool} {c : Cell} (h : c ∈ shdPart x y z tp fr sd sp) : c ∈ pick x y z (allowedB y z tp fr sd) := by
  clear hok
  exact (List.mem_filter.1 h).1
/-- Without a spare cell the shadow stays; without one that must be it does not. -/
theorem less_law (hF : HasShd x y z tp fr sd (pick x y z (allowedB y z tp fr sd))) {c : Cell} {sp : Bool} (hc : c ∈ shdPart x y z tp fr sd sp) : HasShd x y z tp fr sd ((pick x y z (allowedB y z tp fr sd)).filter fun e => !decide (e = c)) ↔ sp = true := by
  have hA := shdPart_sub hok hc
  have hal : aloneK y z (pick x y z (allowedB y z tp fr sd)) 3 c = !sp := by
    have := (List.mem_filter.1 hc).2
    cases h1 : aloneK y z (pick x y z (allowedB y z tp fr sd)) 3 c <;> cases sp <;> simp [h1] at this ⊢
  have hnd := (pick_ok hok.1 (allowedB y z tp fr sd)).nodup
  have hin := ((mem_allowed hok).1 hA).1
  generalize pick x y z (allowedB y z tp fr sd) = A at hA hal hnd hF ⊢
  have hcl := fun d i => count_less (p := onLine y z d i) hnd hA
  rw [has_lines hok]
  rw [has_lines hok] at hF
  cases sp with
  | true =>
    refine ⟨fun _ => rfl, fun _ d hd i hi => ?_⟩
    rw [hF d hd i hi]
    have h1 := hcl d i
    by_cases e : onLine y z d i c = true
    · rw [if_pos e] at h1
      have hne : A.countP (onLine y z d i) ≠ 1 := fun h2 => by
        have : aloneK y z A 3 c = true := aloneK_iff.2 ⟨d, hd, by rw [of_decide_eq_true e]; exact h2⟩
        rw [hal] at this
        exact Bool.noConfusion this
      omega
    · rw [if_neg e] at h1
      omega
  | false =>
    refine ⟨fun h => ?_, fun e => Bool.noConfusion e⟩
    obtain ⟨d, hd, h4⟩ := aloneK_iff.1 (show aloneK y z A 3 c = true by rw [hal]; rfl)
    have h5 := h d hd _ (line_lt hok hin hd)
    rw [hF d hd _ (line_lt hok hin hd)] at h5
    have h6 := hcl d (lineOf y z c d).toNat
    rw [if_pos (on_own)] at h6
    have := h5.1 (by omega)
    omega
end
/-- The number of lit lines. -/
def litSum : List Int → Int
  | [] => 0
  | a :: l => a + litSum l
theorem litSum_snoc {l : List Int} {a : Int} : litSum (l ++ [a]) = litSum l + a := by
  induction l with
  | nil => simp [litSum]
  | cons b l ih => simp only [List.cons_append, litSum, ih]; omega
theorem litSum_take {l : List Int} {k : Nat} (hk : k < l.length) : litSum (l.take (k + 1)) = litSum (l.take k) + l.getD k 0 := by
  rw [List.take_succ, List.getElem?_eq_getElem hk, Option.toList_some, litSum_snoc]
  simp [hk]
theorem litSum_bound : ∀ {l : List Int}, Ones l → 0 ≤ litSum l ∧ litSum l ≤ l.length
  | [], _ => by simp [litSum]
  | a :: l, h => by
    have := litSum_bound (l := l) fun v hv => h v (by simp [hv])
    have := h a (by simp)
    simp only [litSum, List.length_cons]; omega
theorem litSum_set : ∀ {l : List Int} {i : Nat} {v : Int}, i < l.length → litSum (l.set i v) = litSum l - l.getD i 0 + v
  | a :: l, 0, v, _ => by simp only [List.set, litSum]; simp; omega
  | a :: l, i + 1, v, h => by
    have := litSum_set (l := l) (i := i) (v := v) (by simpa using h)
    simp only [List.set, litSum, this]
    simp; omega
theorem litSum_ones : ∀ {l : List Int}, (∀ v ∈ l, 0 ≤ v) → litSum (onesL l) ≤ litSum l
  | [], _ => Int.le_refl _
  | a :: l, h => by
    have := litSum_ones (l := l) fun v hv => h v (by simp [hv])
    have := h a (by simp)
    unfold onesL at *
    simp only [List.map, litSum]; omega
theorem litSum_zero : ∀ n : Nat, litSum (List.replicate n 0) = 0
  | 0 => rfl
  | n + 1 => by simp only [List.replicate_succ, litSum, litSum_zero n]; rfl
theorem view_sum {x y z : Int} (hS : Sides x y z) {d : Nat} (hd : d < 3) : ∀ {cs : List Cell} {v : List Int}, (∀ c ∈ cs, c.inBox x y z) → v.length = (linesOf x y z d).toNat → litSum (cs.foldl (viewStep y z d) v) = litSum v + cs.length
  | [], v, _, _ => by simp
  | c :: cs, v, hin, hl => by
    have h1 := lineOf_in hS (hin c (by simp)) hd
    rw [List.foldl_cons, view_sum hS hd (fun e he => hin e (by simp [he])) (by unfold viewStep; simpa using hl)]
    unfold viewStep
    rw [litSum_set (by omega)]
    simp only [List.length_cons]; omega
theorem lit_le {x y z : Int} {cs : List Cell} (hH : HeapOK x y z cs) {d : Nat} (hd : d < 3) : litSum (shdOf x y z d cs) ≤ cs.length := by
  have h1 := view_sum hH.1 hd (cs := cs) (v := List.replicate (linesOf x y z d).toNat 0) (fun c hc => hH.mem hc) (by simp)
  rw [litSum_zero] at h1
  have h2 := litSum_ones (l := viewL x y z d cs) fun v hv => by
    obtain ⟨i, hi, rfl⟩ := List.getElem_of_mem hv
    have hi' := hi
    rw [viewL_len] at hi'
    have := viewL_get (cs := cs) hi'
    rw [List.getD_eq_getElem?_getD, List.getElem?_eq_getElem hi, Option.getD_some] at this
    rw [this]; omega
  have h3 : litSum (viewL x y z d cs) = cs.length := by unfold viewL; rw [h1]; omega
  unfold shdOf
  omega
/-- A heap has at least as many cubes as lit lines of a direction. -/
theorem bound_le {x y z : Int} {tp fr sd : List Int} {cs : List Cell} (hok : ShdOK x y z tp fr sd) (hH : HeapOK x y z cs) (h : HasShd x y z tp fr sd cs) : max (litSum tp) (max (litSum fr) (litSum sd)) ≤ cs.length := by
  obtain ⟨h2, h1, h0⟩ := h
  have e2 := lit_le hH (d := 2) (by omega)
  have e1 := lit_le hH (d := 1) (by omega)
  have e0 := lit_le hH (d := 0) (by omega)
  rw [h2] at e2
  rw [h1] at e1
  rw [h0] at e0
  omega
end Go.Ab

/- The abstract code of some functions (written by a program of mine from the translation, by way of prepF). -/
namespace Go.Ab.C
open Go.Ab
end Go.Ab.C

/- That the program has this code. -/
namespace Go.Ab.K
open Go Go.Ab
end Go.Ab.K

/- The abstract code of some functions (written by a program of mine from the translation, by way of prepF). -/
namespace Go.Ab.C
open Go.Ab
end Go.Ab.C

/- That the program has this code. -/
namespace Go.Ab.K
open Go Go.Ab
end Go.Ab.K

/- The abstract code of some functions (written by a program of mine from the translation, by way of prepF). -/
namespace Go.Ab.C
open Go.Ab
end Go.Ab.C

/- That the program has this code. -/
namespace Go.Ab.K
open Go Go.Ab
end Go.Ab.K

/- The abstract code of some functions (written by a program of mine from the translation, by way of prepF). -/
namespace Go.Ab.C
open Go.Ab
end Go.Ab.C

/- That the program has this code. -/
namespace Go.Ab.K
open Go Go.Ab
end Go.Ab.K

/- Contracts: the reference's statements on forms. -/
namespace Go.Ab
open Go
set_option linter.unusedSimpArgs false
set_option linter.unusedVariables false

/-- A valid heap with cubes. -/
def Filled (x y z : Int) (cs : List Cell) : Prop := HeapOK x y z cs ∧ 0 < cs.length
noncomputable instance (x y z : Int) (cs : List Cell) : Decidable (Filled x y z cs) := Classical.propDecidable _
noncomputable def formOf (x y z : Int) (cs : List Cell) : Option Hp := if Filled x y z cs then some (formHp x y z cs) else none
def symB (x y z : Int) (cs : List Cell) (T : Turn) : Bool := !lessHp (posHp x y z cs T) (cropHp cs) && !lessHp (cropHp cs) (posHp x y z cs T)
def symAt (x y z : Int) (cs : List Cell) (j : Nat) : Bool := match turns[j]? with
  | some T => symB x y z cs T
  | none => false
def symsK (x y z : Int) (cs : List Cell) (k : Nat) : List Int := ((List.range k).filter (symAt x y z cs)).map fun (j : Nat) => (j : Int)
noncomputable def symsOf (x y z : Int) (cs : List Cell) : Option (List Int) := if Filled x y z cs then some (symsK x y z cs 24) else none
noncomputable def posOf (x y z : Int) (cs : List Cell) : Int := if Filled x y z cs then ((24 : Int).tdiv ((symsK x y z cs 24).length : Nat)) else 0
end Go.Ab

/- Contracts: the reference's mirrored heaps; IsHanded, AreSameForm. -/
namespace Go.Ab
open Go
set_option linter.unusedSimpArgs false
set_option linter.unusedVariables false

def mirC (x : Int) (c : Cell) : Cell := ⟨x - 1 - c.a, c.b, c.c⟩
def mirHp (x y z : Int) (cs : List Cell) : List Cell := pick x y z fun d => decide (d ∈ cs.map (mirC x))
def handB (x y z : Int) (cs : List Cell) : Bool := !(!lessHp (formHp x y z (mirHp x y z cs)) (formHp x y z cs) && !lessHp (formHp x y z cs) (formHp x y z (mirHp x y z cs)))
noncomputable def sameForm (x y z : Int) (cs : List Cell) (x' y' z' : Int) (ds : List Cell) : Bool := !lessHp (formHp x y z cs) (formHp x' y' z' ds) && !lessHp (formHp x' y' z' ds) (formHp x y z cs)
end Go.Ab

/- The abstract code of some functions (written by a program of mine from the translation, by way of prepF). -/
namespace Go.Ab.C
open Go.Ab
end Go.Ab.C

/- That the program has this code. -/
namespace Go.Ab.K
open Go Go.Ab
end Go.Ab.K

/- The abstract code of some functions (written by a program of mine from the translation, by way of prepF). -/
namespace Go.Ab.C
open Go.Ab
end Go.Ab.C

/- That the program has this code. -/
namespace Go.Ab.K
open Go Go.Ab
end Go.Ab.K

/- Plain words: what stands and what hangs, by parts and by growing. -/
namespace Go.Ab

theorem Reach.symm {x y z : Int} {q : Cell → Bool} {c d : Cell} (hc : c.inBox x y z) (hqc : q c = true) (h : Reach x y z (fun e => decide (e = c)) q d) : Reach x y z (fun e => decide (e = d)) q c ∧ q d = true := by
  induction h with
  | base h1 h2 => rw [of_decide_eq_true h2]; exact ⟨.base hc (by simp), hqc⟩
  | @step a b h1 h2 h3 h4 ih =>
    refine ⟨?_, h4⟩
    have hb : Reach x y z (fun e => decide (e = b)) q b := .base h3 (by simp)
    have hba : Reach x y z (fun e => decide (e = b)) q a := .step hb (by rw [apart_comm]; exact h2) h1.inBox ih.2
    have htr : ∀ {u}, Reach x y z (fun e => decide (e = a)) q u → Reach x y z (fun e => decide (e = b)) q u := fun hu =>
      hu.mono (fun e _ he => by rw [of_decide_eq_true he]; exact hba) fun _ _ h => h
    exact htr ih.1
theorem Reach.trans {x y z : Int} {q p : Cell → Bool} {c d : Cell} (h : Reach x y z p q c) (k : Reach x y z (fun e => decide (e = c)) q d) : Reach x y z p q d :=
  k.mono (fun e _ he => by rw [of_decide_eq_true he]; exact h) fun _ _ h => h

section
variable {x y z : Int} (hS : Sides x y z)
include hS
/-- What stands of a set. -/
noncomputable def stand (x y z : Int) (q : Cell → Bool) : Cell → Bool := reach x y z (fun e => q e && decide (e.c = 0)) q
/-- The cells that stand, or those that hang. -/
noncomputable def parted (x y z : Int) (q : Cell → Bool) (hang : Bool) : Cell → Bool := fun d => q d && (stand x y z q d != hang)
end

def floorOf (l : List Cell) : Bool := l.any fun e => decide (e.c = 0)
/-- The cells of the first k lists, of those on the floor, or of the others. -/
def selK (L : List (List Cell)) (hang : Bool) (k : Nat) : Cell → Bool := fun d => (L.take k).any fun l => (floorOf l != hang) && decide (d ∈ l)
end Go.Ab

/- Contracts: what is enclosed; the program's FillCavities. -/
namespace Go.Ab
open Go
set_option linter.unusedSimpArgs false
set_option linter.unusedVariables false

/-- What is outside: reached from the rim, by way of cells without cubes. -/
noncomputable def outer (x y z : Int) (p : Cell → Bool) : Cell → Bool := reach x y z (fun c => !p c && onRim x y z c) fun c => !p c
noncomputable def closed (x y z : Int) (p : Cell → Bool) (c : Cell) : Bool := !p c && !outer x y z p c
noncomputable def fillOf (x y z : Int) (cs : List Cell) : Option Hp := by
  classical
  exact if HeapOK x y z cs then some ⟨x, y, z, pick x y z fun c => decide (c ∈ cs) || closed x y z (fun c => decide (c ∈ cs)) c⟩ else none
end Go.Ab

/- Plain words: a search from beyond the box. -/
namespace Go.Ab

def ExtC (x y z : Int) (c : Cell) : Prop := (-1 ≤ c.a ∧ c.a ≤ x) ∧ (-1 ≤ c.b ∧ c.b ≤ y) ∧ (-1 ≤ c.c ∧ c.c ≤ z)
theorem Cell.inBox.ext {x y z : Int} {c : Cell} (h : c.inBox x y z) : ExtC x y z c := by
  obtain ⟨⟨_, _⟩, ⟨_, _⟩, ⟨_, _⟩⟩ := h
  exact ⟨⟨by omega, by omega⟩, ⟨by omega, by omega⟩, ⟨by omega, by omega⟩⟩
/-- What comes before a place. -/
def Bef (c : Cell) (i j k : Int) : Prop := c.a < i ∨ (c.a = i ∧ (c.b < j ∨ (c.b = j ∧ c.c < k)))
structure Mgn (x y z i j k : Int) (l : List Cell) : Prop where
  mem : ∀ c ∈ l, ExtC x y z c ∧ ¬ c.inBox x y z
  all : ∀ c, ExtC x y z c → ¬ c.inBox x y z → Bef c i j k → c ∈ l
  len : (l.length : Int) ≤ (i + 1) * 36 + (j + 1) * 6 + (k + 1)
theorem Mgn.nil {x y z : Int} : Mgn x y z (-1) (-1) (-1) [] := by
  refine ⟨by simp, fun c ⟨⟨_, _⟩, ⟨_, _⟩, ⟨_, _⟩⟩ _ hb => ?_, by simp⟩
  unfold Bef at hb
  omega
theorem Mgn.out {x y z i j k : Int} {l : List Cell} (h : Mgn x y z i j k l) (hk : k < 6) (hc : ExtC x y z ⟨i, j, k⟩) (ho : ¬ Cell.inBox x y z ⟨i, j, k⟩) : Mgn x y z i j (k + 1) (l ++ [⟨i, j, k⟩]) := by
  refine ⟨fun c hm => ?_, fun c h1 h2 h3 => ?_, ?_⟩
  · rcases List.mem_append.1 hm with hm | hm
    · exact h.mem c hm
    · rw [List.mem_singleton.1 hm]; exact ⟨hc, ho⟩
  · rw [List.mem_append, List.mem_singleton, cell_eq]
    unfold Bef at h3
    by_cases hb : Bef c i j k
    · exact .inl (h.all c h1 h2 hb)
    · right; unfold Bef at hb; simp only; omega
  · have := h.len; rw [List.length_append, List.length_singleton]; omega
theorem Mgn.in {x y z i j k : Int} {l : List Cell} (h : Mgn x y z i j k l) (ho : Cell.inBox x y z ⟨i, j, k⟩) : Mgn x y z i j (k + 1) l := by
  refine ⟨h.mem, fun c h1 h2 h3 => ?_, by have := h.len; omega⟩
  unfold Bef at h3
  by_cases hb : Bef c i j k
  · exact h.all c h1 h2 hb
  · unfold Bef at hb
    exact absurd (by rw [show c = ⟨i, j, k⟩ from cell_eq.2 (by simp only; omega)]; exact ho) h2
theorem Mgn.row {x y z i j k : Int} {l : List Cell} (h : Mgn x y z i j k l) (hk : z < k) (hz : k ≤ 5) : Mgn x y z i (j + 1) (-1) l := by
  refine ⟨h.mem, fun c h1 h2 h3 => h.all c h1 h2 ?_, by have := h.len; omega⟩
  obtain ⟨_, _, _, _⟩ := h1
  unfold Bef at h3 ⊢
  omega
theorem Mgn.plane {x y z i j : Int} {l : List Cell} (h : Mgn x y z i j (-1) l) (hk : y < j) (hz : j ≤ 5) : Mgn x y z (i + 1) (-1) (-1) l := by
  refine ⟨h.mem, fun c h1 h2 h3 => h.all c h1 h2 ?_, by have := h.len; omega⟩
  obtain ⟨_, ⟨_, _⟩, _, _⟩ := h1
  unfold Bef at h3 ⊢
  omega

structure Out (x y z : Int) (p : Cell → Bool) (n k : Nat) (mg r : List Cell) : Prop where
  base : ∀ c, ExtC x y z c → ¬ c.inBox x y z → c ∈ mg
  mgm : ∀ c ∈ mg, ExtC x y z c ∧ ¬ c.inBox x y z
  nodup : r.Nodup
  mem : ∀ d ∈ r, d.inBox x y z ∧ p d = false ∧ outer x y z p d = true
  done : ∀ i, i < n → i < (mg ++ r).length → ∀ e, e.inBox x y z → p e = false → apart ((mg ++ r).getD i default) e = 1 → e ∈ r
  part : ∀ j, j < k → ((nbrs ((mg ++ r).getD n default)).getD j default).inBox x y z → p ((nbrs ((mg ++ r).getD n default)).getD j default) = false → (nbrs ((mg ++ r).getD n default)).getD j default ∈ r

section
variable {x y z : Int} {p : Cell → Bool} {n k : Nat} {mg r : List Cell}
theorem Out.skip (h : Out x y z p n k mg r) (hs : ¬ ((((nbrs ((mg ++ r).getD n default)).getD k default).inBox x y z ∧ p ((nbrs ((mg ++ r).getD n default)).getD k default) = false) ∧ (nbrs ((mg ++ r).getD n default)).getD k default ∉ r)) : Out x y z p n (k + 1) mg r :=
  ⟨h.base, h.mgm, h.nodup, h.mem, h.done, fun j hj h1 h2 => by
    rcases Nat.lt_or_ge j k with h3 | h3
    · exact h.part j h3 h1 h2
    · rw [show j = k by omega] at h1 h2 ⊢
      exact Classical.byContradiction fun h4 => hs ⟨⟨h1, h2⟩, h4⟩⟩
theorem Out.add (h : Out x y z p n k mg r) (hk : k < 6) (hn : n < (mg ++ r).length) {e : Cell} (he : (nbrs ((mg ++ r).getD n default)).getD k default = e) (h1 : e.inBox x y z) (h2 : p e = false) (h3 : e ∉ r) : Out x y z p n (k + 1) mg (r ++ [e]) := by
  have hg : ∀ {j}, j < (mg ++ r).length → (mg ++ (r ++ [e])).getD j default = (mg ++ r).getD j default := fun {j} hj => by
    rw [← List.append_assoc]
    simp only [List.getD_eq_getElem?_getD]; rw [List.getElem?_append_left hj]
  have hap : apart ((mg ++ r).getD n default) e = 1 := mem_nbrs.1 (by rw [← he]; exact getD_mem' (by simpa [nbrs] using hk))
  have hout : outer x y z p e = true := by
    unfold outer
    rw [reach_iff]
    rcases List.mem_append.1 (getD_mem' (d := default) hn) with hm | hm
    · refine .base h1 ?_
      have := h.mgm _ hm
      rw [h2, (onRim_iff h1).2 ⟨_, by rw [apart_comm]; exact hap, this.2⟩]; rfl
    · have := (h.mem _ hm).2.2
      unfold outer at this
      rw [reach_iff] at this
      exact .step this hap h1 (by rw [h2]; rfl)
  refine ⟨h.base, h.mgm, ?_, fun d hd => ?_, fun i hi hil d hd hpd ha => ?_, fun j hj hb hpb => ?_⟩
  · rw [List.nodup_append]
    exact ⟨h.nodup, by simp, fun a ha b hb e' => by rw [List.mem_singleton.1 hb] at e'; subst e'; exact h3 ha⟩
  · rcases List.mem_append.1 hd with hd | hd
    · exact h.mem d hd
    · rw [List.mem_singleton.1 hd]; exact ⟨h1, h2, hout⟩
  · rw [hg (by omega)] at ha
    exact List.mem_append.2 (.inl (h.done i hi (by omega) d hd hpd ha))
  · rw [hg hn] at hb hpb ⊢
    rcases Nat.lt_or_ge j k with h5 | h5
    · exact List.mem_append.2 (.inl (h.part j h5 hb hpb))
    · rw [show j = k by omega, he]; simp
end
end Go.Ab

/- Contracts: the reference's search from beyond the box. -/
namespace Go.Ab
open Go
set_option linter.unusedSimpArgs false
set_option linter.unusedVariables false

def steps : List Cell := [⟨-1, 0, 0⟩, ⟨1, 0, 0⟩, ⟨0, -1, 0⟩, ⟨0, 1, 0⟩, ⟨0, 0, -1⟩, ⟨0, 0, 1⟩]
theorem Live.step {N : Mem} {t k : Nat} (h : Live N t (.row (triL steps) true 0)) (hk : k < 6) : getCells N t (k * 3) 3 = some (steps.getD k default).row := by
  have := Tri.get (cs := steps) (o := 0) h.has (k := k) hk
  rwa [Nat.zero_add] at this

end Go.Ab

/- Contracts: the heaps of few cubes that a law draws; mirrored heaps of the reference, in any direction. -/
namespace Go.Ab
open Go
set_option linter.unusedSimpArgs false
set_option linter.unusedVariables false
set_option maxRecDepth 20000

def negD (c : Cell) : Cell := ⟨max 0 (0 - c.a), max 0 (0 - c.b), max 0 (0 - c.c)⟩
end Go.Ab

/- Plain words: the turns as a group; forms of turned heaps; symmetries and positions. -/
namespace Go.Ab
open Go
set_option linter.unusedSimpArgs false
set_option linter.unusedVariables false
set_option maxRecDepth 20000

def xorI (a b : Int) : Int := if a = b then 0 else 1
/-- First the one turn, then the other. -/
def behind (t u : Turn) : Turn := ⟨⟨t.fr.at u.fr.a, t.fr.at u.fr.b, t.fr.at u.fr.c⟩, ⟨xorI (t.fl.at u.fr.a) u.fl.a, xorI (t.fl.at u.fr.b) u.fl.b, xorI (t.fl.at u.fr.c) u.fl.c⟩⟩
def oneT : Turn := ⟨⟨0, 1, 2⟩, ⟨0, 0, 0⟩⟩
def invT (t : Turn) : Turn := (turns.find? fun u => decide (behind t u = oneT)).getD oneT
def Bit (n : Int) : Prop := n = 0 ∨ n = 1
def BitT (t : Turn) : Prop := Bit t.fl.a ∧ Bit t.fl.b ∧ Bit t.fl.c
instance (n : Int) : Decidable (Bit n) := by unfold Bit; exact inferInstance
instance (t : Turn) : Decidable (BitT t) := by unfold BitT; exact inferInstance
def turnS (x y z x' y' z' : Int) (T : Turn) (p : Cell) : Cell :=
  ⟨if T.fl.a = 1 then sideOf x' y' z' T.fr.a - sideOf x y z T.fr.a - p.at T.fr.a else p.at T.fr.a, if T.fl.b = 1 then sideOf x' y' z' T.fr.b - sideOf x y z T.fr.b - p.at T.fr.b else p.at T.fr.b, if T.fl.c = 1 then sideOf x' y' z' T.fr.c - sideOf x y z T.fr.c - p.at T.fr.c else p.at T.fr.c⟩
section
variable {x y z : Int} {cs : List Cell} (hH : HeapOK x y z cs) (h0 : 0 < cs.length)
include hH
include h0
end

section
variable {x y z : Int} {cs : List Cell} (hH : HeapOK x y z cs)
include hH
end

def mir2C (z : Int) (c : Cell) : Cell := ⟨c.a, c.b, z - 1 - c.c⟩
def mir2Hp (x y z : Int) (cs : List Cell) : List Cell := pick x y z fun d => decide (d ∈ cs.map (mir2C z))
end Go.Ab

/- Contracts: a form that a law draws; turned and mirrored heaps. -/
namespace Go.Ab
open Go
set_option linter.unusedSimpArgs false
set_option linter.unusedVariables false
set_option maxRecDepth 20000

/-- What TurnHeap answers. -/
noncomputable def turnOf (x y z : Int) (cs : List Cell) (k : Int) : Option Hp := by
  classical
  exact if HeapOK x y z cs ∧ (0 ≤ k ∧ k ≤ 23) then some (turnHp x y z (turns.getD k.toNat oneT) cs) else none
/-- A heap and true. -/
def HeapT (M : Mem) (r : Hp) (v : LV) (N : Mem) : Prop := ∃ u : Nat, v = .tup [.agg [.I r.x, .I r.y, .I r.z, .ref u 0 r.cs.length], .B true] ∧ Live N u (.row (triL r.cs) true 3) ∧ M.length ≤ u
/-- Mirrored in a direction. -/
def mirDC (x y z : Int) (d : Int) (c : Cell) : Cell := ⟨if d = 0 then x - 1 - c.a else c.a, if d = 1 then y - 1 - c.b else c.b, if d = 2 then z - 1 - c.c else c.c⟩
def mirD (x y z : Int) (d : Int) (cs : List Cell) : List Cell := pick x y z fun e => decide (e ∈ cs.map (mirDC x y z d))
theorem Live.setN {N : Mem} {q k : Nat} {b : Blk} {v : Option Blk} (h : Live N q b) (hne : q ≠ k) : Live (N.set k v) q b := by
  unfold Live at *
  rw [List.getElem?_set_ne (by omega)]; exact h
theorem Live.only {M N : Mem} {q : Nat} {b0 : Blk} (h : Live M q b0) (k : Live N q b0) : ∀ b, M[q]? = some (some b) → N[q]? = some (some b) := fun b hb => by
  have e : some (some b0) = some (some b) := Eq.trans (Eq.symm h) hb
  cases e
  exact k
theorem Live.set_at {N : Mem} {k : Nat} {b : Blk} (h : k < N.length) : Live (N.set k (some b)) k b := by
  unfold Live
  rw [List.getElem?_set_self h]
theorem DrawN.setN {M N : Mem} {p t o a k : Nat} {bs : List Nat} {v : Option Blk} (h : DrawN M p t o bs a N) (hp : p < M.length) (ht : t < M.length) (hk : M.length ≤ k) : DrawN M p t o bs a (N.set k v) :=
  h.keep hp ht (Nat.le_refl _) (by simp) fun q q1 => List.getElem?_set_ne (by omega)
end Go.Ab

/- The abstract code of some functions (written by a program of mine from the translation, by way of prepF). -/
namespace Go.Ab.C
open Go.Ab
def impl_isCell : AFn :=
 ⟨2, 13, [.tmp 4],
 .seq (.ops [(none, .box 2 (.t 0)),
 (none, .box 3 (.t 1)),
 (none, .mv 4 (.c (.B false)))])
 (.seq (.draw [⟨(none, .loadN 5 4 (.t 2)), [], []⟩,
 ⟨(none, .call (some 6) F.impl_IsHeap [(.t 5)]), [], []⟩,
 ⟨(none, .mv 7 (.t 6)), [], []⟩,
 ⟨(some (7, true), .loadN 8 4 (.t 2)), [], []⟩,
 ⟨(some (7, true), .loadN 10 3 (.t 3)), [], []⟩,
 ⟨(some (7, true), .call (some 9) F.impl_Heap_box [(.t 8)]), [], [4]⟩,
 ⟨(some (7, true), .call (some 11) F.impl_box_has [(.t 9), (.t 10)]), [], []⟩,
 ⟨(none, .pick 12 (.t 7) (.t 11) (.c (.B false))), [], []⟩,
 ⟨(none, .mv 4 (.t 12)), [], []⟩])
 (.ret))⟩
end Go.Ab.C

/- That the program has this code. -/
namespace Go.Ab.K
open Go Go.Ab
theorem impl_isCell : prepF Go.Proofs.Tryz.prog F.impl_isCell = some C.impl_isCell := by kernel_rfl
end Go.Ab.K

/- Contracts: pieces that fit, places, boxes, parities, other cells: the program's side. -/
namespace Go.Ab
open Go
set_option linter.unusedSimpArgs false
set_option linter.unusedVariables false
set_option maxRecDepth 20000

noncomputable instance {x y z : Int} {cs l : List Cell} : Decidable (FitQ x y z cs l) := Classical.propDecidable _
section
variable {x y z : Int} {t o u q : Nat} {cs l : List Cell} {M : Mem} (h : Tri M t o cs) (hn : cs.length ≤ 1000000000) (hl : Tri M u q l) (hln : l.length ≤ 1000000000)
include hl hln
include h hn
end
end Go.Ab

/- Plain: boxes as pieces; parities of all cells; places. -/
namespace Go.Ab
open Go
set_option linter.unusedSimpArgs false
set_option linter.unusedVariables false
set_option maxRecDepth 20000

end Go.Ab

/- Heaps that a law keeps: mirrored, swapped, joined, common, shifted, cropped and widened ones, plainly. -/
namespace Go.Ab
open Go
set_option linter.unusedSimpArgs false
set_option linter.unusedVariables false
set_option maxRecDepth 20000

/-- A heap, or the empty one and false; its cells lie in a block of their own. -/
def HeapX (M : Mem) (r : Option Hp) (v : LV) (N : Mem) : Prop := ∃ u : Nat, v = .tup [.agg [.I (r.getD Hp.none).x, .I (r.getD Hp.none).y, .I (r.getD Hp.none).z, .ref u 0 (r.getD Hp.none).cs.length], .B r.isSome] ∧ Live N u (.row (triL (r.getD Hp.none).cs) true 3) ∧ Pre M N
theorem heapX_some {M N : Mem} {g : Hp} {v : LV} (h : HeapT M g v N) (hp : Pre M N) : HeapX M (some g) v N := by
  obtain ⟨u, rfl, hu, _⟩ := h
  exact ⟨u, rfl, hu, hp⟩
theorem heapX_of {f : FuncId} {args : List LV} {M : Mem} {r : Option Hp} (h : CallsR PG f args M fun v N => (∃ g, r = some g ∧ HeapT M g v N ∧ Pre M N) ∨ (r = none ∧ v = .tup [.agg [.I 0, .I 0, .I 0, .nil], .B false] ∧ Pre M N)) : CallsR PG f args M (HeapX M r) := by
  refine h.den (e := 3) ?_
  rintro v N (⟨g, rfl, hg, hp⟩ | ⟨rfl, rfl, hp⟩)
  · exact .inl (heapX_some hg hp)
  · exact .inr ⟨.tup [.agg [.I 0, .I 0, .I 0, .ref N.length 0 0], .B false], .inr ⟨_, _, rfl, rfl, .inr ⟨_, _, rfl, rfl, .rfl, .rfl, .rfl, .nil, trivial⟩, .rfl, trivial⟩, N.length, rfl, Live.new, hp.trans (Pre.app _ _)⟩
theorem heapX_no {M : Mem} {r : Option Hp} {v : LV} {N : Mem} (hr : r = none) (hv : v = .tup [.agg [.I 0, .I 0, .I 0, .nil], .B false]) (hp : Pre M N) : (∃ g, r = some g ∧ HeapT M g v N ∧ Pre M N) ∨ (r = none ∧ v = .tup [.agg [.I 0, .I 0, .I 0, .nil], .B false] ∧ Pre M N) := .inr ⟨hr, hv, hp⟩
section
variable (x y z : Int) (cs : List Cell)
noncomputable def mirOf (d : Int) : Option Hp := by
  classical
  exact if HeapOK x y z cs ∧ Dir d then some ⟨x, y, z, mirD x y z d cs⟩ else none
noncomputable def othOf : Option Hp := by
  classical
  exact if HeapOK x y z cs then some ⟨x, y, z, pick x y z (freeP cs)⟩ else none
end
/-- Two coordinates exchanged. -/
def swI (a b i : Int) : Int := if i = a then b else if i = b then a else i
def swC (a b : Int) (c : Cell) : Cell := ⟨c.at (swI a b 0), c.at (swI a b 1), c.at (swI a b 2)⟩
def swX (a b : Int) (x y z : Int) (cs : List Cell) : Hp := ⟨(swC a b ⟨x, y, z⟩).a, (swC a b ⟨x, y, z⟩).b, (swC a b ⟨x, y, z⟩).c, pick (swC a b ⟨x, y, z⟩).a (swC a b ⟨x, y, z⟩).b (swC a b ⟨x, y, z⟩).c fun d => decide (d ∈ cs.map (swC a b))⟩
section
variable {x y z : Int} {cs : List Cell}
end
section
variable (x y z : Int) (cs : List Cell)
noncomputable def swpOf (a b : Int) : Option Hp := by
  classical
  exact if HeapOK x y z cs ∧ Dir a ∧ Dir b then some (swX a b x y z cs) else none
/-- Both are heaps, in the same box. -/
def Alike (x' y' z' : Int) (ds : List Cell) : Prop := HeapOK x y z cs ∧ HeapOK x' y' z' ds ∧ x = x' ∧ y = y' ∧ z = z'
noncomputable instance {x y z : Int} {cs : List Cell} {x' y' z' : Int} {ds : List Cell} : Decidable (Alike x y z cs x' y' z' ds) := Classical.propDecidable _
noncomputable def jnOf (x' y' z' : Int) (ds : List Cell) : Option Hp := if Alike x y z cs x' y' z' ds then some ⟨x, y, z, pick x y z fun c => decide (c ∈ cs) || decide (c ∈ ds)⟩ else none
noncomputable def cmOf (x' y' z' : Int) (ds : List Cell) : Option Hp := if Alike x y z cs x' y' z' ds then some ⟨x, y, z, pick x y z fun c => decide (c ∈ cs) && decide (c ∈ ds)⟩ else none
/-- A shift that is not too far. -/
def Near4 (p : Cell) : Prop := (-4 ≤ p.a ∧ p.a ≤ 4) ∧ (-4 ≤ p.b ∧ p.b ≤ 4) ∧ (-4 ≤ p.c ∧ p.c ≤ 4)
noncomputable def shOf (p : Cell) : Option Hp := by
  classical
  exact if HeapOK x y z cs ∧ Near4 p ∧ HeapOK x y z (cs.map (shift p)) then some ⟨x, y, z, cs.map (shift p)⟩ else none
noncomputable def crOf : Option Hp := by
  classical
  exact if HeapOK x y z cs ∧ 0 < cs.length then some (cropHp cs) else none
noncomputable def wdOf (X Y Z : Int) : Option Hp := by
  classical
  exact if HeapOK x y z cs ∧ HeapOK X Y Z cs then some ⟨X, Y, Z, cs⟩ else none
end
end Go.Ab

/- The abstract code of some functions (written by a program of mine from the translation, by way of prepF). -/
namespace Go.Ab.C
open Go.Ab
end Go.Ab.C

/- That the program has this code. -/
namespace Go.Ab.K
open Go Go.Ab
end Go.Ab.K

/- Contracts: the reference's mirrored, other, cropped, widened and shifted heaps. -/
namespace Go.Ab
open Go
set_option linter.unusedSimpArgs false
set_option linter.unusedVariables false
set_option maxRecDepth 20000

theorem heapX_box {M N : Mem} {q u : Nat} {g : Hp} {A : Mem → Prop} {old : List LV} (hq : Live N q (.row old true 0)) (ho : old.length = 4) (hu : Live N u (.row (triL g.cs) true 3)) (hql : M.length ≤ q) (hul : M.length ≤ u) (hp : Pre M N)
    (hA : ∀ N', Live N' q (.row [.I g.x, .I g.y, .I g.z, .ref u 0 g.cs.length] true 0) → HeapT M g (.tup [.agg [.I g.x, .I g.y, .I g.z, .ref u 0 g.cs.length], .B true]) N' → Pre M N' → A N') : memK (setCells N q 0 [.I g.x, .I g.y, .I g.z, .ref u 0 g.cs.length]) A := by
  have hne : u ≠ q := by
    rintro rfl
    exact hu.ne_esz hq (by decide) rfl
  refine memK_box hq (by rw [ho]; rfl) fun N3 k1 k2 k3 => hA N3 k2 ⟨u, rfl, live_step hu hne k3, hul⟩ (pre_step hp hql (j := 0) k1 k3)
section
variable {x y z : Int} {t : Nat} {w : Bool} {cs : List Cell} {M : Mem} (h : Live M t (.row (triL cs) w 3)) (hn : cs.length ≤ 1000000000)
include h hn
end
end Go.Ab

/- Contracts: shadows that fit together, greatest heaps, bounds, clean shadows, taken cubes. -/
namespace Go.Ab
open Go
set_option linter.unusedSimpArgs false
set_option linter.unusedVariables false
set_option maxRecDepth 20000

structure Shd where
  x : Int
  y : Int
  z : Int
  tp : List Int
  fr : List Int
  sd : List Int
def Shd.none : Shd := ⟨0, 0, 0, [], [], []⟩
/-- A shadow, or the one of all zeros and false; its lists may be read. -/
def ShdX (M : Mem) (r : Option Shd) (v : LV) (N : Mem) : Prop := ∃ a b c : Nat, v = .tup [.agg [.I (r.getD Shd.none).x, .I (r.getD Shd.none).y, .I (r.getD Shd.none).z, .ref a 0 (r.getD Shd.none).tp.length, .ref b 0 (r.getD Shd.none).fr.length, .ref c 0 (r.getD Shd.none).sd.length], .B r.isSome] ∧
  Ints N a 0 (r.getD Shd.none).tp ∧ Ints N b 0 (r.getD Shd.none).fr ∧ Ints N c 0 (r.getD Shd.none).sd ∧ Pre M N
theorem shdX_of {f : FuncId} {args : List LV} {M : Mem} {r : Option Shd} (h : CallsR PG f args M fun v N => (∃ (g : Shd) (a b c : Nat), r = some g ∧ v = .tup [.agg [.I g.x, .I g.y, .I g.z, .ref a 0 g.tp.length, .ref b 0 g.fr.length, .ref c 0 g.sd.length], .B true] ∧ Ints N a 0 g.tp ∧ Ints N b 0 g.fr ∧ Ints N c 0 g.sd ∧ Pre M N) ∨ (r = none ∧ v = .tup [.agg [.I 0, .I 0, .I 0, .nil, .nil, .nil], .B false] ∧ Pre M N)) : CallsR PG f args M (ShdX M r) := by
  refine h.den (e := 1) ?_
  rintro v N (⟨g, a, b, c, rfl, rfl, ha, hb, hc, hp⟩ | ⟨rfl, rfl, hp⟩)
  · exact .inl ⟨a, b, c, rfl, ha, hb, hc, hp⟩
  · have hl : Ints (N ++ [some (.row [] true 1)]) N.length 0 [] := (Live.new (b := .row (intL []) true 1)).has
    exact .inr ⟨.tup [.agg [.I 0, .I 0, .I 0, .ref N.length 0 0, .ref N.length 0 0, .ref N.length 0 0], .B false], .inr ⟨_, _, rfl, rfl, .inr ⟨_, _, rfl, rfl, .rfl, .rfl, .rfl, .nil, .nil, .nil, trivial⟩, .rfl, trivial⟩, N.length, N.length, N.length, rfl, hl, hl, hl, hp.trans (Pre.app _ _)⟩
section
variable (x y z : Int) (tp fr sd : List Int)
noncomputable def grtOf : Option Hp := by
  classical
  exact if Fits x y z tp fr sd then some ⟨x, y, z, pick x y z (allowedB y z tp fr sd)⟩ else none
noncomputable def clnOf : Option Shd := by
  classical
  exact if ShdOK x y z tp fr sd then some ⟨x, y, z, shdOf x y z 2 (pick x y z (allowedB y z tp fr sd)), shdOf x y z 1 (pick x y z (allowedB y z tp fr sd)), shdOf x y z 0 (pick x y z (allowedB y z tp fr sd))⟩ else none
noncomputable def lbdOf : Option Int := by
  classical
  exact if ShdOK x y z tp fr sd then some (max (litSum tp) (max (litSum fr) (litSum sd))) else none
end
theorem h_l3Of {x y z : Int} {t o : Nat} {cs : List Cell} {M : Mem} (h : Tri M t o cs) (hH : HeapOK x y z cs) : CallsR PG F.spec_l3Of [.agg [.I x, .I y, .I z, .ref t o cs.length]] M (ShdRes M x y z (shdOf x y z 2 cs) (shdOf x y z 1 cs) (shdOf x y z 0 cs)) := by
  refine callsR_run K.spec_l3Of rfl ?_
  simp (disch := omega) only [C.spec_l3Of, ↓SXd, SXu, slBounds, ↓sop, ↓aop, ↓reduceIte, LV.cells, AOp.dst, LV.I, LV.B, LV.U, LV.S, LV.nil, Nat.reduceEqDiff, Nat.reduceAdd, Nat.reduceMul, Nat.reduceSub, Nat.reduceLeDiff, Nat.reduceBEq, Nat.reduceDiv, Nat.reduceMod, Int.reduceToNat, Int.reduceLT, Int.reduceLE, Int.reduceAdd, Int.reduceSub, Int.reduceMul, Int.reduceEq, Int.reduceNeg, reduceCtorEq, resV, resAll, ARes.ev, LV.flat, ite_true, ite_false, exists_eq_left', exists_eq_left, keyOf, implies_true, fillC, capOf]
  refine callK_of (h_l2Top h.app hH) ?_
  simp (disch := omega) only [↓SXd, SXu, slBounds, ↓sop, ↓aop, ↓reduceIte, LV.cells, AOp.dst, LV.I, LV.B, LV.U, LV.S, LV.nil, Nat.reduceEqDiff, Nat.reduceAdd, Nat.reduceMul, Nat.reduceSub, Nat.reduceLeDiff, Nat.reduceBEq, Nat.reduceDiv, Nat.reduceMod, Int.reduceToNat, Int.reduceLT, Int.reduceLE, Int.reduceAdd, Int.reduceSub, Int.reduceMul, Int.reduceEq, Int.reduceNeg, reduceCtorEq, resV, resAll, ARes.ev, LV.flat, ite_true, ite_false, exists_eq_left', exists_eq_left, keyOf, implies_true, fillC, capOf]
  refine callK_of (h_l2Front h.app hH) ?_
  simp (disch := omega) only [↓SXd, SXu, slBounds, ↓sop, ↓aop, ↓reduceIte, LV.cells, AOp.dst, LV.I, LV.B, LV.U, LV.S, LV.nil, Nat.reduceEqDiff, Nat.reduceAdd, Nat.reduceMul, Nat.reduceSub, Nat.reduceLeDiff, Nat.reduceBEq, Nat.reduceDiv, Nat.reduceMod, Int.reduceToNat, Int.reduceLT, Int.reduceLE, Int.reduceAdd, Int.reduceSub, Int.reduceMul, Int.reduceEq, Int.reduceNeg, reduceCtorEq, resV, resAll, ARes.ev, LV.flat, ite_true, ite_false, exists_eq_left', exists_eq_left, keyOf, implies_true, fillC, capOf]
  refine callK_of (h_l2Side h.app hH) ?_
  simp (disch := omega) only [splice, ↓SXd, SXu, slBounds, ↓sop, ↓aop, ↓reduceIte, LV.cells, AOp.dst, LV.I, LV.B, LV.U, LV.S, LV.nil, Nat.reduceEqDiff, Nat.reduceAdd, Nat.reduceMul, Nat.reduceSub, Nat.reduceLeDiff, Nat.reduceBEq, Nat.reduceDiv, Nat.reduceMod, Int.reduceToNat, Int.reduceLT, Int.reduceLE, Int.reduceAdd, Int.reduceSub, Int.reduceMul, Int.reduceEq, Int.reduceNeg, reduceCtorEq, resV, resAll, ARes.ev, LV.flat, ite_true, ite_false, exists_eq_left', exists_eq_left, keyOf, implies_true, fillC, capOf]
  exact ⟨M.length + 2, M.length + 3, M.length + 4, rfl, by omega, by omega, by omega, by omega, by omega, by omega, Live.newj (j := 2) rfl, Live.newj (j := 3) rfl, Live.newj (j := 4) rfl, Pre.app _ _⟩
theorem h_l3Lit {t o : Nat} {l : List Int} {M : Mem} (h : Ints M t o l) (hl : Ones l) (hn : l.length ≤ 1000) : CallsTo PG F.spec_l3Lit [.ref t o l.length] M (.I (litSum l)) M := by
  refine calls_run K.spec_l3Lit rfl ?_
  simp (disch := omega) only [C.spec_l3Lit, ↓SXd, SXu, slBounds, ↓sop, ↓aop, ↓reduceIte, LV.cells, AOp.dst, LV.I, LV.B, LV.U, LV.S, LV.nil, Nat.reduceEqDiff, Nat.reduceAdd, Nat.reduceMul, Nat.reduceSub, Nat.reduceLeDiff, Nat.reduceBEq, Nat.reduceDiv, Nat.reduceMod, Int.reduceToNat, Int.reduceLT, Int.reduceLE, Int.reduceAdd, Int.reduceSub, Int.reduceMul, Int.reduceEq, Int.reduceNeg, reduceCtorEq, resV, resAll, ARes.ev, LV.flat, ite_true, ite_false, exists_eq_left', exists_eq_left, keyOf, implies_true, fillC, capOf]
  refine ev_loop (fun m fr M' => ∃ k : Nat, k + m = l.length ∧ M' = M ∧ fr 0 = .ref t o l.length ∧ fr 3 = .I (litSum (l.take k)) ∧ fr 4 = .I k) l.length ⟨0, by omega, rfl, rfl, rfl, rfl⟩ ?_
  rintro m fr M' ⟨k, hk, rfl, f0, f3, f4⟩
  simp (disch := omega) only [f0, f3, f4, ↓SXd, SXu, slBounds, ↓sop, ↓aop, ↓reduceIte, LV.cells, AOp.dst, LV.I, LV.B, LV.U, LV.S, LV.nil, Nat.reduceEqDiff, Nat.reduceAdd, Nat.reduceMul, Nat.reduceSub, Nat.reduceLeDiff, Nat.reduceBEq, Nat.reduceDiv, Nat.reduceMod, Int.reduceToNat, Int.reduceLT, Int.reduceLE, Int.reduceAdd, Int.reduceSub, Int.reduceMul, Int.reduceEq, Int.reduceNeg, reduceCtorEq, resV, resAll, ARes.ev, LV.flat, ite_true, ite_false, exists_eq_left', exists_eq_left, keyOf, implies_true, fillC, capOf]
  refine condC_dec (fun hlt => ?_) (fun hlt => ?_)
  · have hkl : k < l.length := by omega
    have hg := Ints.get h hkl
    have hst := litSum_take hkl
    have hb := litSum_bound (l := l.take k) fun v hv => hl v (List.mem_of_mem_take hv)
    have htl := List.length_take_le k l
    have hv := hl _ (getD_mem' (d := 0) hkl)
    simp (disch := omega) only [f0, f3, f4, hg, Nat.mul_one, ↓SXd, SXu, slBounds, ↓sop, ↓aop, ↓reduceIte, LV.cells, AOp.dst, LV.I, LV.B, LV.U, LV.S, LV.nil, Nat.reduceEqDiff, Nat.reduceAdd, Nat.reduceMul, Nat.reduceSub, Nat.reduceLeDiff, Nat.reduceBEq, Nat.reduceDiv, Nat.reduceMod, Int.reduceToNat, Int.reduceLT, Int.reduceLE, Int.reduceAdd, Int.reduceSub, Int.reduceMul, Int.reduceEq, Int.reduceNeg, reduceCtorEq, resV, resAll, ARes.ev, LV.flat, ite_true, ite_false, exists_eq_left', exists_eq_left, keyOf, implies_true, fillC, capOf]
    exact ⟨m - 1, by omega, k + 1, by omega, rfl, f0, eqI (by rw [hst]), eqI (natI _)⟩
  · simp (disch := omega) only [f0, f3, f4, ↓SXd, SXu, slBounds, ↓sop, ↓aop, ↓reduceIte, LV.cells, AOp.dst, LV.I, LV.B, LV.U, LV.S, LV.nil, Nat.reduceEqDiff, Nat.reduceAdd, Nat.reduceMul, Nat.reduceSub, Nat.reduceLeDiff, Nat.reduceBEq, Nat.reduceDiv, Nat.reduceMod, Int.reduceToNat, Int.reduceLT, Int.reduceLE, Int.reduceAdd, Int.reduceSub, Int.reduceMul, Int.reduceEq, Int.reduceNeg, reduceCtorEq, resV, resAll, ARes.ev, LV.flat, ite_true, ite_false, exists_eq_left', exists_eq_left, keyOf, implies_true, fillC, capOf]
    have : k = l.length := by omega
    subst this
    rw [List.take_length]
    exact cmp_drop0 rfl
section
variable {x y z : Int} {t o t' o' t2 o2 : Nat} {tp fr sd : List Int} {M : Mem} (h1 : Ints M t o tp) (h2 : Ints M t' o' fr) (h3 : Ints M t2 o2 sd) (l1 : tp.length ≤ 1000000000) (l2 : fr.length ≤ 1000000000) (l3 : sd.length ≤ 1000000000)
include h1 h2 h3 l1 l2 l3
theorem h_sIsShadow : CallsTo PG F.spec_IsShadow [.agg [.I x, .I y, .I z, .ref t o tp.length, .ref t' o' fr.length, .ref t2 o2 sd.length]] M (.B (decide (ShdOK x y z tp fr sd))) M := by
  refine calls_run K.spec_IsShadow rfl ?_
  simp (disch := omega) only [C.spec_IsShadow, ↓SXd, SXu, slBounds, ↓sop, ↓aop, ↓reduceIte, LV.cells, AOp.dst, LV.I, LV.B, LV.U, LV.S, LV.nil, Nat.reduceEqDiff, Nat.reduceAdd, Nat.reduceMul, Nat.reduceSub, Nat.reduceLeDiff, Nat.reduceBEq, Nat.reduceDiv, Nat.reduceMod, Int.reduceToNat, Int.reduceLT, Int.reduceLE, Int.reduceAdd, Int.reduceSub, Int.reduceMul, Int.reduceEq, Int.reduceNeg, reduceCtorEq, resV, resAll, ARes.ev, LV.flat, ite_true, ite_false, exists_eq_left', exists_eq_left, keyOf, implies_true, fillC, capOf]
  refine callK_of (h_l3Shadow h1.app h2.app h3.app l1 l2 l3) ?_
  simp (disch := omega) only [↓SXd, SXu, slBounds, ↓sop, ↓aop, ↓reduceIte, LV.cells, AOp.dst, LV.I, LV.B, LV.U, LV.S, LV.nil, Nat.reduceEqDiff, Nat.reduceAdd, Nat.reduceMul, Nat.reduceSub, Nat.reduceLeDiff, Nat.reduceBEq, Nat.reduceDiv, Nat.reduceMod, Int.reduceToNat, Int.reduceLT, Int.reduceLE, Int.reduceAdd, Int.reduceSub, Int.reduceMul, Int.reduceEq, Int.reduceNeg, reduceCtorEq, resV, resAll, ARes.ev, LV.flat, ite_true, ite_false, exists_eq_left', exists_eq_left, keyOf, implies_true, fillC, capOf]
  exact cmp_drop rfl
theorem h_sFitTogether : CallsTo PG F.spec_FitTogether [.agg [.I x, .I y, .I z, .ref t o tp.length, .ref t' o' fr.length, .ref t2 o2 sd.length]] M (.tup [.B (decide (Fits x y z tp fr sd)), .B (decide (ShdOK x y z tp fr sd))]) M := by
  refine calls_run K.spec_FitTogether rfl ?_
  simp (disch := omega) only [C.spec_FitTogether, ↓SXd, SXu, slBounds, ↓sop, ↓aop, ↓reduceIte, LV.cells, AOp.dst, LV.I, LV.B, LV.U, LV.S, LV.nil, Nat.reduceEqDiff, Nat.reduceAdd, Nat.reduceMul, Nat.reduceSub, Nat.reduceLeDiff, Nat.reduceBEq, Nat.reduceDiv, Nat.reduceMod, Int.reduceToNat, Int.reduceLT, Int.reduceLE, Int.reduceAdd, Int.reduceSub, Int.reduceMul, Int.reduceEq, Int.reduceNeg, reduceCtorEq, resV, resAll, ARes.ev, LV.flat, ite_true, ite_false, exists_eq_left', exists_eq_left, keyOf, implies_true, fillC, capOf]
  refine callK_of (h_l3Shadow h1.app h2.app h3.app l1 l2 l3) ?_
  simp (disch := omega) only [↓SXd, SXu, slBounds, ↓sop, ↓aop, ↓reduceIte, LV.cells, AOp.dst, LV.I, LV.B, LV.U, LV.S, LV.nil, Nat.reduceEqDiff, Nat.reduceAdd, Nat.reduceMul, Nat.reduceSub, Nat.reduceLeDiff, Nat.reduceBEq, Nat.reduceDiv, Nat.reduceMod, Int.reduceToNat, Int.reduceLT, Int.reduceLE, Int.reduceAdd, Int.reduceSub, Int.reduceMul, Int.reduceEq, Int.reduceNeg, reduceCtorEq, resV, resAll, ARes.ev, LV.flat, ite_true, ite_false, exists_eq_left', exists_eq_left, keyOf, implies_true, fillC, capOf]
  by_cases hok : ShdOK x y z tp fr sd
  · simp (disch := omega) only [hok, ↓SXd, SXu, slBounds, ↓sop, ↓aop, ↓reduceIte, LV.cells, AOp.dst, LV.I, LV.B, LV.U, LV.S, LV.nil, Nat.reduceEqDiff, Nat.reduceAdd, Nat.reduceMul, Nat.reduceSub, Nat.reduceLeDiff, Nat.reduceBEq, Nat.reduceDiv, Nat.reduceMod, Int.reduceToNat, Int.reduceLT, Int.reduceLE, Int.reduceAdd, Int.reduceSub, Int.reduceMul, Int.reduceEq, Int.reduceNeg, reduceCtorEq, resV, resAll, ARes.ev, LV.flat, ite_true, ite_false, exists_eq_left', exists_eq_left, keyOf, implies_true, fillC, capOf]
    refine callK_of (h_l3Fit h1.app h2.app h3.app l1 l2 l3) ?_
    simp (disch := omega) only [↓SXd, SXu, slBounds, ↓sop, ↓aop, ↓reduceIte, LV.cells, AOp.dst, LV.I, LV.B, LV.U, LV.S, LV.nil, Nat.reduceEqDiff, Nat.reduceAdd, Nat.reduceMul, Nat.reduceSub, Nat.reduceLeDiff, Nat.reduceBEq, Nat.reduceDiv, Nat.reduceMod, Int.reduceToNat, Int.reduceLT, Int.reduceLE, Int.reduceAdd, Int.reduceSub, Int.reduceMul, Int.reduceEq, Int.reduceNeg, reduceCtorEq, resV, resAll, ARes.ev, LV.flat, ite_true, ite_false, exists_eq_left', exists_eq_left, keyOf, implies_true, fillC, capOf]
    exact cmp_drop rfl
  · rw [decide_eq_false (show ¬ Fits x y z tp fr sd from fun e => hok e.1)]
    simp (disch := omega) only [hok, ↓SXd, SXu, slBounds, ↓sop, ↓aop, ↓reduceIte, LV.cells, AOp.dst, LV.I, LV.B, LV.U, LV.S, LV.nil, Nat.reduceEqDiff, Nat.reduceAdd, Nat.reduceMul, Nat.reduceSub, Nat.reduceLeDiff, Nat.reduceBEq, Nat.reduceDiv, Nat.reduceMod, Int.reduceToNat, Int.reduceLT, Int.reduceLE, Int.reduceAdd, Int.reduceSub, Int.reduceMul, Int.reduceEq, Int.reduceNeg, reduceCtorEq, resV, resAll, ARes.ev, LV.flat, ite_true, ite_false, exists_eq_left', exists_eq_left, keyOf, implies_true, fillC, capOf]
    exact cmp_drop rfl
theorem g_FitTogether : CallsR PG F.impl_FitTogether [.agg [.I x, .I y, .I z, .ref t o tp.length, .ref t' o' fr.length, .ref t2 o2 sd.length]] M fun v N => v = .tup [.B (decide (Fits x y z tp fr sd)), .B (decide (ShdOK x y z tp fr sd))] ∧ Pre M N := by
  refine callsR_run K.impl_FitTogether rfl ?_
  simp (disch := omega) only [C.impl_FitTogether, ↓SXd, SXu, slBounds, ↓sop, ↓aop, ↓reduceIte, LV.cells, AOp.dst, LV.I, LV.B, LV.U, LV.S, LV.nil, Nat.reduceEqDiff, Nat.reduceAdd, Nat.reduceMul, Nat.reduceSub, Nat.reduceLeDiff, Nat.reduceBEq, Nat.reduceDiv, Nat.reduceMod, Int.reduceToNat, Int.reduceLT, Int.reduceLE, Int.reduceAdd, Int.reduceSub, Int.reduceMul, Int.reduceEq, Int.reduceNeg, reduceCtorEq, resV, resAll, ARes.ev, LV.flat, ite_true, ite_false, exists_eq_left', exists_eq_left, keyOf, implies_true, fillC, capOf]
  refine callK_of (g_IsShadow h1.app h2.app h3.app l1 l2 l3) ?_
  simp (disch := omega) only [↓SXd, SXu, slBounds, ↓sop, ↓aop, ↓reduceIte, LV.cells, AOp.dst, LV.I, LV.B, LV.U, LV.S, LV.nil, Nat.reduceEqDiff, Nat.reduceAdd, Nat.reduceMul, Nat.reduceSub, Nat.reduceLeDiff, Nat.reduceBEq, Nat.reduceDiv, Nat.reduceMod, Int.reduceToNat, Int.reduceLT, Int.reduceLE, Int.reduceAdd, Int.reduceSub, Int.reduceMul, Int.reduceEq, Int.reduceNeg, reduceCtorEq, resV, resAll, ARes.ev, LV.flat, ite_true, ite_false, exists_eq_left', exists_eq_left, keyOf, implies_true, fillC, capOf]
  by_cases hok : ShdOK x y z tp fr sd
  · rw [show decide (Fits x y z tp fr sd) = decide (HasShd x y z tp fr sd (pick x y z (allowedB y z tp fr sd))) from decide_eq_decide.2 ⟨fun e => e.2, fun e => ⟨hok, e⟩⟩]
    simp (disch := omega) only [hok, ↓SXd, SXu, slBounds, ↓sop, ↓aop, ↓reduceIte, LV.cells, AOp.dst, LV.I, LV.B, LV.U, LV.S, LV.nil, Nat.reduceEqDiff, Nat.reduceAdd, Nat.reduceMul, Nat.reduceSub, Nat.reduceLeDiff, Nat.reduceBEq, Nat.reduceDiv, Nat.reduceMod, Int.reduceToNat, Int.reduceLT, Int.reduceLE, Int.reduceAdd, Int.reduceSub, Int.reduceMul, Int.reduceEq, Int.reduceNeg, reduceCtorEq, resV, resAll, ARes.ev, LV.flat, ite_true, ite_false, exists_eq_left', exists_eq_left, keyOf, implies_true, fillC, capOf]
    refine callR_of (g_fits h1.app h2.app h3.app l1 l2 l3 hok) ?_
    rintro _ N ⟨rfl, hp⟩
    simp (disch := omega) only [↓SXd, SXu, slBounds, ↓sop, ↓aop, ↓reduceIte, LV.cells, AOp.dst, LV.I, LV.B, LV.U, LV.S, LV.nil, Nat.reduceEqDiff, Nat.reduceAdd, Nat.reduceMul, Nat.reduceSub, Nat.reduceLeDiff, Nat.reduceBEq, Nat.reduceDiv, Nat.reduceMod, Int.reduceToNat, Int.reduceLT, Int.reduceLE, Int.reduceAdd, Int.reduceSub, Int.reduceMul, Int.reduceEq, Int.reduceNeg, reduceCtorEq, resV, resAll, ARes.ev, LV.flat, ite_true, ite_false, exists_eq_left', exists_eq_left, keyOf, implies_true, fillC, capOf]
    exact ⟨rfl, (Pre.app _ _).trans hp⟩
  · rw [decide_eq_false (show ¬ Fits x y z tp fr sd from fun e => hok e.1)]
    simp (disch := omega) only [hok, ↓SXd, SXu, slBounds, ↓sop, ↓aop, ↓reduceIte, LV.cells, AOp.dst, LV.I, LV.B, LV.U, LV.S, LV.nil, Nat.reduceEqDiff, Nat.reduceAdd, Nat.reduceMul, Nat.reduceSub, Nat.reduceLeDiff, Nat.reduceBEq, Nat.reduceDiv, Nat.reduceMod, Int.reduceToNat, Int.reduceLT, Int.reduceLE, Int.reduceAdd, Int.reduceSub, Int.reduceMul, Int.reduceEq, Int.reduceNeg, reduceCtorEq, resV, resAll, ARes.ev, LV.flat, ite_true, ite_false, exists_eq_left', exists_eq_left, keyOf, implies_true, fillC, capOf]
    exact ⟨rfl, Pre.app _ _⟩
theorem h_sGreatest : CallsR PG F.spec_GreatestHeap [.agg [.I x, .I y, .I z, .ref t o tp.length, .ref t' o' fr.length, .ref t2 o2 sd.length]] M (HeapX M (grtOf x y z tp fr sd)) := by
  refine heapX_of ?_
  refine callsR_run K.spec_GreatestHeap rfl ?_
  simp (disch := omega) only [C.spec_GreatestHeap, ↓SXd, SXu, slBounds, ↓sop, ↓aop, ↓reduceIte, LV.cells, AOp.dst, LV.I, LV.B, LV.U, LV.S, LV.nil, Nat.reduceEqDiff, Nat.reduceAdd, Nat.reduceMul, Nat.reduceSub, Nat.reduceLeDiff, Nat.reduceBEq, Nat.reduceDiv, Nat.reduceMod, Int.reduceToNat, Int.reduceLT, Int.reduceLE, Int.reduceAdd, Int.reduceSub, Int.reduceMul, Int.reduceEq, Int.reduceNeg, reduceCtorEq, resV, resAll, ARes.ev, LV.flat, ite_true, ite_false, exists_eq_left', exists_eq_left, keyOf, implies_true, fillC, capOf]
  refine callK_of (h_l3Fit h1.app h2.app h3.app l1 l2 l3) ?_
  by_cases hF : Fits x y z tp fr sd
  · rw [show decide (ShdOK x y z tp fr sd ∧ HasShd x y z tp fr sd (pick x y z (allowedB y z tp fr sd))) = true from decide_eq_true hF]
    have hif : grtOf x y z tp fr sd = some ⟨x, y, z, pick x y z (allowedB y z tp fr sd)⟩ := if_pos hF
    rw [hif]
    simp (disch := omega) only [↓SXd, SXu, slBounds, ↓sop, ↓aop, ↓reduceIte, LV.cells, AOp.dst, LV.I, LV.B, LV.U, LV.S, LV.nil, Nat.reduceEqDiff, Nat.reduceAdd, Nat.reduceMul, Nat.reduceSub, Nat.reduceLeDiff, Nat.reduceBEq, Nat.reduceDiv, Nat.reduceMod, Int.reduceToNat, Int.reduceLT, Int.reduceLE, Int.reduceAdd, Int.reduceSub, Int.reduceMul, Int.reduceEq, Int.reduceNeg, reduceCtorEq, resV, resAll, ARes.ev, LV.flat, ite_true, ite_false, exists_eq_left', exists_eq_left, keyOf, implies_true, fillC, capOf]
    refine callK_of (h_l3Allowed h1.app h2.app h3.app hF.1) ?_
    simp (disch := omega) only [splice, ↓SXd, SXu, slBounds, ↓sop, ↓aop, ↓reduceIte, LV.cells, AOp.dst, LV.I, LV.B, LV.U, LV.S, LV.nil, Nat.reduceEqDiff, Nat.reduceAdd, Nat.reduceMul, Nat.reduceSub, Nat.reduceLeDiff, Nat.reduceBEq, Nat.reduceDiv, Nat.reduceMod, Int.reduceToNat, Int.reduceLT, Int.reduceLE, Int.reduceAdd, Int.reduceSub, Int.reduceMul, Int.reduceEq, Int.reduceNeg, reduceCtorEq, resV, resAll, ARes.ev, LV.flat, ite_true, ite_false, exists_eq_left', exists_eq_left, keyOf, implies_true, fillC, capOf]
    exact .inl ⟨⟨M.length + 2, rfl, Live.newj (j := 2) rfl, by omega⟩, Pre.app _ _⟩
  · rw [show decide (ShdOK x y z tp fr sd ∧ HasShd x y z tp fr sd (pick x y z (allowedB y z tp fr sd))) = false from decide_eq_false hF]
    simp (disch := omega) only [splice, ↓SXd, SXu, slBounds, ↓sop, ↓aop, ↓reduceIte, LV.cells, AOp.dst, LV.I, LV.B, LV.U, LV.S, LV.nil, Nat.reduceEqDiff, Nat.reduceAdd, Nat.reduceMul, Nat.reduceSub, Nat.reduceLeDiff, Nat.reduceBEq, Nat.reduceDiv, Nat.reduceMod, Int.reduceToNat, Int.reduceLT, Int.reduceLE, Int.reduceAdd, Int.reduceSub, Int.reduceMul, Int.reduceEq, Int.reduceNeg, reduceCtorEq, resV, resAll, ARes.ev, LV.flat, ite_true, ite_false, exists_eq_left', exists_eq_left, keyOf, implies_true, fillC, capOf]
    exact heapX_no (if_neg hF) rfl (Pre.app _ _)
theorem g_Greatest : CallsR PG F.impl_GreatestHeap [.agg [.I x, .I y, .I z, .ref t o tp.length, .ref t' o' fr.length, .ref t2 o2 sd.length]] M (HeapX M (grtOf x y z tp fr sd)) := by
  refine heapX_of ?_
  refine callsR_run K.impl_GreatestHeap rfl ?_
  simp (disch := omega) only [C.impl_GreatestHeap, ↓SXd, SXu, slBounds, ↓sop, ↓aop, ↓reduceIte, LV.cells, AOp.dst, LV.I, LV.B, LV.U, LV.S, LV.nil, Nat.reduceEqDiff, Nat.reduceAdd, Nat.reduceMul, Nat.reduceSub, Nat.reduceLeDiff, Nat.reduceBEq, Nat.reduceDiv, Nat.reduceMod, Int.reduceToNat, Int.reduceLT, Int.reduceLE, Int.reduceAdd, Int.reduceSub, Int.reduceMul, Int.reduceEq, Int.reduceNeg, reduceCtorEq, resV, resAll, ARes.ev, LV.flat, ite_true, ite_false, exists_eq_left', exists_eq_left, keyOf, implies_true, fillC, capOf]
  refine callR_of (g_isFitting h1.app h2.app h3.app l1 l2 l3) ?_
  rintro _ N ⟨rfl, hp⟩
  have b1 : Live N M.length (.row [.I x, .I y, .I z, .ref t o tp.length, .ref t' o' fr.length, .ref t2 o2 sd.length] true 0) := Live.new.pre hp
  have b2 : Live N (M.length + 1) (.row [.I 0, .I 0, .I 0, .nil] true 0) := (Live.newj (j := 1) rfl).pre hp
  have hP : Pre M N := (Pre.app _ _).trans hp
  have b2l := b2.lt
  by_cases hF : Fits x y z tp fr sd
  · rw [show decide (ShdOK x y z tp fr sd ∧ HasShd x y z tp fr sd (pick x y z (allowedB y z tp fr sd))) = true from decide_eq_true hF]
    have hif : grtOf x y z tp fr sd = some ⟨x, y, z, pick x y z (allowedB y z tp fr sd)⟩ := if_pos hF
    rw [hif]
    simp (disch := omega) only [b1.cells, ↓SXd, SXu, slBounds, ↓sop, ↓aop, ↓reduceIte, LV.cells, AOp.dst, LV.I, LV.B, LV.U, LV.S, LV.nil, Nat.reduceEqDiff, Nat.reduceAdd, Nat.reduceMul, Nat.reduceSub, Nat.reduceLeDiff, Nat.reduceBEq, Nat.reduceDiv, Nat.reduceMod, Int.reduceToNat, Int.reduceLT, Int.reduceLE, Int.reduceAdd, Int.reduceSub, Int.reduceMul, Int.reduceEq, Int.reduceNeg, reduceCtorEq, resV, resAll, ARes.ev, LV.flat, ite_true, ite_false, exists_eq_left', exists_eq_left, keyOf, implies_true, fillC, capOf]
    refine callK_of (g_Shadow_box) ?_
    simp (disch := omega) only [↓SXd, SXu, slBounds, ↓sop, ↓aop, ↓reduceIte, LV.cells, AOp.dst, LV.I, LV.B, LV.U, LV.S, LV.nil, Nat.reduceEqDiff, Nat.reduceAdd, Nat.reduceMul, Nat.reduceSub, Nat.reduceLeDiff, Nat.reduceBEq, Nat.reduceDiv, Nat.reduceMod, Int.reduceToNat, Int.reduceLT, Int.reduceLE, Int.reduceAdd, Int.reduceSub, Int.reduceMul, Int.reduceEq, Int.reduceNeg, reduceCtorEq, resV, resAll, ARes.ev, LV.flat, ite_true, ite_false, exists_eq_left', exists_eq_left, keyOf, implies_true, fillC, capOf]
    refine callK_of (g_allowed (h1.pre hP) (h2.pre hP) (h3.pre hP) hF.1) ?_
    simp (disch := omega) only [↓SXd, SXu, slBounds, ↓sop, ↓aop, ↓reduceIte, LV.cells, AOp.dst, LV.I, LV.B, LV.U, LV.S, LV.nil, Nat.reduceEqDiff, Nat.reduceAdd, Nat.reduceMul, Nat.reduceSub, Nat.reduceLeDiff, Nat.reduceBEq, Nat.reduceDiv, Nat.reduceMod, Int.reduceToNat, Int.reduceLT, Int.reduceLE, Int.reduceAdd, Int.reduceSub, Int.reduceMul, Int.reduceEq, Int.reduceNeg, reduceCtorEq, resV, resAll, ARes.ev, LV.flat, ite_true, ite_false, exists_eq_left', exists_eq_left, keyOf, implies_true, fillC, capOf]
    refine callK_of (g_heap hF.1.1) ?_
    simp (disch := omega) only [↓SXd, SXu, slBounds, ↓sop, ↓aop, ↓reduceIte, LV.cells, AOp.dst, LV.I, LV.B, LV.U, LV.S, LV.nil, Nat.reduceEqDiff, Nat.reduceAdd, Nat.reduceMul, Nat.reduceSub, Nat.reduceLeDiff, Nat.reduceBEq, Nat.reduceDiv, Nat.reduceMod, Int.reduceToNat, Int.reduceLT, Int.reduceLE, Int.reduceAdd, Int.reduceSub, Int.reduceMul, Int.reduceEq, Int.reduceNeg, reduceCtorEq, resV, resAll, ARes.ev, LV.flat, ite_true, ite_false, exists_eq_left', exists_eq_left, keyOf, implies_true, fillC, capOf]
    refine heapX_box (g := ⟨x, y, z, pick x y z (allowedB y z tp fr sd)⟩) b2.app rfl Live.new (by omega) hP.1 (hP.trans (Pre.app _ _)) fun N' e1 e2 e3 => ?_
    simp (disch := omega) only [e1.cells, ↓SXd, SXu, slBounds, ↓sop, ↓aop, ↓reduceIte, LV.cells, AOp.dst, LV.I, LV.B, LV.U, LV.S, LV.nil, Nat.reduceEqDiff, Nat.reduceAdd, Nat.reduceMul, Nat.reduceSub, Nat.reduceLeDiff, Nat.reduceBEq, Nat.reduceDiv, Nat.reduceMod, Int.reduceToNat, Int.reduceLT, Int.reduceLE, Int.reduceAdd, Int.reduceSub, Int.reduceMul, Int.reduceEq, Int.reduceNeg, reduceCtorEq, resV, resAll, ARes.ev, LV.flat, ite_true, ite_false, exists_eq_left', exists_eq_left, keyOf, implies_true, fillC, capOf]
    exact .inl ⟨e2, e3⟩
  · rw [show decide (ShdOK x y z tp fr sd ∧ HasShd x y z tp fr sd (pick x y z (allowedB y z tp fr sd))) = false from decide_eq_false hF]
    simp (disch := omega) only [↓SXd, SXu, slBounds, ↓sop, ↓aop, ↓reduceIte, LV.cells, AOp.dst, LV.I, LV.B, LV.U, LV.S, LV.nil, Nat.reduceEqDiff, Nat.reduceAdd, Nat.reduceMul, Nat.reduceSub, Nat.reduceLeDiff, Nat.reduceBEq, Nat.reduceDiv, Nat.reduceMod, Int.reduceToNat, Int.reduceLT, Int.reduceLE, Int.reduceAdd, Int.reduceSub, Int.reduceMul, Int.reduceEq, Int.reduceNeg, reduceCtorEq, resV, resAll, ARes.ev, LV.flat, ite_true, ite_false, exists_eq_left', exists_eq_left, keyOf, implies_true, fillC, capOf]
    refine memK_box b2 (by simp) fun N4 r1 r2 r3 => ?_
    simp (disch := omega) only [r2.cells, ↓SXd, SXu, slBounds, ↓sop, ↓aop, ↓reduceIte, LV.cells, AOp.dst, LV.I, LV.B, LV.U, LV.S, LV.nil, Nat.reduceEqDiff, Nat.reduceAdd, Nat.reduceMul, Nat.reduceSub, Nat.reduceLeDiff, Nat.reduceBEq, Nat.reduceDiv, Nat.reduceMod, Int.reduceToNat, Int.reduceLT, Int.reduceLE, Int.reduceAdd, Int.reduceSub, Int.reduceMul, Int.reduceEq, Int.reduceNeg, reduceCtorEq, resV, resAll, ARes.ev, LV.flat, ite_true, ite_false, exists_eq_left', exists_eq_left, keyOf, implies_true, fillC, capOf]
    exact heapX_no (if_neg hF) rfl (pre_step hP (by omega) (j := 0) r1 r3)
theorem h_sLineBound : CallsTo PG F.spec_LineBound [.agg [.I x, .I y, .I z, .ref t o tp.length, .ref t' o' fr.length, .ref t2 o2 sd.length]] M (.tup [.I ((lbdOf x y z tp fr sd).getD 0), .B (lbdOf x y z tp fr sd).isSome]) M := by
  refine calls_run K.spec_LineBound rfl ?_
  simp (disch := omega) only [C.spec_LineBound, ↓SXd, SXu, slBounds, ↓sop, ↓aop, ↓reduceIte, LV.cells, AOp.dst, LV.I, LV.B, LV.U, LV.S, LV.nil, Nat.reduceEqDiff, Nat.reduceAdd, Nat.reduceMul, Nat.reduceSub, Nat.reduceLeDiff, Nat.reduceBEq, Nat.reduceDiv, Nat.reduceMod, Int.reduceToNat, Int.reduceLT, Int.reduceLE, Int.reduceAdd, Int.reduceSub, Int.reduceMul, Int.reduceEq, Int.reduceNeg, reduceCtorEq, resV, resAll, ARes.ev, LV.flat, ite_true, ite_false, exists_eq_left', exists_eq_left, keyOf, implies_true, fillC, capOf]
  refine callK_of (h_l3Shadow h1.app h2.app h3.app l1 l2 l3) ?_
  simp (disch := omega) only [↓SXd, SXu, slBounds, ↓sop, ↓aop, ↓reduceIte, LV.cells, AOp.dst, LV.I, LV.B, LV.U, LV.S, LV.nil, Nat.reduceEqDiff, Nat.reduceAdd, Nat.reduceMul, Nat.reduceSub, Nat.reduceLeDiff, Nat.reduceBEq, Nat.reduceDiv, Nat.reduceMod, Int.reduceToNat, Int.reduceLT, Int.reduceLE, Int.reduceAdd, Int.reduceSub, Int.reduceMul, Int.reduceEq, Int.reduceNeg, reduceCtorEq, resV, resAll, ARes.ev, LV.flat, ite_true, ite_false, exists_eq_left', exists_eq_left, keyOf, implies_true, fillC, capOf]
  by_cases hok : ShdOK x y z tp fr sd
  · rw [show lbdOf x y z tp fr sd = some (max (litSum tp) (max (litSum fr) (litSum sd))) from if_pos hok]
    obtain ⟨p1, p2, p3⟩ := prod_le hok.1
    obtain ⟨_, ⟨o1, n1⟩, ⟨o2', n2⟩, ⟨o3, n3⟩⟩ := id hok
    simp (disch := omega) only [hok, ↓SXd, SXu, slBounds, ↓sop, ↓aop, ↓reduceIte, LV.cells, AOp.dst, LV.I, LV.B, LV.U, LV.S, LV.nil, Nat.reduceEqDiff, Nat.reduceAdd, Nat.reduceMul, Nat.reduceSub, Nat.reduceLeDiff, Nat.reduceBEq, Nat.reduceDiv, Nat.reduceMod, Int.reduceToNat, Int.reduceLT, Int.reduceLE, Int.reduceAdd, Int.reduceSub, Int.reduceMul, Int.reduceEq, Int.reduceNeg, reduceCtorEq, resV, resAll, ARes.ev, LV.flat, ite_true, ite_false, exists_eq_left', exists_eq_left, keyOf, implies_true, fillC, capOf]
    refine callK_of (h_l3Lit h1.app o1 (by omega)) ?_
    simp (disch := omega) only [↓SXd, SXu, slBounds, ↓sop, ↓aop, ↓reduceIte, LV.cells, AOp.dst, LV.I, LV.B, LV.U, LV.S, LV.nil, Nat.reduceEqDiff, Nat.reduceAdd, Nat.reduceMul, Nat.reduceSub, Nat.reduceLeDiff, Nat.reduceBEq, Nat.reduceDiv, Nat.reduceMod, Int.reduceToNat, Int.reduceLT, Int.reduceLE, Int.reduceAdd, Int.reduceSub, Int.reduceMul, Int.reduceEq, Int.reduceNeg, reduceCtorEq, resV, resAll, ARes.ev, LV.flat, ite_true, ite_false, exists_eq_left', exists_eq_left, keyOf, implies_true, fillC, capOf]
    refine callK_of (h_l3Lit h2.app o2' (by omega)) ?_
    simp (disch := omega) only [↓SXd, SXu, slBounds, ↓sop, ↓aop, ↓reduceIte, LV.cells, AOp.dst, LV.I, LV.B, LV.U, LV.S, LV.nil, Nat.reduceEqDiff, Nat.reduceAdd, Nat.reduceMul, Nat.reduceSub, Nat.reduceLeDiff, Nat.reduceBEq, Nat.reduceDiv, Nat.reduceMod, Int.reduceToNat, Int.reduceLT, Int.reduceLE, Int.reduceAdd, Int.reduceSub, Int.reduceMul, Int.reduceEq, Int.reduceNeg, reduceCtorEq, resV, resAll, ARes.ev, LV.flat, ite_true, ite_false, exists_eq_left', exists_eq_left, keyOf, implies_true, fillC, capOf]
    refine callK_of (h_l3Lit h3.app o3 (by omega)) ?_
    simp (disch := omega) only [↓SXd, SXu, slBounds, ↓sop, ↓aop, ↓reduceIte, LV.cells, AOp.dst, LV.I, LV.B, LV.U, LV.S, LV.nil, Nat.reduceEqDiff, Nat.reduceAdd, Nat.reduceMul, Nat.reduceSub, Nat.reduceLeDiff, Nat.reduceBEq, Nat.reduceDiv, Nat.reduceMod, Int.reduceToNat, Int.reduceLT, Int.reduceLE, Int.reduceAdd, Int.reduceSub, Int.reduceMul, Int.reduceEq, Int.reduceNeg, reduceCtorEq, resV, resAll, ARes.ev, LV.flat, ite_true, ite_false, exists_eq_left', exists_eq_left, keyOf, implies_true, fillC, capOf]
    refine callK_of (h_l1Most) ?_
    simp (disch := omega) only [↓SXd, SXu, slBounds, ↓sop, ↓aop, ↓reduceIte, LV.cells, AOp.dst, LV.I, LV.B, LV.U, LV.S, LV.nil, Nat.reduceEqDiff, Nat.reduceAdd, Nat.reduceMul, Nat.reduceSub, Nat.reduceLeDiff, Nat.reduceBEq, Nat.reduceDiv, Nat.reduceMod, Int.reduceToNat, Int.reduceLT, Int.reduceLE, Int.reduceAdd, Int.reduceSub, Int.reduceMul, Int.reduceEq, Int.reduceNeg, reduceCtorEq, resV, resAll, ARes.ev, LV.flat, ite_true, ite_false, exists_eq_left', exists_eq_left, keyOf, implies_true, fillC, capOf]
    refine callK_of (h_l1Most) ?_
    simp (disch := omega) only [↓SXd, SXu, slBounds, ↓sop, ↓aop, ↓reduceIte, LV.cells, AOp.dst, LV.I, LV.B, LV.U, LV.S, LV.nil, Nat.reduceEqDiff, Nat.reduceAdd, Nat.reduceMul, Nat.reduceSub, Nat.reduceLeDiff, Nat.reduceBEq, Nat.reduceDiv, Nat.reduceMod, Int.reduceToNat, Int.reduceLT, Int.reduceLE, Int.reduceAdd, Int.reduceSub, Int.reduceMul, Int.reduceEq, Int.reduceNeg, reduceCtorEq, resV, resAll, ARes.ev, LV.flat, ite_true, ite_false, exists_eq_left', exists_eq_left, keyOf, implies_true, fillC, capOf]
    exact cmp_drop rfl
  · rw [show lbdOf x y z tp fr sd = none from if_neg hok]
    simp (disch := omega) only [hok, ↓SXd, SXu, slBounds, ↓sop, ↓aop, ↓reduceIte, LV.cells, AOp.dst, LV.I, LV.B, LV.U, LV.S, LV.nil, Nat.reduceEqDiff, Nat.reduceAdd, Nat.reduceMul, Nat.reduceSub, Nat.reduceLeDiff, Nat.reduceBEq, Nat.reduceDiv, Nat.reduceMod, Int.reduceToNat, Int.reduceLT, Int.reduceLE, Int.reduceAdd, Int.reduceSub, Int.reduceMul, Int.reduceEq, Int.reduceNeg, reduceCtorEq, resV, resAll, ARes.ev, LV.flat, ite_true, ite_false, exists_eq_left', exists_eq_left, keyOf, implies_true, fillC, capOf]
    exact cmp_drop rfl
theorem h_sCleanShadow : CallsR PG F.spec_CleanShadow [.agg [.I x, .I y, .I z, .ref t o tp.length, .ref t' o' fr.length, .ref t2 o2 sd.length]] M (ShdX M (clnOf x y z tp fr sd)) := by
  refine shdX_of ?_
  refine callsR_run K.spec_CleanShadow rfl ?_
  simp (disch := omega) only [C.spec_CleanShadow, ↓SXd, SXu, slBounds, ↓sop, ↓aop, ↓reduceIte, LV.cells, AOp.dst, LV.I, LV.B, LV.U, LV.S, LV.nil, Nat.reduceEqDiff, Nat.reduceAdd, Nat.reduceMul, Nat.reduceSub, Nat.reduceLeDiff, Nat.reduceBEq, Nat.reduceDiv, Nat.reduceMod, Int.reduceToNat, Int.reduceLT, Int.reduceLE, Int.reduceAdd, Int.reduceSub, Int.reduceMul, Int.reduceEq, Int.reduceNeg, reduceCtorEq, resV, resAll, ARes.ev, LV.flat, ite_true, ite_false, exists_eq_left', exists_eq_left, keyOf, implies_true, fillC, capOf]
  refine callK_of (h_l3Shadow h1.app h2.app h3.app l1 l2 l3) ?_
  simp (disch := omega) only [↓SXd, SXu, slBounds, ↓sop, ↓aop, ↓reduceIte, LV.cells, AOp.dst, LV.I, LV.B, LV.U, LV.S, LV.nil, Nat.reduceEqDiff, Nat.reduceAdd, Nat.reduceMul, Nat.reduceSub, Nat.reduceLeDiff, Nat.reduceBEq, Nat.reduceDiv, Nat.reduceMod, Int.reduceToNat, Int.reduceLT, Int.reduceLE, Int.reduceAdd, Int.reduceSub, Int.reduceMul, Int.reduceEq, Int.reduceNeg, reduceCtorEq, resV, resAll, ARes.ev, LV.flat, ite_true, ite_false, exists_eq_left', exists_eq_left, keyOf, implies_true, fillC, capOf]
  by_cases hok : ShdOK x y z tp fr sd
  · simp (disch := omega) only [hok, ↓SXd, SXu, slBounds, ↓sop, ↓aop, ↓reduceIte, LV.cells, AOp.dst, LV.I, LV.B, LV.U, LV.S, LV.nil, Nat.reduceEqDiff, Nat.reduceAdd, Nat.reduceMul, Nat.reduceSub, Nat.reduceLeDiff, Nat.reduceBEq, Nat.reduceDiv, Nat.reduceMod, Int.reduceToNat, Int.reduceLT, Int.reduceLE, Int.reduceAdd, Int.reduceSub, Int.reduceMul, Int.reduceEq, Int.reduceNeg, reduceCtorEq, resV, resAll, ARes.ev, LV.flat, ite_true, ite_false, exists_eq_left', exists_eq_left, keyOf, implies_true, fillC, capOf]
    have hif : clnOf x y z tp fr sd = some ⟨x, y, z, shdOf x y z 2 (pick x y z (allowedB y z tp fr sd)), shdOf x y z 1 (pick x y z (allowedB y z tp fr sd)), shdOf x y z 0 (pick x y z (allowedB y z tp fr sd))⟩ := if_pos hok
    refine callH_of (h_l3Allowed h1.app h2.app h3.app hok) ?_
    intro u N hu hp hb
    simp (disch := omega) only [↓SXd, SXu, slBounds, ↓sop, ↓aop, ↓reduceIte, LV.cells, AOp.dst, LV.I, LV.B, LV.U, LV.S, LV.nil, Nat.reduceEqDiff, Nat.reduceAdd, Nat.reduceMul, Nat.reduceSub, Nat.reduceLeDiff, Nat.reduceBEq, Nat.reduceDiv, Nat.reduceMod, Int.reduceToNat, Int.reduceLT, Int.reduceLE, Int.reduceAdd, Int.reduceSub, Int.reduceMul, Int.reduceEq, Int.reduceNeg, reduceCtorEq, resV, resAll, ARes.ev, LV.flat, ite_true, ite_false, exists_eq_left', exists_eq_left, keyOf, implies_true, fillC, capOf]
    refine callR_of (h_l3Of hb.has (pick_ok hok.1 _)) ?_
    rintro _ N2 ⟨a, b, c, rfl, ha, hb', hc, _, _, _, la, lb, lc, hp2⟩
    have b2 : Live N2 (M.length + 1) (.row [.I 0, .I 0, .I 0, .nil, .nil, .nil] true 0) := ((Live.newj (j := 1) rfl).pre hp).pre hp2
    have hN := hp.1
    simp only [List.length_append, List.length_cons, List.length_nil] at hN
    have hP : Pre M N2 := ((Pre.app _ _).trans hp).trans hp2
    simp (disch := omega) only [↓SXd, SXu, slBounds, ↓sop, ↓aop, ↓reduceIte, LV.cells, AOp.dst, LV.I, LV.B, LV.U, LV.S, LV.nil, Nat.reduceEqDiff, Nat.reduceAdd, Nat.reduceMul, Nat.reduceSub, Nat.reduceLeDiff, Nat.reduceBEq, Nat.reduceDiv, Nat.reduceMod, Int.reduceToNat, Int.reduceLT, Int.reduceLE, Int.reduceAdd, Int.reduceSub, Int.reduceMul, Int.reduceEq, Int.reduceNeg, reduceCtorEq, resV, resAll, ARes.ev, LV.flat, ite_true, ite_false, exists_eq_left', exists_eq_left, keyOf, implies_true, fillC, capOf]
    refine memK_box b2 (by simp) fun N3 k1 k2 k3 => ?_
    simp (disch := omega) only [k2.cells, ↓SXd, SXu, slBounds, ↓sop, ↓aop, ↓reduceIte, LV.cells, AOp.dst, LV.I, LV.B, LV.U, LV.S, LV.nil, Nat.reduceEqDiff, Nat.reduceAdd, Nat.reduceMul, Nat.reduceSub, Nat.reduceLeDiff, Nat.reduceBEq, Nat.reduceDiv, Nat.reduceMod, Int.reduceToNat, Int.reduceLT, Int.reduceLE, Int.reduceAdd, Int.reduceSub, Int.reduceMul, Int.reduceEq, Int.reduceNeg, reduceCtorEq, resV, resAll, ARes.ev, LV.flat, ite_true, ite_false, exists_eq_left', exists_eq_left, keyOf, implies_true, fillC, capOf]
    exact .inl ⟨_, a, b, c, hif, rfl, (live_step la (by omega) k3).has, (live_step lb (by omega) k3).has, (live_step lc (by omega) k3).has, pre_step hP (by omega) (j := 0) k1 k3⟩
  · simp (disch := omega) only [hok, splice, ↓SXd, SXu, slBounds, ↓sop, ↓aop, ↓reduceIte, LV.cells, AOp.dst, LV.I, LV.B, LV.U, LV.S, LV.nil, Nat.reduceEqDiff, Nat.reduceAdd, Nat.reduceMul, Nat.reduceSub, Nat.reduceLeDiff, Nat.reduceBEq, Nat.reduceDiv, Nat.reduceMod, Int.reduceToNat, Int.reduceLT, Int.reduceLE, Int.reduceAdd, Int.reduceSub, Int.reduceMul, Int.reduceEq, Int.reduceNeg, reduceCtorEq, resV, resAll, ARes.ev, LV.flat, ite_true, ite_false, exists_eq_left', exists_eq_left, keyOf, implies_true, fillC, capOf]
    exact .inr ⟨if_neg hok, rfl, Pre.app _ _⟩
theorem g_CleanShadow : CallsR PG F.impl_CleanShadow [.agg [.I x, .I y, .I z, .ref t o tp.length, .ref t' o' fr.length, .ref t2 o2 sd.length]] M (ShdX M (clnOf x y z tp fr sd)) := by
  refine shdX_of ?_
  refine callsR_run K.impl_CleanShadow rfl ?_
  simp (disch := omega) only [C.impl_CleanShadow, ↓SXd, SXu, slBounds, ↓sop, ↓aop, ↓reduceIte, LV.cells, AOp.dst, LV.I, LV.B, LV.U, LV.S, LV.nil, Nat.reduceEqDiff, Nat.reduceAdd, Nat.reduceMul, Nat.reduceSub, Nat.reduceLeDiff, Nat.reduceBEq, Nat.reduceDiv, Nat.reduceMod, Int.reduceToNat, Int.reduceLT, Int.reduceLE, Int.reduceAdd, Int.reduceSub, Int.reduceMul, Int.reduceEq, Int.reduceNeg, reduceCtorEq, resV, resAll, ARes.ev, LV.flat, ite_true, ite_false, exists_eq_left', exists_eq_left, keyOf, implies_true, fillC, capOf]
  refine callK_of (g_IsShadow h1.app h2.app h3.app l1 l2 l3) ?_
  simp (disch := omega) only [↓SXd, SXu, slBounds, ↓sop, ↓aop, ↓reduceIte, LV.cells, AOp.dst, LV.I, LV.B, LV.U, LV.S, LV.nil, Nat.reduceEqDiff, Nat.reduceAdd, Nat.reduceMul, Nat.reduceSub, Nat.reduceLeDiff, Nat.reduceBEq, Nat.reduceDiv, Nat.reduceMod, Int.reduceToNat, Int.reduceLT, Int.reduceLE, Int.reduceAdd, Int.reduceSub, Int.reduceMul, Int.reduceEq, Int.reduceNeg, reduceCtorEq, resV, resAll, ARes.ev, LV.flat, ite_true, ite_false, exists_eq_left', exists_eq_left, keyOf, implies_true, fillC, capOf]
  by_cases hok : ShdOK x y z tp fr sd
  · simp (disch := omega) only [hok, ↓SXd, SXu, slBounds, ↓sop, ↓aop, ↓reduceIte, LV.cells, AOp.dst, LV.I, LV.B, LV.U, LV.S, LV.nil, Nat.reduceEqDiff, Nat.reduceAdd, Nat.reduceMul, Nat.reduceSub, Nat.reduceLeDiff, Nat.reduceBEq, Nat.reduceDiv, Nat.reduceMod, Int.reduceToNat, Int.reduceLT, Int.reduceLE, Int.reduceAdd, Int.reduceSub, Int.reduceMul, Int.reduceEq, Int.reduceNeg, reduceCtorEq, resV, resAll, ARes.ev, LV.flat, ite_true, ite_false, exists_eq_left', exists_eq_left, keyOf, implies_true, fillC, capOf]
    have hif : clnOf x y z tp fr sd = some ⟨x, y, z, shdOf x y z 2 (pick x y z (allowedB y z tp fr sd)), shdOf x y z 1 (pick x y z (allowedB y z tp fr sd)), shdOf x y z 0 (pick x y z (allowedB y z tp fr sd))⟩ := if_pos hok
    refine callK_of (g_Shadow_box) ?_
    simp (disch := omega) only [↓SXd, SXu, slBounds, ↓sop, ↓aop, ↓reduceIte, LV.cells, AOp.dst, LV.I, LV.B, LV.U, LV.S, LV.nil, Nat.reduceEqDiff, Nat.reduceAdd, Nat.reduceMul, Nat.reduceSub, Nat.reduceLeDiff, Nat.reduceBEq, Nat.reduceDiv, Nat.reduceMod, Int.reduceToNat, Int.reduceLT, Int.reduceLE, Int.reduceAdd, Int.reduceSub, Int.reduceMul, Int.reduceEq, Int.reduceNeg, reduceCtorEq, resV, resAll, ARes.ev, LV.flat, ite_true, ite_false, exists_eq_left', exists_eq_left, keyOf, implies_true, fillC, capOf]
    refine callK_of (g_allowed h1.app h2.app h3.app hok) ?_
    simp (disch := omega) only [↓SXd, SXu, slBounds, ↓sop, ↓aop, ↓reduceIte, LV.cells, AOp.dst, LV.I, LV.B, LV.U, LV.S, LV.nil, Nat.reduceEqDiff, Nat.reduceAdd, Nat.reduceMul, Nat.reduceSub, Nat.reduceLeDiff, Nat.reduceBEq, Nat.reduceDiv, Nat.reduceMod, Int.reduceToNat, Int.reduceLT, Int.reduceLE, Int.reduceAdd, Int.reduceSub, Int.reduceMul, Int.reduceEq, Int.reduceNeg, reduceCtorEq, resV, resAll, ARes.ev, LV.flat, ite_true, ite_false, exists_eq_left', exists_eq_left, keyOf, implies_true, fillC, capOf]
    refine callR_of (g_shadow hok.1) ?_
    rintro _ N2 ⟨a, b, c, rfl, ha, hb', hc, _, _, _, la, lb, lc, hp2⟩
    have b2 : Live N2 (M.length + 1) (.row [.I 0, .I 0, .I 0, .nil, .nil, .nil] true 0) := (Live.newj (j := 1) rfl).pre hp2
    have hP : Pre M N2 := (Pre.app _ _).trans hp2
    simp only [List.length_append, List.length_cons, List.length_nil] at ha hb' hc
    simp (disch := omega) only [↓SXd, SXu, slBounds, ↓sop, ↓aop, ↓reduceIte, LV.cells, AOp.dst, LV.I, LV.B, LV.U, LV.S, LV.nil, Nat.reduceEqDiff, Nat.reduceAdd, Nat.reduceMul, Nat.reduceSub, Nat.reduceLeDiff, Nat.reduceBEq, Nat.reduceDiv, Nat.reduceMod, Int.reduceToNat, Int.reduceLT, Int.reduceLE, Int.reduceAdd, Int.reduceSub, Int.reduceMul, Int.reduceEq, Int.reduceNeg, reduceCtorEq, resV, resAll, ARes.ev, LV.flat, ite_true, ite_false, exists_eq_left', exists_eq_left, keyOf, implies_true, fillC, capOf]
    refine memK_box b2 (by simp) fun N3 k1 k2 k3 => ?_
    simp (disch := omega) only [k2.cells, ↓SXd, SXu, slBounds, ↓sop, ↓aop, ↓reduceIte, LV.cells, AOp.dst, LV.I, LV.B, LV.U, LV.S, LV.nil, Nat.reduceEqDiff, Nat.reduceAdd, Nat.reduceMul, Nat.reduceSub, Nat.reduceLeDiff, Nat.reduceBEq, Nat.reduceDiv, Nat.reduceMod, Int.reduceToNat, Int.reduceLT, Int.reduceLE, Int.reduceAdd, Int.reduceSub, Int.reduceMul, Int.reduceEq, Int.reduceNeg, reduceCtorEq, resV, resAll, ARes.ev, LV.flat, ite_true, ite_false, exists_eq_left', exists_eq_left, keyOf, implies_true, fillC, capOf]
    exact .inl ⟨_, a, b, c, hif, rfl, (live_step la (by omega) k3).has, (live_step lb (by omega) k3).has, (live_step lc (by omega) k3).has, pre_step hP (by omega) (j := 0) k1 k3⟩
  · simp (disch := omega) only [hok, splice, ↓SXd, SXu, slBounds, ↓sop, ↓aop, ↓reduceIte, LV.cells, AOp.dst, LV.I, LV.B, LV.U, LV.S, LV.nil, Nat.reduceEqDiff, Nat.reduceAdd, Nat.reduceMul, Nat.reduceSub, Nat.reduceLeDiff, Nat.reduceBEq, Nat.reduceDiv, Nat.reduceMod, Int.reduceToNat, Int.reduceLT, Int.reduceLE, Int.reduceAdd, Int.reduceSub, Int.reduceMul, Int.reduceEq, Int.reduceNeg, reduceCtorEq, resV, resAll, ARes.ev, LV.flat, ite_true, ite_false, exists_eq_left', exists_eq_left, keyOf, implies_true, fillC, capOf]
    exact .inr ⟨if_neg hok, rfl, Pre.app _ _⟩
theorem g_LineBound : CallsTo PG F.impl_LineBound [.agg [.I x, .I y, .I z, .ref t o tp.length, .ref t' o' fr.length, .ref t2 o2 sd.length]] M (.tup [.I ((lbdOf x y z tp fr sd).getD 0), .B (lbdOf x y z tp fr sd).isSome]) M := by
  have ht := h1.lt
  have ht' := h2.lt
  have ht2 := h3.lt
  refine calls_run K.impl_LineBound rfl ?_
  simp (disch := omega) only [C.impl_LineBound, ↓SXd, SXu, slBounds, ↓sop, ↓aop, ↓reduceIte, LV.cells, AOp.dst, LV.I, LV.B, LV.U, LV.S, LV.nil, Nat.reduceEqDiff, Nat.reduceAdd, Nat.reduceMul, Nat.reduceSub, Nat.reduceLeDiff, Nat.reduceBEq, Nat.reduceDiv, Nat.reduceMod, Int.reduceToNat, Int.reduceLT, Int.reduceLE, Int.reduceAdd, Int.reduceSub, Int.reduceMul, Int.reduceEq, Int.reduceNeg, reduceCtorEq, resV, resAll, ARes.ev, LV.flat, ite_true, ite_false, exists_eq_left', exists_eq_left, keyOf, implies_true, fillC, capOf]
  refine callK_of (g_IsShadow h1.app h2.app h3.app l1 l2 l3) ?_
  simp (disch := omega) only [↓SXd, SXu, slBounds, ↓sop, ↓aop, ↓reduceIte, LV.cells, AOp.dst, LV.I, LV.B, LV.U, LV.S, LV.nil, Nat.reduceEqDiff, Nat.reduceAdd, Nat.reduceMul, Nat.reduceSub, Nat.reduceLeDiff, Nat.reduceBEq, Nat.reduceDiv, Nat.reduceMod, Int.reduceToNat, Int.reduceLT, Int.reduceLE, Int.reduceAdd, Int.reduceSub, Int.reduceMul, Int.reduceEq, Int.reduceNeg, reduceCtorEq, resV, resAll, ARes.ev, LV.flat, ite_true, ite_false, exists_eq_left', exists_eq_left, keyOf, implies_true, fillC, capOf]
  by_cases hok : ShdOK x y z tp fr sd
  rotate_left
  · rw [show lbdOf x y z tp fr sd = none from if_neg hok]
    simp (disch := omega) only [hok, ↓SXd, SXu, slBounds, ↓sop, ↓aop, ↓reduceIte, LV.cells, AOp.dst, LV.I, LV.B, LV.U, LV.S, LV.nil, Nat.reduceEqDiff, Nat.reduceAdd, Nat.reduceMul, Nat.reduceSub, Nat.reduceLeDiff, Nat.reduceBEq, Nat.reduceDiv, Nat.reduceMod, Int.reduceToNat, Int.reduceLT, Int.reduceLE, Int.reduceAdd, Int.reduceSub, Int.reduceMul, Int.reduceEq, Int.reduceNeg, reduceCtorEq, resV, resAll, ARes.ev, LV.flat, ite_true, ite_false, exists_eq_left', exists_eq_left, keyOf, implies_true, fillC, capOf]
    exact cmp_drop rfl
  rw [show lbdOf x y z tp fr sd = some (max (litSum tp) (max (litSum fr) (litSum sd))) from if_pos hok]
  have hll : ∀ d, d < 3 → Ones (shdList d tp fr sd) ∧ (shdList d tp fr sd).length ≤ 16 := fun d hd => ⟨(hok.list hd).1, hok.len16 d⟩
  have hlb : ∀ d, d < 3 → 0 ≤ litSum (shdList d tp fr sd) ∧ litSum (shdList d tp fr sd) ≤ 16 := fun d hd => by
    have := litSum_bound (hll d hd).1
    have := (hll d hd).2
    omega
  simp (disch := omega) only [hok, ↓SXd, SXu, slBounds, ↓sop, ↓aop, ↓reduceIte, LV.cells, AOp.dst, LV.I, LV.B, LV.U, LV.S, LV.nil, Nat.reduceEqDiff, Nat.reduceAdd, Nat.reduceMul, Nat.reduceSub, Nat.reduceLeDiff, Nat.reduceBEq, Nat.reduceDiv, Nat.reduceMod, Int.reduceToNat, Int.reduceLT, Int.reduceLE, Int.reduceAdd, Int.reduceSub, Int.reduceMul, Int.reduceEq, Int.reduceNeg, reduceCtorEq, resV, resAll, ARes.ev, LV.flat, ite_true, ite_false, exists_eq_left', exists_eq_left, keyOf, implies_true, fillC, capOf]
  refine ev_loop (fun m fr1 M' => ∃ d : Nat, d + m = 3 ∧ M' = M ++ [some (.row [.I x, .I y, .I z, .ref t o tp.length, .ref t' o' fr.length, .ref t2 o2 sd.length] true 0)] ∧ fr1 1 = .ptr M.length 0 ∧ fr1 4 = .I ((List.range d).foldl (fun a e => max a (litSum (shdList e tp fr sd))) 0) ∧ fr1 12 = .I d) 3
    ⟨0, rfl, rfl, rfl, rfl, rfl⟩ ?_
  rintro m fr1 M' ⟨d, hd, rfl, f1, f4, f12⟩
  simp (disch := omega) only [f1, f4, f12, ↓SXd, SXu, slBounds, ↓sop, ↓aop, ↓reduceIte, LV.cells, AOp.dst, LV.I, LV.B, LV.U, LV.S, LV.nil, Nat.reduceEqDiff, Nat.reduceAdd, Nat.reduceMul, Nat.reduceSub, Nat.reduceLeDiff, Nat.reduceBEq, Nat.reduceDiv, Nat.reduceMod, Int.reduceToNat, Int.reduceLT, Int.reduceLE, Int.reduceAdd, Int.reduceSub, Int.reduceMul, Int.reduceEq, Int.reduceNeg, reduceCtorEq, resV, resAll, ARes.ev, LV.flat, ite_true, ite_false, exists_eq_left', exists_eq_left, keyOf, implies_true, fillC, capOf]
  refine condC_dec (fun hlt => ?_) (fun hlt => ?_)
  · have hd3 : d < 3 := by omega
    obtain ⟨tt, oo, hq, hI⟩ : ∃ tt oo, (if d = 0 then LV.ref t2 o2 sd.length else if d = 1 then LV.ref t' o' fr.length else LV.ref t o tp.length) = .ref tt oo (shdList d tp fr sd).length ∧ Ints M tt oo (shdList d tp fr sd) := by
      unfold shdList
      rcases (show d = 0 ∨ d = 1 ∨ d = 2 by omega) with rfl | rfl | rfl
      · exact ⟨_, _, rfl, h3⟩
      · exact ⟨_, _, rfl, h2⟩
      · exact ⟨_, _, rfl, h1⟩
    have hlist := g_Shadow_list (x := x) (y := y) (z := z) (t := t) (t' := t') (t2 := t2) (o := o) (o' := o') (o2 := o2) (n := tp.length) (n' := fr.length) (n2 := sd.length) (M := M ++ [some (.row [.I x, .I y, .I z, .ref t o tp.length, .ref t' o' fr.length, .ref t2 o2 sd.length] true 0)]) hd3 (by simp; omega) (by simp; omega) (by simp; omega)
    rw [hq] at hlist
    obtain ⟨hone, hl16⟩ := hll d hd3
    have hsb := hlb d hd3
    have hst : (List.range (d + 1)).foldl (fun a e => max a (litSum (shdList e tp fr sd))) 0 = max ((List.range d).foldl (fun a e => max a (litSum (shdList e tp fr sd))) 0) (litSum (shdList d tp fr sd)) := by
      rw [List.range_succ, List.foldl_append]; rfl
    generalize (List.range d).foldl (fun a e => max a (litSum (shdList e tp fr sd))) 0 = q at f4 hst
    generalize hxs : shdList d tp fr sd = xs at hlist hI hone hl16 hst hsb
    simp (disch := omega) only [f1, f4, f12, ↓SXd, SXu, slBounds, ↓sop, ↓aop, ↓reduceIte, LV.cells, AOp.dst, LV.I, LV.B, LV.U, LV.S, LV.nil, Nat.reduceEqDiff, Nat.reduceAdd, Nat.reduceMul, Nat.reduceSub, Nat.reduceLeDiff, Nat.reduceBEq, Nat.reduceDiv, Nat.reduceMod, Int.reduceToNat, Int.reduceLT, Int.reduceLE, Int.reduceAdd, Int.reduceSub, Int.reduceMul, Int.reduceEq, Int.reduceNeg, reduceCtorEq, resV, resAll, ARes.ev, LV.flat, ite_true, ite_false, exists_eq_left', exists_eq_left, keyOf, implies_true, fillC, capOf]
    refine callK_of (hlist) ?_
    simp (disch := omega) only [f1, f4, f12, ↓SXd, SXu, slBounds, ↓sop, ↓aop, ↓reduceIte, LV.cells, AOp.dst, LV.I, LV.B, LV.U, LV.S, LV.nil, Nat.reduceEqDiff, Nat.reduceAdd, Nat.reduceMul, Nat.reduceSub, Nat.reduceLeDiff, Nat.reduceBEq, Nat.reduceDiv, Nat.reduceMod, Int.reduceToNat, Int.reduceLT, Int.reduceLE, Int.reduceAdd, Int.reduceSub, Int.reduceMul, Int.reduceEq, Int.reduceNeg, reduceCtorEq, resV, resAll, ARes.ev, LV.flat, ite_true, ite_false, exists_eq_left', exists_eq_left, keyOf, implies_true, fillC, capOf]
    refine ev_loop (fun m2 fr2 M' => ∃ k : Nat, k + m2 = xs.length ∧ M' = M ++ [some (.row [.I x, .I y, .I z, .ref t o tp.length, .ref t' o' fr.length, .ref t2 o2 sd.length] true 0)] ∧ fr2 1 = .ptr M.length 0 ∧ fr2 4 = .I q ∧ fr2 12 = .I d ∧ fr2 6 = .I (litSum (xs.take k)) ∧ fr2 17 = .ref tt oo xs.length ∧ fr2 18 = .I xs.length ∧ fr2 19 = .I k) xs.length
      ⟨0, by omega, rfl, f1, f4, f12, rfl, rfl, rfl, rfl⟩ ?_
    clear f1 f4 f12
    rintro m2 fr2 M' ⟨k, hk, rfl, f1, f4, f12, f6, f17, f18, f19⟩
    simp (disch := omega) only [f1, f4, f12, f6, f17, f18, f19, ↓SXd, SXu, slBounds, ↓sop, ↓aop, ↓reduceIte, LV.cells, AOp.dst, LV.I, LV.B, LV.U, LV.S, LV.nil, Nat.reduceEqDiff, Nat.reduceAdd, Nat.reduceMul, Nat.reduceSub, Nat.reduceLeDiff, Nat.reduceBEq, Nat.reduceDiv, Nat.reduceMod, Int.reduceToNat, Int.reduceLT, Int.reduceLE, Int.reduceAdd, Int.reduceSub, Int.reduceMul, Int.reduceEq, Int.reduceNeg, reduceCtorEq, resV, resAll, ARes.ev, LV.flat, ite_true, ite_false, exists_eq_left', exists_eq_left, keyOf, implies_true, fillC, capOf]
    refine condC_dec (fun hlt2 => ?_) (fun hlt2 => ?_)
    · have hkl : k < xs.length := by omega
      have hg := Ints.get (Has.app (L := [some (.row [.I x, .I y, .I z, .ref t o tp.length, .ref t' o' fr.length, .ref t2 o2 sd.length] true 0)]) hI) hkl
      have hls := litSum_take hkl
      have hb := litSum_bound (l := xs.take k) fun v hv => hone v (List.mem_of_mem_take hv)
      have htl := List.length_take_le k xs
      have hv := hone _ (getD_mem' (d := 0) hkl)
      simp (disch := omega) only [f1, f4, f12, f6, f17, f18, f19, hg, Nat.mul_one, ↓SXd, SXu, slBounds, ↓sop, ↓aop, ↓reduceIte, LV.cells, AOp.dst, LV.I, LV.B, LV.U, LV.S, LV.nil, Nat.reduceEqDiff, Nat.reduceAdd, Nat.reduceMul, Nat.reduceSub, Nat.reduceLeDiff, Nat.reduceBEq, Nat.reduceDiv, Nat.reduceMod, Int.reduceToNat, Int.reduceLT, Int.reduceLE, Int.reduceAdd, Int.reduceSub, Int.reduceMul, Int.reduceEq, Int.reduceNeg, reduceCtorEq, resV, resAll, ARes.ev, LV.flat, ite_true, ite_false, exists_eq_left', exists_eq_left, keyOf, implies_true, fillC, capOf]
      exact ⟨m2 - 1, by omega, k + 1, by omega, rfl, f1, f4, f12, eqI (by rw [hls]), f17, f18, eqI (natI _)⟩
    · have : k = xs.length := by omega
      subst this
      rw [List.take_length] at f6
      simp (disch := omega) only [f1, f4, f12, f6, f17, f18, f19, maxV, if_true, ite_true, ↓SXd, SXu, slBounds, ↓sop, ↓aop, ↓reduceIte, LV.cells, AOp.dst, LV.I, LV.B, LV.U, LV.S, LV.nil, Nat.reduceEqDiff, Nat.reduceAdd, Nat.reduceMul, Nat.reduceSub, Nat.reduceLeDiff, Nat.reduceBEq, Nat.reduceDiv, Nat.reduceMod, Int.reduceToNat, Int.reduceLT, Int.reduceLE, Int.reduceAdd, Int.reduceSub, Int.reduceMul, Int.reduceEq, Int.reduceNeg, reduceCtorEq, resV, resAll, ARes.ev, LV.flat, ite_true, ite_false, exists_eq_left', exists_eq_left, keyOf, implies_true, fillC, capOf]
      exact ⟨m - 1, by omega, d + 1, by omega, rfl, f1, eqI (by rw [hst]), eqI (natI _)⟩
  · have : d = 3 := by omega
    subst this
    have hb0 := hlb 0 (by omega)
    have hb1 := hlb 1 (by omega)
    have hb2 := hlb 2 (by omega)
    have he : (List.range 3).foldl (fun a e => max a (litSum (shdList e tp fr sd))) 0 = max (litSum tp) (max (litSum fr) (litSum sd)) := by
      change 0 ≤ litSum sd ∧ _ at hb0
      change 0 ≤ litSum fr ∧ _ at hb1
      change 0 ≤ litSum tp ∧ _ at hb2
      show max (max (max 0 (litSum sd)) (litSum fr)) (litSum tp) = _
      omega
    rw [he] at f4
    simp (disch := omega) only [f1, f4, f12, ↓SXd, SXu, slBounds, ↓sop, ↓aop, ↓reduceIte, LV.cells, AOp.dst, LV.I, LV.B, LV.U, LV.S, LV.nil, Nat.reduceEqDiff, Nat.reduceAdd, Nat.reduceMul, Nat.reduceSub, Nat.reduceLeDiff, Nat.reduceBEq, Nat.reduceDiv, Nat.reduceMod, Int.reduceToNat, Int.reduceLT, Int.reduceLE, Int.reduceAdd, Int.reduceSub, Int.reduceMul, Int.reduceEq, Int.reduceNeg, reduceCtorEq, resV, resAll, ARes.ev, LV.flat, ite_true, ite_false, exists_eq_left', exists_eq_left, keyOf, implies_true, fillC, capOf]
    exact cmp_drop rfl
end
theorem g_ShadowsOf {x y z : Int} {t : Nat} {cs : List Cell} {M : Mem} (h : Tri M t 0 cs) (hH : HeapOK x y z cs) : CallsR PG F.impl_ShadowsOf [.agg [.I x, .I y, .I z, .ref t 0 cs.length]] M fun v N => ∃ a b c : Nat, v = .tup [.agg [.I x, .I y, .I z, .ref a 0 (shdOf x y z 2 cs).length, .ref b 0 (shdOf x y z 1 cs).length, .ref c 0 (shdOf x y z 0 cs).length], .B true] ∧ Ints N a 0 (shdOf x y z 2 cs) ∧ Ints N b 0 (shdOf x y z 1 cs) ∧ Ints N c 0 (shdOf x y z 0 cs) ∧ Pre M N := by
  have hlen := hH.len
  have hpk : pick x y z (fun c => decide (c ∈ cs)) = cs := hH.pick.symm
  refine callsR_run K.impl_ShadowsOf rfl ?_
  simp (disch := omega) only [C.impl_ShadowsOf, ↓SXd, SXu, slBounds, ↓sop, ↓aop, ↓reduceIte, LV.cells, AOp.dst, LV.I, LV.B, LV.U, LV.S, LV.nil, Nat.reduceEqDiff, Nat.reduceAdd, Nat.reduceMul, Nat.reduceSub, Nat.reduceLeDiff, Nat.reduceBEq, Nat.reduceDiv, Nat.reduceMod, Int.reduceToNat, Int.reduceLT, Int.reduceLE, Int.reduceAdd, Int.reduceSub, Int.reduceMul, Int.reduceEq, Int.reduceNeg, reduceCtorEq, resV, resAll, ARes.ev, LV.flat, ite_true, ite_false, exists_eq_left', exists_eq_left, keyOf, implies_true, fillC, capOf]
  refine callK_of (g_IsHeap h.app (by omega)) ?_
  simp (disch := omega) only [hH, ↓SXd, SXu, slBounds, ↓sop, ↓aop, ↓reduceIte, LV.cells, AOp.dst, LV.I, LV.B, LV.U, LV.S, LV.nil, Nat.reduceEqDiff, Nat.reduceAdd, Nat.reduceMul, Nat.reduceSub, Nat.reduceLeDiff, Nat.reduceBEq, Nat.reduceDiv, Nat.reduceMod, Int.reduceToNat, Int.reduceLT, Int.reduceLE, Int.reduceAdd, Int.reduceSub, Int.reduceMul, Int.reduceEq, Int.reduceNeg, reduceCtorEq, resV, resAll, ARes.ev, LV.flat, ite_true, ite_false, exists_eq_left', exists_eq_left, keyOf, implies_true, fillC, capOf]
  refine callK_of (g_box) ?_
  simp (disch := omega) only [↓SXd, SXu, slBounds, ↓sop, ↓aop, ↓reduceIte, LV.cells, AOp.dst, LV.I, LV.B, LV.U, LV.S, LV.nil, Nat.reduceEqDiff, Nat.reduceAdd, Nat.reduceMul, Nat.reduceSub, Nat.reduceLeDiff, Nat.reduceBEq, Nat.reduceDiv, Nat.reduceMod, Int.reduceToNat, Int.reduceLT, Int.reduceLE, Int.reduceAdd, Int.reduceSub, Int.reduceMul, Int.reduceEq, Int.reduceNeg, reduceCtorEq, resV, resAll, ARes.ev, LV.flat, ite_true, ite_false, exists_eq_left', exists_eq_left, keyOf, implies_true, fillC, capOf]
  refine callK_of (g_cubes h.app (by omega) hH.1 (fun c hc => hH.mem hc)) ?_
  simp (disch := omega) only [↓SXd, SXu, slBounds, ↓sop, ↓aop, ↓reduceIte, LV.cells, AOp.dst, LV.I, LV.B, LV.U, LV.S, LV.nil, Nat.reduceEqDiff, Nat.reduceAdd, Nat.reduceMul, Nat.reduceSub, Nat.reduceLeDiff, Nat.reduceBEq, Nat.reduceDiv, Nat.reduceMod, Int.reduceToNat, Int.reduceLT, Int.reduceLE, Int.reduceAdd, Int.reduceSub, Int.reduceMul, Int.reduceEq, Int.reduceNeg, reduceCtorEq, resV, resAll, ARes.ev, LV.flat, ite_true, ite_false, exists_eq_left', exists_eq_left, keyOf, implies_true, fillC, capOf]
  have hgs := g_shadow (x := x) (y := y) (z := z) (p := fun c => decide (c ∈ cs)) (M := M ++ [some (.row [.I x, .I y, .I z, .ref t 0 cs.length] true 0), some (.row [.I 0, .I 0, .I 0, .nil, .nil, .nil] true 0)]) hH.1
  rw [hpk] at hgs
  refine callR_of hgs ?_
  rintro _ N2 ⟨a, b, c, rfl, ha, hb', hc, _, _, _, la, lb, lc, hp2⟩
  have b2 : Live N2 (M.length + 1) (.row [.I 0, .I 0, .I 0, .nil, .nil, .nil] true 0) := (Live.newj (j := 1) rfl).pre hp2
  have hP : Pre M N2 := (Pre.app _ _).trans hp2
  simp only [List.length_append, List.length_cons, List.length_nil] at ha hb' hc
  simp (disch := omega) only [↓SXd, SXu, slBounds, ↓sop, ↓aop, ↓reduceIte, LV.cells, AOp.dst, LV.I, LV.B, LV.U, LV.S, LV.nil, Nat.reduceEqDiff, Nat.reduceAdd, Nat.reduceMul, Nat.reduceSub, Nat.reduceLeDiff, Nat.reduceBEq, Nat.reduceDiv, Nat.reduceMod, Int.reduceToNat, Int.reduceLT, Int.reduceLE, Int.reduceAdd, Int.reduceSub, Int.reduceMul, Int.reduceEq, Int.reduceNeg, reduceCtorEq, resV, resAll, ARes.ev, LV.flat, ite_true, ite_false, exists_eq_left', exists_eq_left, keyOf, implies_true, fillC, capOf]
  refine memK_box b2 (by simp) fun N3 k1 k2 k3 => ?_
  simp (disch := omega) only [k2.cells, ↓SXd, SXu, slBounds, ↓sop, ↓aop, ↓reduceIte, LV.cells, AOp.dst, LV.I, LV.B, LV.U, LV.S, LV.nil, Nat.reduceEqDiff, Nat.reduceAdd, Nat.reduceMul, Nat.reduceSub, Nat.reduceLeDiff, Nat.reduceBEq, Nat.reduceDiv, Nat.reduceMod, Int.reduceToNat, Int.reduceLT, Int.reduceLE, Int.reduceAdd, Int.reduceSub, Int.reduceMul, Int.reduceEq, Int.reduceNeg, reduceCtorEq, resV, resAll, ARes.ev, LV.flat, ite_true, ite_false, exists_eq_left', exists_eq_left, keyOf, implies_true, fillC, capOf]
  exact ⟨a, b, c, rfl, (live_step la (by omega) k3).has, (live_step lb (by omega) k3).has, (live_step lc (by omega) k3).has, pre_step hP (by omega) (j := 0) k1 k3⟩
theorem g_isCell {x y z : Int} {t o : Nat} {cs : List Cell} {c : Cell} {M : Mem} (h : Tri M t o cs) (hH : HeapOK x y z cs) (hc : c.inBox x y z) : CallsTo PG F.impl_isCell [.agg [.I x, .I y, .I z, .ref t o cs.length], .agg [.I c.a, .I c.b, .I c.c]] M (.B true) M := by
  have hlen := hH.len
  refine calls_run K.impl_isCell rfl ?_
  simp (disch := omega) only [C.impl_isCell, ↓SXd, SXu, slBounds, ↓sop, ↓aop, ↓reduceIte, LV.cells, AOp.dst, LV.I, LV.B, LV.U, LV.S, LV.nil, Nat.reduceEqDiff, Nat.reduceAdd, Nat.reduceMul, Nat.reduceSub, Nat.reduceLeDiff, Nat.reduceBEq, Nat.reduceDiv, Nat.reduceMod, Int.reduceToNat, Int.reduceLT, Int.reduceLE, Int.reduceAdd, Int.reduceSub, Int.reduceMul, Int.reduceEq, Int.reduceNeg, reduceCtorEq, resV, resAll, ARes.ev, LV.flat, ite_true, ite_false, exists_eq_left', exists_eq_left, keyOf, implies_true, fillC, capOf]
  refine callK_of (g_IsHeap h.app (by omega)) ?_
  simp (disch := omega) only [hH, ↓SXd, SXu, slBounds, ↓sop, ↓aop, ↓reduceIte, LV.cells, AOp.dst, LV.I, LV.B, LV.U, LV.S, LV.nil, Nat.reduceEqDiff, Nat.reduceAdd, Nat.reduceMul, Nat.reduceSub, Nat.reduceLeDiff, Nat.reduceBEq, Nat.reduceDiv, Nat.reduceMod, Int.reduceToNat, Int.reduceLT, Int.reduceLE, Int.reduceAdd, Int.reduceSub, Int.reduceMul, Int.reduceEq, Int.reduceNeg, reduceCtorEq, resV, resAll, ARes.ev, LV.flat, ite_true, ite_false, exists_eq_left', exists_eq_left, keyOf, implies_true, fillC, capOf]
  refine callK_of (g_box) ?_
  simp (disch := omega) only [↓SXd, SXu, slBounds, ↓sop, ↓aop, ↓reduceIte, LV.cells, AOp.dst, LV.I, LV.B, LV.U, LV.S, LV.nil, Nat.reduceEqDiff, Nat.reduceAdd, Nat.reduceMul, Nat.reduceSub, Nat.reduceLeDiff, Nat.reduceBEq, Nat.reduceDiv, Nat.reduceMod, Int.reduceToNat, Int.reduceLT, Int.reduceLE, Int.reduceAdd, Int.reduceSub, Int.reduceMul, Int.reduceEq, Int.reduceNeg, reduceCtorEq, resV, resAll, ARes.ev, LV.flat, ite_true, ite_false, exists_eq_left', exists_eq_left, keyOf, implies_true, fillC, capOf]
  refine callK_of (g_has hH.1) ?_
  simp (disch := omega) only [↓SXd, SXu, slBounds, ↓sop, ↓aop, ↓reduceIte, LV.cells, AOp.dst, LV.I, LV.B, LV.U, LV.S, LV.nil, Nat.reduceEqDiff, Nat.reduceAdd, Nat.reduceMul, Nat.reduceSub, Nat.reduceLeDiff, Nat.reduceBEq, Nat.reduceDiv, Nat.reduceMod, Int.reduceToNat, Int.reduceLT, Int.reduceLE, Int.reduceAdd, Int.reduceSub, Int.reduceMul, Int.reduceEq, Int.reduceNeg, reduceCtorEq, resV, resAll, ARes.ev, LV.flat, ite_true, ite_false, exists_eq_left', exists_eq_left, keyOf, implies_true, fillC, capOf]
  rw [cell_eta, decide_eq_true hc]
  exact cmp_drop rfl
theorem g_TakeCube {x y z : Int} {t : Nat} {cs : List Cell} {c : Cell} {M : Mem} (h : Tri M t 0 cs) (hH : HeapOK x y z cs) (hc : c ∈ cs) : CallsR PG F.impl_TakeCube [.agg [.I x, .I y, .I z, .ref t 0 cs.length], .agg [.I c.a, .I c.b, .I c.c]] M fun v N => HeapT M ⟨x, y, z, cs.filter fun e => !decide (e = c)⟩ v N ∧ Pre M N := by
  have hlen := hH.len
  have hcb := hH.mem hc
  have hix := idx_in hH.1 hcb
  have hlp := less_pick hH (c := c)
  refine callsR_run K.impl_TakeCube rfl ?_
  simp (disch := omega) only [C.impl_TakeCube, ↓SXd, SXu, slBounds, ↓sop, ↓aop, ↓reduceIte, LV.cells, AOp.dst, LV.I, LV.B, LV.U, LV.S, LV.nil, Nat.reduceEqDiff, Nat.reduceAdd, Nat.reduceMul, Nat.reduceSub, Nat.reduceLeDiff, Nat.reduceBEq, Nat.reduceDiv, Nat.reduceMod, Int.reduceToNat, Int.reduceLT, Int.reduceLE, Int.reduceAdd, Int.reduceSub, Int.reduceMul, Int.reduceEq, Int.reduceNeg, reduceCtorEq, resV, resAll, ARes.ev, LV.flat, ite_true, ite_false, exists_eq_left', exists_eq_left, keyOf, implies_true, fillC, capOf]
  refine callK_of (g_isCell h.app hH hcb) ?_
  simp (disch := omega) only [↓SXd, SXu, slBounds, ↓sop, ↓aop, ↓reduceIte, LV.cells, AOp.dst, LV.I, LV.B, LV.U, LV.S, LV.nil, Nat.reduceEqDiff, Nat.reduceAdd, Nat.reduceMul, Nat.reduceSub, Nat.reduceLeDiff, Nat.reduceBEq, Nat.reduceDiv, Nat.reduceMod, Int.reduceToNat, Int.reduceLT, Int.reduceLE, Int.reduceAdd, Int.reduceSub, Int.reduceMul, Int.reduceEq, Int.reduceNeg, reduceCtorEq, resV, resAll, ARes.ev, LV.flat, ite_true, ite_false, exists_eq_left', exists_eq_left, keyOf, implies_true, fillC, capOf]
  refine callK_of (g_hasCube h.app (by omega) hH.1 (fun c hc => hH.mem hc) hcb) ?_
  simp (disch := omega) only [hc, ↓SXd, SXu, slBounds, ↓sop, ↓aop, ↓reduceIte, LV.cells, AOp.dst, LV.I, LV.B, LV.U, LV.S, LV.nil, Nat.reduceEqDiff, Nat.reduceAdd, Nat.reduceMul, Nat.reduceSub, Nat.reduceLeDiff, Nat.reduceBEq, Nat.reduceDiv, Nat.reduceMod, Int.reduceToNat, Int.reduceLT, Int.reduceLE, Int.reduceAdd, Int.reduceSub, Int.reduceMul, Int.reduceEq, Int.reduceNeg, reduceCtorEq, resV, resAll, ARes.ev, LV.flat, ite_true, ite_false, exists_eq_left', exists_eq_left, keyOf, implies_true, fillC, capOf]
  refine callK_of (g_box) ?_
  simp (disch := omega) only [↓SXd, SXu, slBounds, ↓sop, ↓aop, ↓reduceIte, LV.cells, AOp.dst, LV.I, LV.B, LV.U, LV.S, LV.nil, Nat.reduceEqDiff, Nat.reduceAdd, Nat.reduceMul, Nat.reduceSub, Nat.reduceLeDiff, Nat.reduceBEq, Nat.reduceDiv, Nat.reduceMod, Int.reduceToNat, Int.reduceLT, Int.reduceLE, Int.reduceAdd, Int.reduceSub, Int.reduceMul, Int.reduceEq, Int.reduceNeg, reduceCtorEq, resV, resAll, ARes.ev, LV.flat, ite_true, ite_false, exists_eq_left', exists_eq_left, keyOf, implies_true, fillC, capOf]
  refine callK_of (g_cubes h.app (by omega) hH.1 (fun c hc => hH.mem hc)) ?_
  simp (disch := omega) only [↓SXd, SXu, slBounds, ↓sop, ↓aop, ↓reduceIte, LV.cells, AOp.dst, LV.I, LV.B, LV.U, LV.S, LV.nil, Nat.reduceEqDiff, Nat.reduceAdd, Nat.reduceMul, Nat.reduceSub, Nat.reduceLeDiff, Nat.reduceBEq, Nat.reduceDiv, Nat.reduceMod, Int.reduceToNat, Int.reduceLT, Int.reduceLE, Int.reduceAdd, Int.reduceSub, Int.reduceMul, Int.reduceEq, Int.reduceNeg, reduceCtorEq, resV, resAll, ARes.ev, LV.flat, ite_true, ite_false, exists_eq_left', exists_eq_left, keyOf, implies_true, fillC, capOf]
  refine callK_of (g_box) ?_
  simp (disch := omega) only [↓SXd, SXu, slBounds, ↓sop, ↓aop, ↓reduceIte, LV.cells, AOp.dst, LV.I, LV.B, LV.U, LV.S, LV.nil, Nat.reduceEqDiff, Nat.reduceAdd, Nat.reduceMul, Nat.reduceSub, Nat.reduceLeDiff, Nat.reduceBEq, Nat.reduceDiv, Nat.reduceMod, Int.reduceToNat, Int.reduceLT, Int.reduceLE, Int.reduceAdd, Int.reduceSub, Int.reduceMul, Int.reduceEq, Int.reduceNeg, reduceCtorEq, resV, resAll, ARes.ev, LV.flat, ite_true, ite_false, exists_eq_left', exists_eq_left, keyOf, implies_true, fillC, capOf]
  refine callK_of (g_index hH.1 hcb) ?_
  simp (disch := omega) only [↓SXd, SXu, slBounds, ↓sop, ↓aop, ↓reduceIte, LV.cells, AOp.dst, LV.I, LV.B, LV.U, LV.S, LV.nil, Nat.reduceEqDiff, Nat.reduceAdd, Nat.reduceMul, Nat.reduceSub, Nat.reduceLeDiff, Nat.reduceBEq, Nat.reduceDiv, Nat.reduceMod, Int.reduceToNat, Int.reduceLT, Int.reduceLE, Int.reduceAdd, Int.reduceSub, Int.reduceMul, Int.reduceEq, Int.reduceNeg, reduceCtorEq, resV, resAll, ARes.ev, LV.flat, ite_true, ite_false, exists_eq_left', exists_eq_left, keyOf, implies_true, fillC, capOf]
  rw [bs_one hH.1 hcb, bs_diff hH.1]
  refine callK_of (g_heap hH.1) ?_
  simp (disch := omega) only [splice, ↓SXd, SXu, slBounds, ↓sop, ↓aop, ↓reduceIte, LV.cells, AOp.dst, LV.I, LV.B, LV.U, LV.S, LV.nil, Nat.reduceEqDiff, Nat.reduceAdd, Nat.reduceMul, Nat.reduceSub, Nat.reduceLeDiff, Nat.reduceBEq, Nat.reduceDiv, Nat.reduceMod, Int.reduceToNat, Int.reduceLT, Int.reduceLE, Int.reduceAdd, Int.reduceSub, Int.reduceMul, Int.reduceEq, Int.reduceNeg, reduceCtorEq, resV, resAll, ARes.ev, LV.flat, ite_true, ite_false, exists_eq_left', exists_eq_left, keyOf, implies_true, fillC, capOf]
  rw [hlp]
  exact ⟨⟨M.length + 3, rfl, Live.newj (j := 3) rfl, by omega⟩, Pre.app _ _⟩
end Go.Ab
