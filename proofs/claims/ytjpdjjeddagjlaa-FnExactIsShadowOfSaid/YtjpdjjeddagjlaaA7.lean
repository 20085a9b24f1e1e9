/- Parts of the proof of FnExactIsShadowOfSaid: Uc Ud Ug C_Tc K_Tc C_Tb K_Tb Ge Ta Tb C_Od K_Od C_Ob K_Ob C_Oa K_Oa C_Dd K_Dd C_Dc K_Dc Dc Dd Oa Ob Nd. -/
import Derived.Test.YtjpdjjeddagjlaaA5
import Derived.Test.YtjpdjjeddagjlaaA4
import Derived.Test.YtjpdjjeddagjlaaA6
import Derived.Test.YtjpdjjeddagjlaaA3
import Derived.Test.YtjpdjjeddagjlaaProg
import Derived.KernelRfl
set_option linter.all false
/- Contracts: valid shadows, the program's side. -/
namespace Go.Ab
open Go
set_option linter.unusedSimpArgs false
set_option linter.unusedVariables false

def shdList (d : Nat) (tp fr sd : List Int) : List Int := if d = 0 then sd else if d = 1 then fr else tp
def linesOf (x y z : Int) (d : Nat) : Int := if d = 0 then y * z else if d = 1 then x * z else x * y
theorem g_Shadow_box {x y z : Int} {a b c : LV} {M : Mem} : CallsTo PG F.impl_Shadow_box [.agg [.I x, .I y, .I z, a, b, c]] M (.agg [.I x, .I y, .I z]) M := by
  refine calls_run K.impl_Shadow_box rfl ?_
  simp (disch := omega) only [C.impl_Shadow_box, splice, ↓SXd, SXu, slBounds, ↓sop, ↓aop, ↓reduceIte, LV.cells, AOp.dst, LV.I, LV.B, LV.U, LV.S, LV.nil, Nat.reduceEqDiff, Nat.reduceAdd, Nat.reduceMul, Nat.reduceSub, Nat.reduceLeDiff, Nat.reduceBEq, Nat.reduceDiv, Nat.reduceMod, Int.reduceToNat, Int.reduceLT, Int.reduceLE, Int.reduceAdd, Int.reduceSub, Int.reduceMul, Int.reduceEq, Int.reduceNeg, reduceCtorEq, resV, resAll, ARes.ev, LV.flat, ite_true, ite_false, exists_eq_left', exists_eq_left, keyOf, implies_true, fillC, capOf]
  exact cmp_drop rfl
theorem g_Shadow_list {x y z : Int} {t t' t2 o o' o2 n n' n2 d : Nat} {M : Mem} (hd : d < 3) (ht : t < M.length) (ht' : t' < M.length) (ht2 : t2 < M.length) :
    CallsTo PG F.impl_Shadow_list [.agg [.I x, .I y, .I z, .ref t o n, .ref t' o' n', .ref t2 o2 n2], .I d] M (if d = 0 then .ref t2 o2 n2 else if d = 1 then .ref t' o' n' else .ref t o n) M := by
  refine calls_run K.impl_Shadow_list rfl ?_
  rcases (show d = 0 ∨ d = 1 ∨ d = 2 by omega) with rfl | rfl | rfl
  all_goals
    simp (disch := omega) only [C.impl_Shadow_list, splice, ↓SXd, SXu, slBounds, ↓sop, ↓aop, ↓reduceIte, LV.cells, AOp.dst, LV.I, LV.B, LV.U, LV.S, LV.nil, Nat.reduceEqDiff, Nat.reduceAdd, Nat.reduceMul, Nat.reduceSub, Nat.reduceLeDiff, Nat.reduceBEq, Nat.reduceDiv, Nat.reduceMod, Int.reduceToNat, Int.reduceLT, Int.reduceLE, Int.reduceAdd, Int.reduceSub, Int.reduceMul, Int.reduceEq, Int.reduceNeg, reduceCtorEq, resV, resAll, ARes.ev, LV.flat, ite_true, ite_false, exists_eq_left', exists_eq_left, keyOf, implies_true, fillC, capOf]
    exact cmp_drop (by simp [LV.lo, LV.lo1, ht, ht', ht2])
theorem g_lines {x y z : Int} {d : Nat} {M : Mem} (hS : Sides x y z) (hd : d < 3) : CallsTo PG F.impl_box_lines [.agg [.I x, .I y, .I z], .I d] M (.I (linesOf x y z d)) M := by
  obtain ⟨hx, hy, hz⟩ := id hS
  obtain ⟨hv, _, _⟩ := vol_cast hS
  have hp := prod_le hS
  refine calls_run K.impl_box_lines rfl ?_
  have hx0 : ¬ x = 0 := by omega
  have hy0 : ¬ y = 0 := by omega
  have hz0 : ¬ z = 0 := by omega
  have q1 : ((vol x y z : Nat) : Int).tdiv x = y * z := by
    rw [hv, Int.mul_assoc]; exact Int.mul_tdiv_cancel_left _ hx0
  have q2 : ((vol x y z : Nat) : Int).tdiv y = x * z := by
    rw [hv, show x * y * z = y * (x * z) by rw [← Int.mul_assoc, Int.mul_comm y x]]; exact Int.mul_tdiv_cancel_left _ hy0
  have q3 : ((vol x y z : Nat) : Int).tdiv z = x * y := by
    rw [hv]; exact Int.mul_tdiv_cancel _ hz0
  obtain ⟨⟨_, _⟩, ⟨_, _⟩, ⟨_, _⟩⟩ := hp
  rcases (show d = 0 ∨ d = 1 ∨ d = 2 by omega) with rfl | rfl | rfl
  · simp (disch := omega) only [C.impl_box_lines, ↓SXd, SXu, slBounds, ↓sop, ↓aop, ↓reduceIte, LV.cells, AOp.dst, LV.I, LV.B, LV.U, LV.S, LV.nil, Nat.reduceEqDiff, Nat.reduceAdd, Nat.reduceMul, Nat.reduceSub, Nat.reduceLeDiff, Nat.reduceBEq, Nat.reduceDiv, Nat.reduceMod, Int.reduceToNat, Int.reduceLT, Int.reduceLE, Int.reduceAdd, Int.reduceSub, Int.reduceMul, Int.reduceEq, Int.reduceNeg, reduceCtorEq, resV, resAll, ARes.ev, LV.flat, ite_true, ite_false, exists_eq_left', exists_eq_left, keyOf, implies_true, fillC, capOf]
    refine callK_of (g_size hS) ?_
    simp (disch := omega) only [ne_eq, not_false_eq_true, hx0, q1, ↓SXd, SXu, slBounds, ↓sop, ↓aop, ↓reduceIte, LV.cells, AOp.dst, LV.I, LV.B, LV.U, LV.S, LV.nil, Nat.reduceEqDiff, Nat.reduceAdd, Nat.reduceMul, Nat.reduceSub, Nat.reduceLeDiff, Nat.reduceBEq, Nat.reduceDiv, Nat.reduceMod, Int.reduceToNat, Int.reduceLT, Int.reduceLE, Int.reduceAdd, Int.reduceSub, Int.reduceMul, Int.reduceEq, Int.reduceNeg, reduceCtorEq, resV, resAll, ARes.ev, LV.flat, ite_true, ite_false, exists_eq_left', exists_eq_left, keyOf, implies_true, fillC, capOf]
    exact cmp_drop rfl
  · simp (disch := omega) only [C.impl_box_lines, ↓SXd, SXu, slBounds, ↓sop, ↓aop, ↓reduceIte, LV.cells, AOp.dst, LV.I, LV.B, LV.U, LV.S, LV.nil, Nat.reduceEqDiff, Nat.reduceAdd, Nat.reduceMul, Nat.reduceSub, Nat.reduceLeDiff, Nat.reduceBEq, Nat.reduceDiv, Nat.reduceMod, Int.reduceToNat, Int.reduceLT, Int.reduceLE, Int.reduceAdd, Int.reduceSub, Int.reduceMul, Int.reduceEq, Int.reduceNeg, reduceCtorEq, resV, resAll, ARes.ev, LV.flat, ite_true, ite_false, exists_eq_left', exists_eq_left, keyOf, implies_true, fillC, capOf]
    refine callK_of (g_size hS) ?_
    simp (disch := omega) only [ne_eq, not_false_eq_true, hy0, q2, ↓SXd, SXu, slBounds, ↓sop, ↓aop, ↓reduceIte, LV.cells, AOp.dst, LV.I, LV.B, LV.U, LV.S, LV.nil, Nat.reduceEqDiff, Nat.reduceAdd, Nat.reduceMul, Nat.reduceSub, Nat.reduceLeDiff, Nat.reduceBEq, Nat.reduceDiv, Nat.reduceMod, Int.reduceToNat, Int.reduceLT, Int.reduceLE, Int.reduceAdd, Int.reduceSub, Int.reduceMul, Int.reduceEq, Int.reduceNeg, reduceCtorEq, resV, resAll, ARes.ev, LV.flat, ite_true, ite_false, exists_eq_left', exists_eq_left, keyOf, implies_true, fillC, capOf]
    exact cmp_drop rfl
  · simp (disch := omega) only [C.impl_box_lines, ↓SXd, SXu, slBounds, ↓sop, ↓aop, ↓reduceIte, LV.cells, AOp.dst, LV.I, LV.B, LV.U, LV.S, LV.nil, Nat.reduceEqDiff, Nat.reduceAdd, Nat.reduceMul, Nat.reduceSub, Nat.reduceLeDiff, Nat.reduceBEq, Nat.reduceDiv, Nat.reduceMod, Int.reduceToNat, Int.reduceLT, Int.reduceLE, Int.reduceAdd, Int.reduceSub, Int.reduceMul, Int.reduceEq, Int.reduceNeg, reduceCtorEq, resV, resAll, ARes.ev, LV.flat, ite_true, ite_false, exists_eq_left', exists_eq_left, keyOf, implies_true, fillC, capOf]
    refine callK_of (g_size hS) ?_
    simp (disch := omega) only [ne_eq, not_false_eq_true, hz0, q3, ↓SXd, SXu, slBounds, ↓sop, ↓aop, ↓reduceIte, LV.cells, AOp.dst, LV.I, LV.B, LV.U, LV.S, LV.nil, Nat.reduceEqDiff, Nat.reduceAdd, Nat.reduceMul, Nat.reduceSub, Nat.reduceLeDiff, Nat.reduceBEq, Nat.reduceDiv, Nat.reduceMod, Int.reduceToNat, Int.reduceLT, Int.reduceLE, Int.reduceAdd, Int.reduceSub, Int.reduceMul, Int.reduceEq, Int.reduceNeg, reduceCtorEq, resV, resAll, ARes.ev, LV.flat, ite_true, ite_false, exists_eq_left', exists_eq_left, keyOf, implies_true, fillC, capOf]
    exact cmp_drop rfl

theorem g_IsShadow {x y z : Int} {t o t' o' t2 o2 : Nat} {tp fr sd : List Int} {M : Mem} (h1 : Ints M t o tp) (h2 : Ints M t' o' fr) (h3 : Ints M t2 o2 sd) (l1 : tp.length ≤ 1000000000) (l2 : fr.length ≤ 1000000000) (l3 : sd.length ≤ 1000000000) :
    CallsTo PG F.impl_IsShadow [.agg [.I x, .I y, .I z, .ref t o tp.length, .ref t' o' fr.length, .ref t2 o2 sd.length]] M (.B (decide (ShdOK x y z tp fr sd))) M := by
  have ht := h1.lt
  have ht' := h2.lt
  have ht2 := h3.lt
  refine calls_run K.impl_IsShadow rfl ?_
  simp (disch := omega) only [C.impl_IsShadow, ↓SXd, SXu, slBounds, ↓sop, ↓aop, ↓reduceIte, LV.cells, AOp.dst, LV.I, LV.B, LV.U, LV.S, LV.nil, Nat.reduceEqDiff, Nat.reduceAdd, Nat.reduceMul, Nat.reduceSub, Nat.reduceLeDiff, Nat.reduceBEq, Nat.reduceDiv, Nat.reduceMod, Int.reduceToNat, Int.reduceLT, Int.reduceLE, Int.reduceAdd, Int.reduceSub, Int.reduceMul, Int.reduceEq, Int.reduceNeg, reduceCtorEq, resV, resAll, ARes.ev, LV.flat, ite_true, ite_false, exists_eq_left', exists_eq_left, keyOf, implies_true, fillC, capOf]
  refine callK_of (g_Shadow_box) ?_
  simp (disch := omega) only [↓SXd, SXu, slBounds, ↓sop, ↓aop, ↓reduceIte, LV.cells, AOp.dst, LV.I, LV.B, LV.U, LV.S, LV.nil, Nat.reduceEqDiff, Nat.reduceAdd, Nat.reduceMul, Nat.reduceSub, Nat.reduceLeDiff, Nat.reduceBEq, Nat.reduceDiv, Nat.reduceMod, Int.reduceToNat, Int.reduceLT, Int.reduceLE, Int.reduceAdd, Int.reduceSub, Int.reduceMul, Int.reduceEq, Int.reduceNeg, reduceCtorEq, resV, resAll, ARes.ev, LV.flat, ite_true, ite_false, exists_eq_left', exists_eq_left, keyOf, implies_true, fillC, capOf]
  refine callK_of (g_valid) ?_
  simp (disch := omega) only [↓SXd, SXu, slBounds, ↓sop, ↓aop, ↓reduceIte, LV.cells, AOp.dst, LV.I, LV.B, LV.U, LV.S, LV.nil, Nat.reduceEqDiff, Nat.reduceAdd, Nat.reduceMul, Nat.reduceSub, Nat.reduceLeDiff, Nat.reduceBEq, Nat.reduceDiv, Nat.reduceMod, Int.reduceToNat, Int.reduceLT, Int.reduceLE, Int.reduceAdd, Int.reduceSub, Int.reduceMul, Int.reduceEq, Int.reduceNeg, reduceCtorEq, resV, resAll, ARes.ev, LV.flat, ite_true, ite_false, exists_eq_left', exists_eq_left, keyOf, implies_true, fillC, capOf]
  unfold ShdOK
  by_cases hS : Sides x y z
  · simp (disch := omega) only [hS, true_and, ↓SXd, SXu, slBounds, ↓sop, ↓aop, ↓reduceIte, LV.cells, AOp.dst, LV.I, LV.B, LV.U, LV.S, LV.nil, Nat.reduceEqDiff, Nat.reduceAdd, Nat.reduceMul, Nat.reduceSub, Nat.reduceLeDiff, Nat.reduceBEq, Nat.reduceDiv, Nat.reduceMod, Int.reduceToNat, Int.reduceLT, Int.reduceLE, Int.reduceAdd, Int.reduceSub, Int.reduceMul, Int.reduceEq, Int.reduceNeg, reduceCtorEq, resV, resAll, ARes.ev, LV.flat, ite_true, ite_false, exists_eq_left', exists_eq_left, keyOf, implies_true, fillC, capOf]
    refine ev_loop (fun m fr1 M' => ∃ d : Nat, d + m = 3 ∧ M' = M ++ [some (.row [.I x, .I y, .I z, .ref t o tp.length, .ref t' o' fr.length, .ref t2 o2 sd.length] true 0)] ∧ (∀ j, j < d → Ones (shdList j tp fr sd) ∧ ((shdList j tp fr sd).length : Int) = linesOf x y z j) ∧ fr1 1 = .ptr M.length 0 ∧ fr1 9 = .I d) 3
      ⟨0, rfl, rfl, by omega, rfl, rfl⟩ ?_
    rintro m fr1 M' ⟨d, hd, rfl, hj, f1, f9⟩
    simp (disch := omega) only [f1, f9, ↓SXd, SXu, slBounds, ↓sop, ↓aop, ↓reduceIte, LV.cells, AOp.dst, LV.I, LV.B, LV.U, LV.S, LV.nil, Nat.reduceEqDiff, Nat.reduceAdd, Nat.reduceMul, Nat.reduceSub, Nat.reduceLeDiff, Nat.reduceBEq, Nat.reduceDiv, Nat.reduceMod, Int.reduceToNat, Int.reduceLT, Int.reduceLE, Int.reduceAdd, Int.reduceSub, Int.reduceMul, Int.reduceEq, Int.reduceNeg, reduceCtorEq, resV, resAll, ARes.ev, LV.flat, ite_true, ite_false, exists_eq_left', exists_eq_left, keyOf, implies_true, fillC, capOf]
    refine condC_dec (fun hlt => ?_) (fun hlt => ?_)
    · have hd3 : d < 3 := by omega
      simp (disch := omega) only [f1, f9, ↓SXd, SXu, slBounds, ↓sop, ↓aop, ↓reduceIte, LV.cells, AOp.dst, LV.I, LV.B, LV.U, LV.S, LV.nil, Nat.reduceEqDiff, Nat.reduceAdd, Nat.reduceMul, Nat.reduceSub, Nat.reduceLeDiff, Nat.reduceBEq, Nat.reduceDiv, Nat.reduceMod, Int.reduceToNat, Int.reduceLT, Int.reduceLE, Int.reduceAdd, Int.reduceSub, Int.reduceMul, Int.reduceEq, Int.reduceNeg, reduceCtorEq, resV, resAll, ARes.ev, LV.flat, ite_true, ite_false, exists_eq_left', exists_eq_left, keyOf, implies_true, fillC, capOf]
      obtain ⟨tt, oo, hq, hI⟩ : ∃ tt oo, (if d = 0 then LV.ref t2 o2 sd.length else if d = 1 then LV.ref t' o' fr.length else LV.ref t o tp.length) = .ref tt oo (shdList d tp fr sd).length ∧ Ints M tt oo (shdList d tp fr sd) := by
        unfold shdList
        rcases (show d = 0 ∨ d = 1 ∨ d = 2 by omega) with rfl | rfl | rfl
        · exact ⟨_, _, rfl, h3⟩
        · exact ⟨_, _, rfl, h2⟩
        · exact ⟨_, _, rfl, h1⟩
      have hlist := g_Shadow_list (x := x) (y := y) (z := z) (t := t) (t' := t') (t2 := t2) (o := o) (o' := o') (o2 := o2) (n := tp.length) (n' := fr.length) (n2 := sd.length) (M := M ++ [some (.row [.I x, .I y, .I z, .ref t o tp.length, .ref t' o' fr.length, .ref t2 o2 sd.length] true 0)]) hd3 (by simp; omega) (by simp; omega) (by simp; omega)
      rw [hq] at hlist
      have hll : (shdList d tp fr sd).length ≤ 1000000000 := by unfold shdList; split <;> (try split) <;> assumption
      have hbad : ¬ (Ones (shdList d tp fr sd) ∧ ((shdList d tp fr sd).length : Int) = linesOf x y z d) → ¬ ((Ones tp ∧ (tp.length : Int) = x * y) ∧ (Ones fr ∧ (fr.length : Int) = x * z) ∧ (Ones sd ∧ (sd.length : Int) = y * z)) := by
        intro hb ⟨a1, a2, a3⟩
        apply hb
        rcases (show d = 0 ∨ d = 1 ∨ d = 2 by omega) with rfl | rfl | rfl
        · exact a3
        · exact a2
        · exact a1
      generalize hxs : shdList d tp fr sd = xs at hlist hI hll hbad
      refine callK_of (hlist) ?_
      simp (disch := omega) only [f1, f9, ↓SXd, SXu, slBounds, ↓sop, ↓aop, ↓reduceIte, LV.cells, AOp.dst, LV.I, LV.B, LV.U, LV.S, LV.nil, Nat.reduceEqDiff, Nat.reduceAdd, Nat.reduceMul, Nat.reduceSub, Nat.reduceLeDiff, Nat.reduceBEq, Nat.reduceDiv, Nat.reduceMod, Int.reduceToNat, Int.reduceLT, Int.reduceLE, Int.reduceAdd, Int.reduceSub, Int.reduceMul, Int.reduceEq, Int.reduceNeg, reduceCtorEq, resV, resAll, ARes.ev, LV.flat, ite_true, ite_false, exists_eq_left', exists_eq_left, keyOf, implies_true, fillC, capOf]
      refine callK_of (g_Shadow_box) ?_
      simp (disch := omega) only [f1, f9, ↓SXd, SXu, slBounds, ↓sop, ↓aop, ↓reduceIte, LV.cells, AOp.dst, LV.I, LV.B, LV.U, LV.S, LV.nil, Nat.reduceEqDiff, Nat.reduceAdd, Nat.reduceMul, Nat.reduceSub, Nat.reduceLeDiff, Nat.reduceBEq, Nat.reduceDiv, Nat.reduceMod, Int.reduceToNat, Int.reduceLT, Int.reduceLE, Int.reduceAdd, Int.reduceSub, Int.reduceMul, Int.reduceEq, Int.reduceNeg, reduceCtorEq, resV, resAll, ARes.ev, LV.flat, ite_true, ite_false, exists_eq_left', exists_eq_left, keyOf, implies_true, fillC, capOf]
      refine callK_of (g_lines hS hd3) ?_
      simp (disch := omega) only [f1, f9, ↓SXd, SXu, slBounds, ↓sop, ↓aop, ↓reduceIte, LV.cells, AOp.dst, LV.I, LV.B, LV.U, LV.S, LV.nil, Nat.reduceEqDiff, Nat.reduceAdd, Nat.reduceMul, Nat.reduceSub, Nat.reduceLeDiff, Nat.reduceBEq, Nat.reduceDiv, Nat.reduceMod, Int.reduceToNat, Int.reduceLT, Int.reduceLE, Int.reduceAdd, Int.reduceSub, Int.reduceMul, Int.reduceEq, Int.reduceNeg, reduceCtorEq, resV, resAll, ARes.ev, LV.flat, ite_true, ite_false, exists_eq_left', exists_eq_left, keyOf, implies_true, fillC, capOf]
      by_cases hlen : (xs.length : Int) = linesOf x y z d
      · simp (disch := omega) only [f1, f9, hlen, ↓SXd, SXu, slBounds, ↓sop, ↓aop, ↓reduceIte, LV.cells, AOp.dst, LV.I, LV.B, LV.U, LV.S, LV.nil, Nat.reduceEqDiff, Nat.reduceAdd, Nat.reduceMul, Nat.reduceSub, Nat.reduceLeDiff, Nat.reduceBEq, Nat.reduceDiv, Nat.reduceMod, Int.reduceToNat, Int.reduceLT, Int.reduceLE, Int.reduceAdd, Int.reduceSub, Int.reduceMul, Int.reduceEq, Int.reduceNeg, reduceCtorEq, resV, resAll, ARes.ev, LV.flat, ite_true, ite_false, exists_eq_left', exists_eq_left, keyOf, implies_true, fillC, capOf]
        refine callK_of (g_allWithin hI.app hll) ?_
        simp (disch := omega) only [f1, f9, ↓SXd, SXu, slBounds, ↓sop, ↓aop, ↓reduceIte, LV.cells, AOp.dst, LV.I, LV.B, LV.U, LV.S, LV.nil, Nat.reduceEqDiff, Nat.reduceAdd, Nat.reduceMul, Nat.reduceSub, Nat.reduceLeDiff, Nat.reduceBEq, Nat.reduceDiv, Nat.reduceMod, Int.reduceToNat, Int.reduceLT, Int.reduceLE, Int.reduceAdd, Int.reduceSub, Int.reduceMul, Int.reduceEq, Int.reduceNeg, reduceCtorEq, resV, resAll, ARes.ev, LV.flat, ite_true, ite_false, exists_eq_left', exists_eq_left, keyOf, implies_true, fillC, capOf]
        by_cases hone : Ones xs
        · simp (disch := omega) only [f1, f9, hone, ↓SXd, SXu, slBounds, ↓sop, ↓aop, ↓reduceIte, LV.cells, AOp.dst, LV.I, LV.B, LV.U, LV.S, LV.nil, Nat.reduceEqDiff, Nat.reduceAdd, Nat.reduceMul, Nat.reduceSub, Nat.reduceLeDiff, Nat.reduceBEq, Nat.reduceDiv, Nat.reduceMod, Int.reduceToNat, Int.reduceLT, Int.reduceLE, Int.reduceAdd, Int.reduceSub, Int.reduceMul, Int.reduceEq, Int.reduceNeg, reduceCtorEq, resV, resAll, ARes.ev, LV.flat, ite_true, ite_false, exists_eq_left', exists_eq_left, keyOf, implies_true, fillC, capOf]
          exact ⟨m - 1, by omega, d + 1, by omega, rfl, fun j hj1 => by
            rcases Nat.lt_or_ge j d with h2 | h2
            · exact hj j h2
            · rw [show j = d by omega, hxs]; exact ⟨hone, hlen⟩, f1, eqI (natI _)⟩
        · simp (disch := omega) only [f1, f9, hone, ↓SXd, SXu, slBounds, ↓sop, ↓aop, ↓reduceIte, LV.cells, AOp.dst, LV.I, LV.B, LV.U, LV.S, LV.nil, Nat.reduceEqDiff, Nat.reduceAdd, Nat.reduceMul, Nat.reduceSub, Nat.reduceLeDiff, Nat.reduceBEq, Nat.reduceDiv, Nat.reduceMod, Int.reduceToNat, Int.reduceLT, Int.reduceLE, Int.reduceAdd, Int.reduceSub, Int.reduceMul, Int.reduceEq, Int.reduceNeg, reduceCtorEq, resV, resAll, ARes.ev, LV.flat, ite_true, ite_false, exists_eq_left', exists_eq_left, keyOf, implies_true, fillC, capOf]
          rw [decide_eq_false (hbad fun e => hone e.1)]
          exact cmp_drop rfl
      · simp (disch := omega) only [f1, f9, hlen, ↓SXd, SXu, slBounds, ↓sop, ↓aop, ↓reduceIte, LV.cells, AOp.dst, LV.I, LV.B, LV.U, LV.S, LV.nil, Nat.reduceEqDiff, Nat.reduceAdd, Nat.reduceMul, Nat.reduceSub, Nat.reduceLeDiff, Nat.reduceBEq, Nat.reduceDiv, Nat.reduceMod, Int.reduceToNat, Int.reduceLT, Int.reduceLE, Int.reduceAdd, Int.reduceSub, Int.reduceMul, Int.reduceEq, Int.reduceNeg, reduceCtorEq, resV, resAll, ARes.ev, LV.flat, ite_true, ite_false, exists_eq_left', exists_eq_left, keyOf, implies_true, fillC, capOf]
        rw [decide_eq_false (hbad fun e => hlen e.2)]
        exact cmp_drop rfl
    · simp (disch := omega) only [f1, f9, ↓SXd, SXu, slBounds, ↓sop, ↓aop, ↓reduceIte, LV.cells, AOp.dst, LV.I, LV.B, LV.U, LV.S, LV.nil, Nat.reduceEqDiff, Nat.reduceAdd, Nat.reduceMul, Nat.reduceSub, Nat.reduceLeDiff, Nat.reduceBEq, Nat.reduceDiv, Nat.reduceMod, Int.reduceToNat, Int.reduceLT, Int.reduceLE, Int.reduceAdd, Int.reduceSub, Int.reduceMul, Int.reduceEq, Int.reduceNeg, reduceCtorEq, resV, resAll, ARes.ev, LV.flat, ite_true, ite_false, exists_eq_left', exists_eq_left, keyOf, implies_true, fillC, capOf]
      rw [decide_eq_true ⟨hj 2 (by omega), hj 1 (by omega), hj 0 (by omega)⟩]
      exact cmp_drop rfl
  · simp (disch := omega) only [hS, false_and, ↓SXd, SXu, slBounds, ↓sop, ↓aop, ↓reduceIte, LV.cells, AOp.dst, LV.I, LV.B, LV.U, LV.S, LV.nil, Nat.reduceEqDiff, Nat.reduceAdd, Nat.reduceMul, Nat.reduceSub, Nat.reduceLeDiff, Nat.reduceBEq, Nat.reduceDiv, Nat.reduceMod, Int.reduceToNat, Int.reduceLT, Int.reduceLE, Int.reduceAdd, Int.reduceSub, Int.reduceMul, Int.reduceEq, Int.reduceNeg, reduceCtorEq, resV, resAll, ARes.ev, LV.flat, ite_true, ite_false, exists_eq_left', exists_eq_left, keyOf, implies_true, fillC, capOf]
    exact cmp_drop rfl
end Go.Ab

/- Contracts: lines of a box; allowed cells, the program's side. -/
namespace Go.Ab
open Go
set_option linter.unusedSimpArgs false
set_option linter.unusedVariables false

theorem g_others {d : Nat} {M : Mem} (hd : d < 3) : CallsTo PG F.impl_others [.I d] M (.tup [.I (if d = 0 then 1 else 0), .I (if d = 2 then 1 else 2)]) M := by
  refine calls_run K.impl_others rfl ?_
  rcases (show d = 0 ∨ d = 1 ∨ d = 2 by omega) with rfl | rfl | rfl
  all_goals
    simp (disch := omega) only [C.impl_others, ↓SXd, SXu, slBounds, ↓sop, ↓aop, ↓reduceIte, LV.cells, AOp.dst, LV.I, LV.B, LV.U, LV.S, LV.nil, Nat.reduceEqDiff, Nat.reduceAdd, Nat.reduceMul, Nat.reduceSub, Nat.reduceLeDiff, Nat.reduceBEq, Nat.reduceDiv, Nat.reduceMod, Int.reduceToNat, Int.reduceLT, Int.reduceLE, Int.reduceAdd, Int.reduceSub, Int.reduceMul, Int.reduceEq, Int.reduceNeg, reduceCtorEq, resV, resAll, ARes.ev, LV.flat, ite_true, ite_false, exists_eq_left', exists_eq_left, keyOf, implies_true, fillC, capOf]
    exact cmp_drop0 rfl
/-- The place of a cell's line in a direction. -/
def lineOf (y z : Int) (c : Cell) (d : Nat) : Int := if d = 0 then c.b * z + c.c else if d = 1 then c.a * z + c.c else c.a * y + c.b
theorem lineOf_in {x y z : Int} {c : Cell} {d : Nat} (hS : Sides x y z) (hc : c.inBox x y z) (hd : d < 3) : 0 ≤ lineOf y z c d ∧ lineOf y z c d < linesOf x y z d := by
  obtain ⟨hx, hy, hz⟩ := hS
  obtain ⟨⟨_, _⟩, ⟨_, _⟩, ⟨_, _⟩⟩ := hc
  have e2 : y = 1 ∨ y = 2 ∨ y = 3 ∨ y = 4 := by omega
  have e3 : z = 1 ∨ z = 2 ∨ z = 3 ∨ z = 4 := by omega
  rcases (show d = 0 ∨ d = 1 ∨ d = 2 by omega) with rfl | rfl | rfl <;> simp only [lineOf, linesOf, if_true, Nat.one_ne_zero, if_false, show ¬ ((2 : Nat) = 0) by decide, show ¬ ((2 : Nat) = 1) by decide] <;> rcases e2 with rfl | rfl | rfl | rfl <;> rcases e3 with rfl | rfl | rfl | rfl <;> omega
theorem g_line {x y z : Int} {c : Cell} {d : Nat} {M : Mem} (hS : Sides x y z) (hc : c.inBox x y z) (hd : d < 3) : CallsTo PG F.impl_box_line [.agg [.I x, .I y, .I z], .agg [.I c.a, .I c.b, .I c.c], .I d] M (.I (lineOf y z c d)) M := by
  have hl := lineOf_in hS hc hd
  have hp := prod_le hS
  have hm : ∀ {a b k : Int}, 0 ≤ a → a ≤ 3 → 1 ≤ b → b ≤ 4 → 0 ≤ a * b ∧ a * b ≤ 12 := fun {a b k} h1 h2 h3 h4 => by
    rcases (show b = 1 ∨ b = 2 ∨ b = 3 ∨ b = 4 by omega) with rfl | rfl | rfl | rfl <;> omega
  obtain ⟨⟨_, _⟩, ⟨_, _⟩, ⟨_, _⟩⟩ := id hS
  obtain ⟨⟨_, _⟩, ⟨_, _⟩, ⟨_, _⟩⟩ := id hc
  obtain ⟨_, _⟩ := hm (a := c.a) (b := y) (k := 0) (by omega) (by omega) (by omega) (by omega)
  obtain ⟨_, _⟩ := hm (a := c.a) (b := z) (k := 0) (by omega) (by omega) (by omega) (by omega)
  obtain ⟨_, _⟩ := hm (a := c.b) (b := z) (k := 0) (by omega) (by omega) (by omega) (by omega)
  refine calls_run K.impl_box_line rfl ?_
  rcases (show d = 0 ∨ d = 1 ∨ d = 2 by omega) with rfl | rfl | rfl
  all_goals
    simp (disch := omega) only [C.impl_box_line, ↓SXd, SXu, slBounds, ↓sop, ↓aop, ↓reduceIte, LV.cells, AOp.dst, LV.I, LV.B, LV.U, LV.S, LV.nil, Nat.reduceEqDiff, Nat.reduceAdd, Nat.reduceMul, Nat.reduceSub, Nat.reduceLeDiff, Nat.reduceBEq, Nat.reduceDiv, Nat.reduceMod, Int.reduceToNat, Int.reduceLT, Int.reduceLE, Int.reduceAdd, Int.reduceSub, Int.reduceMul, Int.reduceEq, Int.reduceNeg, reduceCtorEq, resV, resAll, ARes.ev, LV.flat, ite_true, ite_false, exists_eq_left', exists_eq_left, keyOf, implies_true, fillC, capOf]
    refine callK_of (g_others (by omega)) ?_
    simp (disch := omega) only [↓SXd, SXu, slBounds, ↓sop, ↓aop, ↓reduceIte, LV.cells, AOp.dst, LV.I, LV.B, LV.U, LV.S, LV.nil, Nat.reduceEqDiff, Nat.reduceAdd, Nat.reduceMul, Nat.reduceSub, Nat.reduceLeDiff, Nat.reduceBEq, Nat.reduceDiv, Nat.reduceMod, Int.reduceToNat, Int.reduceLT, Int.reduceLE, Int.reduceAdd, Int.reduceSub, Int.reduceMul, Int.reduceEq, Int.reduceNeg, reduceCtorEq, resV, resAll, ARes.ev, LV.flat, ite_true, ite_false, exists_eq_left', exists_eq_left, keyOf, implies_true, fillC, capOf]
    exact cmp_drop rfl
end Go.Ab

/- Contracts: views, the program's side. -/
namespace Go.Ab
open Go
set_option linter.unusedSimpArgs false
set_option linter.unusedVariables false

/-- One more cube in a view. -/
def viewStep (y z : Int) (d : Nat) (v : List Int) (c : Cell) : List Int := v.set (lineOf y z c d).toNat (v.getD (lineOf y z c d).toNat 0 + 1)
def viewL (x y z : Int) (d : Nat) (cs : List Cell) : List Int := cs.foldl (viewStep y z d) (List.replicate (linesOf x y z d).toNat 0)
theorem foldl_len {y z : Int} {d : Nat} : ∀ {cs : List Cell} {v : List Int}, (cs.foldl (viewStep y z d) v).length = v.length
  | [], _ => rfl
  | c :: cs, v => by rw [List.foldl_cons, foldl_len]; simp [viewStep]
theorem viewL_len {x y z : Int} {d : Nat} {cs : List Cell} : (viewL x y z d cs).length = (linesOf x y z d).toNat := by unfold viewL; rw [foldl_len]; simp
theorem fold_bound {y z : Int} {d : Nat} : ∀ {cs : List Cell} {v : List Int} {n : Int}, (∀ j, 0 ≤ v.getD j 0 ∧ v.getD j 0 ≤ n) → ∀ j, 0 ≤ (cs.foldl (viewStep y z d) v).getD j 0 ∧ (cs.foldl (viewStep y z d) v).getD j 0 ≤ n + cs.length
  | [], v, n, h, j => by have := h j; simp only [List.foldl_nil, List.length_nil]; omega
  | c :: cs, v, n, h, j => by
    rw [List.foldl_cons]
    have := fold_bound (y := y) (z := z) (d := d) (cs := cs) (v := viewStep y z d v c) (n := n + 1) (fun i => by
      have h1 := h i
      have h2 := h (lineOf y z c d).toNat
      unfold viewStep
      rw [List.getD_eq_getElem?_getD, List.getElem?_set]
      split
      · split
        · simp only [Option.getD_some]; omega
        · simp; omega
      · rw [← List.getD_eq_getElem?_getD]; omega) j
    simp only [List.length_cons]; omega
theorem take_foldl {y z : Int} {d i : Nat} {cs : List Cell} {v : List Int} (h : i < cs.length) : (cs.take (i + 1)).foldl (viewStep y z d) v = viewStep y z d ((cs.take i).foldl (viewStep y z d) v) (cs.getD i default) := by
  rw [List.take_succ, List.getElem?_eq_getElem h, Option.toList_some, List.foldl_append]
  have e : cs.getD i default = cs[i] := by simp [h]
  rw [e]; rfl

theorem g_view {x y z : Int} {d : Nat} {p : Cell → Bool} {M : Mem} (hS : Sides x y z) (hd : d < 3) : CallsTo PG F.impl_box_view [.agg [.I x, .I y, .I z], .W (bs x y z p), .I d] M (.ref M.length 0 (viewL x y z d (pick x y z p)).length) (M ++ [some (.row (intL (viewL x y z d (pick x y z p))) true 1)]) := by
  have hlp : 1 ≤ linesOf x y z d ∧ linesOf x y z d ≤ 16 := by
    have := prod_le hS
    rcases (show d = 0 ∨ d = 1 ∨ d = 2 by omega) with rfl | rfl | rfl
    · exact this.2.2
    · exact this.2.1
    · exact this.1
  have hpl := pick_len hS p
  refine calls_run K.impl_box_view rfl ?_
  simp (disch := omega) only [C.impl_box_view, ↓SXd, SXu, slBounds, ↓sop, ↓aop, ↓reduceIte, LV.cells, AOp.dst, LV.I, LV.B, LV.U, LV.S, LV.nil, Nat.reduceEqDiff, Nat.reduceAdd, Nat.reduceMul, Nat.reduceSub, Nat.reduceLeDiff, Nat.reduceBEq, Nat.reduceDiv, Nat.reduceMod, Int.reduceToNat, Int.reduceLT, Int.reduceLE, Int.reduceAdd, Int.reduceSub, Int.reduceMul, Int.reduceEq, Int.reduceNeg, reduceCtorEq, resV, resAll, ARes.ev, LV.flat, ite_true, ite_false, exists_eq_left', exists_eq_left, keyOf, implies_true, fillC, capOf]
  refine callK_of (g_lines hS hd) ?_
  simp (disch := omega) only [made_int, ↓SXd, SXu, slBounds, ↓sop, ↓aop, ↓reduceIte, LV.cells, AOp.dst, LV.I, LV.B, LV.U, LV.S, LV.nil, Nat.reduceEqDiff, Nat.reduceAdd, Nat.reduceMul, Nat.reduceSub, Nat.reduceLeDiff, Nat.reduceBEq, Nat.reduceDiv, Nat.reduceMod, Int.reduceToNat, Int.reduceLT, Int.reduceLE, Int.reduceAdd, Int.reduceSub, Int.reduceMul, Int.reduceEq, Int.reduceNeg, reduceCtorEq, resV, resAll, ARes.ev, LV.flat, ite_true, ite_false, exists_eq_left', exists_eq_left, keyOf, implies_true, fillC, capOf]
  refine callK_of (g_list hS) ?_
  simp (disch := omega) only [↓SXd, SXu, slBounds, ↓sop, ↓aop, ↓reduceIte, LV.cells, AOp.dst, LV.I, LV.B, LV.U, LV.S, LV.nil, Nat.reduceEqDiff, Nat.reduceAdd, Nat.reduceMul, Nat.reduceSub, Nat.reduceLeDiff, Nat.reduceBEq, Nat.reduceDiv, Nat.reduceMod, Int.reduceToNat, Int.reduceLT, Int.reduceLE, Int.reduceAdd, Int.reduceSub, Int.reduceMul, Int.reduceEq, Int.reduceNeg, reduceCtorEq, resV, resAll, ARes.ev, LV.flat, ite_true, ite_false, exists_eq_left', exists_eq_left, keyOf, implies_true, fillC, capOf]
  have hz : ∀ j, 0 ≤ (List.replicate (linesOf x y z d).toNat (0 : Int)).getD j 0 ∧ (List.replicate (linesOf x y z d).toNat (0 : Int)).getD j 0 ≤ 0 := fun j => by
    rw [List.getD_eq_getElem?_getD, List.getElem?_replicate]; split <;> simp
  have hin : ∀ c ∈ pick x y z p, c.inBox x y z := fun c hc => ((mem_pick hS).1 hc).1
  have hvl := viewL_len (x := x) (y := y) (z := z) (d := d) (cs := pick x y z p)
  refine ev_loop (fun m fr M' => ∃ i : Nat, i + m = (pick x y z p).length ∧ Pre M M' ∧ Live M' M.length (.row [.I x, .I y, .I z] true 0) ∧ Live M' (M.length + 1) (.row (intL (((pick x y z p).take i).foldl (viewStep y z d) (List.replicate (linesOf x y z d).toNat 0))) true 1) ∧ Live M' (M.length + 2) (.row (triL (pick x y z p)) true 3) ∧
    fr 2 = .I d ∧ fr 3 = .ptr M.length 0 ∧ fr 7 = .ref (M.length + 1) 0 (linesOf x y z d).toNat ∧ fr 16 = .ref (M.length + 2) 0 (pick x y z p).length ∧ fr 17 = .I (pick x y z p).length ∧ fr 18 = .I i) (pick x y z p).length
    ⟨0, by omega, Pre.app _ _, Live.new, Live.newj rfl, Live.newj rfl, rfl, rfl, rfl, rfl, rfl, rfl⟩ ?_
  rintro m fr M' ⟨i, hi, hpre, b3, bo, bl, f2, f3, f7, f16, f17, f18⟩
  simp (disch := omega) only [f2, f3, f7, f16, f17, f18, ↓SXd, SXu, slBounds, ↓sop, ↓aop, ↓reduceIte, LV.cells, AOp.dst, LV.I, LV.B, LV.U, LV.S, LV.nil, Nat.reduceEqDiff, Nat.reduceAdd, Nat.reduceMul, Nat.reduceSub, Nat.reduceLeDiff, Nat.reduceBEq, Nat.reduceDiv, Nat.reduceMod, Int.reduceToNat, Int.reduceLT, Int.reduceLE, Int.reduceAdd, Int.reduceSub, Int.reduceMul, Int.reduceEq, Int.reduceNeg, reduceCtorEq, resV, resAll, ARes.ev, LV.flat, ite_true, ite_false, exists_eq_left', exists_eq_left, keyOf, implies_true, fillC, capOf]
  refine condC_dec (fun hlt => ?_) (fun hlt => ?_)
  · have hil : i < (pick x y z p).length := by omega
    have hg := bl.tri0 hil
    have hc := hin _ (getD_mem' (d := default) hil)
    have htf := take_foldl (y := y) (z := z) (d := d) (v := List.replicate (linesOf x y z d).toNat 0) hil
    have hbd := fold_bound (y := y) (z := z) (d := d) (cs := (pick x y z p).take i) hz
    have hfl := foldl_len (y := y) (z := z) (d := d) (cs := (pick x y z p).take i) (v := List.replicate (linesOf x y z d).toNat 0)
    have htl := List.length_take_le i (pick x y z p)
    rw [List.length_replicate] at hfl
    generalize (pick x y z p).getD i default = c at hg hc htf
    generalize ((pick x y z p).take i).foldl (viewStep y z d) (List.replicate (linesOf x y z d).toNat 0) = v at bo htf hbd hfl
    obtain ⟨l1, l2⟩ := lineOf_in hS hc hd
    obtain ⟨v1, v2⟩ := hbd (lineOf y z c d).toNat
    have hlt2 : (lineOf y z c d).toNat < v.length := by omega
    have hlm := bl.lt
    have hcell := (Live.app (L := [some (.row [.I c.a, .I c.b, .I c.c] true 0)]) bo).cell (o := (lineOf y z c d).toNat)
    rw [intL_get hlt2] at hcell
    simp (disch := omega) only [f2, f3, f7, f16, f17, f18, hg, Cell.row, splice, b3.app.cells, ↓SXd, SXu, slBounds, ↓sop, ↓aop, ↓reduceIte, LV.cells, AOp.dst, LV.I, LV.B, LV.U, LV.S, LV.nil, Nat.reduceEqDiff, Nat.reduceAdd, Nat.reduceMul, Nat.reduceSub, Nat.reduceLeDiff, Nat.reduceBEq, Nat.reduceDiv, Nat.reduceMod, Int.reduceToNat, Int.reduceLT, Int.reduceLE, Int.reduceAdd, Int.reduceSub, Int.reduceMul, Int.reduceEq, Int.reduceNeg, reduceCtorEq, resV, resAll, ARes.ev, LV.flat, ite_true, ite_false, exists_eq_left', exists_eq_left, keyOf, implies_true, fillC, capOf]
    refine callK_of (g_line hS hc hd) ?_
    simp (disch := omega) only [f2, f3, f7, f16, f17, f18, hcell, Nat.mul_one, Nat.zero_add, ↓SXd, SXu, slBounds, ↓sop, ↓aop, ↓reduceIte, LV.cells, AOp.dst, LV.I, LV.B, LV.U, LV.S, LV.nil, Nat.reduceEqDiff, Nat.reduceAdd, Nat.reduceMul, Nat.reduceSub, Nat.reduceLeDiff, Nat.reduceBEq, Nat.reduceDiv, Nat.reduceMod, Int.reduceToNat, Int.reduceLT, Int.reduceLE, Int.reduceAdd, Int.reduceSub, Int.reduceMul, Int.reduceEq, Int.reduceNeg, reduceCtorEq, resV, resAll, ARes.ev, LV.flat, ite_true, ite_false, exists_eq_left', exists_eq_left, keyOf, implies_true, fillC, capOf]
    refine memK_int (Live.app bo) hlt2 fun N k1 k2 k3 => ?_
    simp (disch := omega) only [f2, f3, f7, f16, f17, f18, ↓SXd, SXu, slBounds, ↓sop, ↓aop, ↓reduceIte, LV.cells, AOp.dst, LV.I, LV.B, LV.U, LV.S, LV.nil, Nat.reduceEqDiff, Nat.reduceAdd, Nat.reduceMul, Nat.reduceSub, Nat.reduceLeDiff, Nat.reduceBEq, Nat.reduceDiv, Nat.reduceMod, Int.reduceToNat, Int.reduceLT, Int.reduceLE, Int.reduceAdd, Int.reduceSub, Int.reduceMul, Int.reduceEq, Int.reduceNeg, reduceCtorEq, resV, resAll, ARes.ev, LV.flat, ite_true, ite_false, exists_eq_left', exists_eq_left, keyOf, implies_true, fillC, capOf]
    have hp1 : Pre M' (M' ++ [some (.row [.I c.a, .I c.b, .I c.c] true 0)]) := Pre.app _ _
    rw [show v.set (lineOf y z c d).toNat (v.getD (lineOf y z c d).toNat 0 + 1) = viewStep y z d v c from rfl, ← htf] at k2
    exact ⟨m - 1, by omega, i + 1, by omega, pre_step (hpre.trans hp1) (by omega) (j := 0) k1 k3, live_step b3.app (by omega) k3, k2, live_step bl.app (by omega) k3, f2, f3, f7, f16, f17, eqI (natI _)⟩
  · simp (disch := omega) only [f2, f3, f7, f16, f17, f18, ↓SXd, SXu, slBounds, ↓sop, ↓aop, ↓reduceIte, LV.cells, AOp.dst, LV.I, LV.B, LV.U, LV.S, LV.nil, Nat.reduceEqDiff, Nat.reduceAdd, Nat.reduceMul, Nat.reduceSub, Nat.reduceLeDiff, Nat.reduceBEq, Nat.reduceDiv, Nat.reduceMod, Int.reduceToNat, Int.reduceLT, Int.reduceLE, Int.reduceAdd, Int.reduceSub, Int.reduceMul, Int.reduceEq, Int.reduceNeg, reduceCtorEq, resV, resAll, ARes.ev, LV.flat, ite_true, ite_false, exists_eq_left', exists_eq_left, keyOf, implies_true, fillC, capOf]
    have : i = (pick x y z p).length := by omega
    subst this
    rw [List.take_length] at bo
    change Live M' (M.length + 1) (.row (intL (viewL x y z d (pick x y z p))) true 1) at bo
    exact cmp_keepL hpre (by omega) bo (intL_lo _) (by simp [rn, rn0, rn1, hvl])
end Go.Ab

/- The abstract code of some functions (written by a program of mine from the translation, by way of prepF). -/
namespace Go.Ab.C
open Go.Ab
def spec_l8Made : AFn :=
  ⟨2, 71, [.cellN 4 4],
    .seq (.ops [(none, .box 2 (.t 0)),
       (none, .box 3 (.t 1)),
       (none, .alloc 4 [(.I 0), (.I 0), (.I 0), .nil])])
    (.seq (.draw [⟨(none, .loadN 9 4 (.t 2)), [], []⟩,
        ⟨(none, .fieldAddr 10 (.t 3) 0), [], []⟩,
        ⟨(none, .idxA 11 3 1 (.t 10) (.c (.I 0))), [], []⟩,
        ⟨(none, .load1 12 (.t 11)), [], []⟩,
        ⟨(none, .loadN 14 4 (.t 2)), [], []⟩,
        ⟨(none, .fieldAddr 15 (.t 3) 0), [], []⟩,
        ⟨(none, .idxA 16 3 1 (.t 15) (.c (.I 1))), [], []⟩,
        ⟨(none, .load1 17 (.t 16)), [], []⟩,
        ⟨(none, .loadN 19 4 (.t 2)), [], []⟩,
        ⟨(none, .fieldAddr 20 (.t 3) 0), [], []⟩,
        ⟨(none, .idxA 21 3 1 (.t 20) (.c (.I 2))), [], []⟩,
        ⟨(none, .load1 22 (.t 21)), [], []⟩,
        ⟨(none, .alloc 5 [(.I 0), (.I 0), (.I 0), .nil]), [], []⟩,
        ⟨(none, .call (some 13) F.spec_l2Long [(.t 9), (.t 12)]), [12], [4, 5, 6, 7, 8, 9, 10, 11]⟩,
        ⟨(none, .call (some 18) F.spec_l2Long [(.t 14), (.t 17)]), [12], [8, 9, 10, 11]⟩,
        ⟨(none, .call (some 23) F.spec_l2Long [(.t 19), (.t 22)]), [12], []⟩,
        ⟨(none, .call (some 24) F.spec_l2Empty [(.t 13), (.t 18), (.t 23)]), [12], []⟩,
        ⟨(none, .store 4 (.t 5) (.t 24)), [], []⟩])
     (.seq (.seq (.ops [(none, .mv 6 (.c (.I 0)))])
       (.block 0 (.loop (.seq (.seq (.ops [(none, .mv 25 (.t 6)),
              (none, .fieldAddr 26 (.t 2) 3),
              (none, .load1 27 (.t 26)),
              (none, .len 28 (.t 27)),
              (none, .bin 29 .lss (.t 25) (.t 28))])
           (.cond (.t 29) (.skip)
            (.exit 0)))
          (.seq (.block 1 (.seq (.ops [(none, .build 32 [(.I 0), (.I 0), (.I 0)] []),
                (none, .alloc 7 [(.I 0), (.I 0), (.I 0)]),
                (none, .store 3 (.t 7) (.t 32))])
             (.seq (.seq (.ops [(none, .mv 8 (.c (.I 0)))])
               (.block 2 (.loop (.seq (.seq (.ops [(none, .mv 33 (.t 8)),
                      (none, .bin 34 .lss (.t 33) (.c (.I 3)))])
                   (.cond (.t 34) (.skip)
                    (.exit 2)))
                  (.seq (.block 3 (.seq (.draw [⟨(none, .mv 37 (.t 8)), [], []⟩,
                        ⟨(none, .fieldAddr 38 (.t 2) 3), [], []⟩,
                        ⟨(none, .load1 39 (.t 38)), [], []⟩,
                        ⟨(none, .mv 40 (.t 6)), [], []⟩,
                        ⟨(none, .mv 41 (.t 8)), [], []⟩,
                        ⟨(none, .fieldAddr 42 (.t 3) 0), [], []⟩,
                        ⟨(none, .idxA 43 3 1 (.t 42) (.t 41)), [], []⟩,
                        ⟨(none, .load1 44 (.t 43)), [], []⟩,
                        ⟨(none, .idxS 45 3 (.t 39) (.t 40)), [], []⟩,
                        ⟨(none, .idxA 46 3 1 (.t 45) (.t 44)), [], []⟩,
                        ⟨(none, .load1 47 (.t 46)), [], []⟩,
                        ⟨(none, .idxA 48 3 1 (.t 7) (.t 37)), [], []⟩,
                        ⟨(none, .store 1 (.t 48) (.t 47)), [], []⟩])
                     (.seq (.ops [(none, .mv 49 (.t 8)),
                         (none, .fieldAddr 50 (.t 3) 3),
                         (none, .idxA 51 3 1 (.t 50) (.t 49)),
                         (none, .load1 52 (.t 51)),
                         (none, .bin 53 .eql (.t 52) (.c (.I 1)))])
                      (.cond (.t 53) (.draw [⟨(none, .mv 54 (.t 8)), [], []⟩,
                          ⟨(none, .loadN 55 4 (.t 2)), [], []⟩,
                          ⟨(none, .mv 56 (.t 8)), [], []⟩,
                          ⟨(none, .fieldAddr 57 (.t 3) 0), [], []⟩,
                          ⟨(none, .idxA 58 3 1 (.t 57) (.t 56)), [], []⟩,
                          ⟨(none, .load1 59 (.t 58)), [], []⟩,
                          ⟨(none, .mv 62 (.t 8)), [], []⟩,
                          ⟨(none, .idxA 63 3 1 (.t 7) (.t 62)), [], []⟩,
                          ⟨(none, .load1 64 (.t 63)), [], []⟩,
                          ⟨(none, .call (some 60) F.spec_l2Long [(.t 55), (.t 59)]), [], [0, 6, 7, 8]⟩,
                          ⟨(none, .bin 61 .sub (.t 60) (.c (.I 1))), [], []⟩,
                          ⟨(none, .bin 65 .sub (.t 61) (.t 64)), [], []⟩,
                          ⟨(none, .idxA 66 3 1 (.t 7) (.t 54)), [], []⟩,
                          ⟨(none, .store 1 (.t 66) (.t 65)), [], []⟩])
                       (.skip)))))
                   (.ops [(none, .mv 35 (.t 8)),
                      (none, .bin 36 .add (.t 35) (.c (.I 1))),
                      (none, .mv 8 (.t 36))]))))))
              (.ops [(none, .loadN 67 4 (.t 5)),
                 (none, .loadN 68 3 (.t 7)),
                 (none, .call (some 69) F.spec_l2With [(.t 67), (.t 68)]),
                 (none, .store 4 (.t 5) (.t 69))]))))
           (.ops [(none, .mv 30 (.t 6)),
              (none, .bin 31 .add (.t 30) (.c (.I 1))),
              (none, .mv 6 (.t 31))]))))))
      (.seq (.ops [(none, .loadN 70 4 (.t 5)),
          (none, .store 4 (.t 4) (.t 70))])
       (.ret))))⟩
end Go.Ab.C

/- That the program has this code. -/
namespace Go.Ab.K
open Go Go.Ab
theorem spec_l8Made : prepF Go.Proofs.Try.prog F.spec_l8Made = some C.spec_l8Made := by kernel_rfl
end Go.Ab.K

/- The abstract code of some functions (written by a program of mine from the translation, by way of prepF). -/
namespace Go.Ab.C
open Go.Ab
def spec_l8Odd : AFn :=
  ⟨1, 26, [.tmp 2],
    .seq (.ops [(none, .box 1 (.t 0)),
       (none, .mv 2 (.c (.I 0)))])
    (.seq (.ops [(none, .mv 3 (.c (.I 0)))])
     (.seq (.seq (.ops [(none, .mv 4 (.c (.I 0)))])
       (.block 0 (.loop (.seq (.seq (.ops [(none, .mv 6 (.t 4)),
              (none, .bin 7 .lss (.t 6) (.c (.I 3)))])
           (.cond (.t 7) (.skip)
            (.exit 0)))
          (.seq (.block 1 (.seq (.ops [(none, .mv 5 (.c (.I 0)))])
             (.block 2 (.loop (.seq (.seq (.ops [(none, .mv 10 (.t 5)),
                    (none, .mv 11 (.t 4)),
                    (none, .bin 12 .lss (.t 10) (.t 11))])
                 (.cond (.t 12) (.skip)
                  (.exit 2)))
                (.seq (.block 3 (.seq (.draw [⟨(none, .mv 15 (.t 5)), [], []⟩,
                      ⟨(none, .idxA 16 3 1 (.t 1) (.t 15)), [], []⟩,
                      ⟨(none, .load1 17 (.t 16)), [], []⟩,
                      ⟨(none, .mv 18 (.t 4)), [], []⟩,
                      ⟨(none, .idxA 19 3 1 (.t 1) (.t 18)), [], []⟩,
                      ⟨(none, .load1 20 (.t 19)), [], []⟩,
                      ⟨(none, .bin 21 .gtr (.t 17) (.t 20)), [], []⟩])
                   (.cond (.t 21) (.ops [(none, .mv 22 (.t 3)),
                       (none, .bin 23 .add (.t 22) (.c (.I 1))),
                       (none, .mv 3 (.t 23))])
                    (.skip))))
                 (.ops [(none, .mv 13 (.t 5)),
                    (none, .bin 14 .add (.t 13) (.c (.I 1))),
                    (none, .mv 5 (.t 14))])))))))
           (.ops [(none, .mv 8 (.t 4)),
              (none, .bin 9 .add (.t 8) (.c (.I 1))),
              (none, .mv 4 (.t 9))]))))))
      (.seq (.ops [(none, .mv 24 (.t 3)),
          (none, .bin 25 .rem (.t 24) (.c (.I 2))),
          (none, .mv 2 (.t 25))])
       (.ret))))⟩
def spec_l8Turns : AFn :=
  ⟨0, 62, [.tmp 0],
    .seq (.ops [(none, .mv 0 (.c .nil))])
    (.seq (.ops [(none, .buildSl 6 0 6 [] []),
        (none, .mv 1 (.t 6))])
     (.seq (.seq (.ops [(none, .mv 2 (.c (.I 0)))])
       (.block 0 (.loop (.seq (.seq (.ops [(none, .mv 7 (.t 2)),
              (none, .bin 8 .lss (.t 7) (.c (.I 3)))])
           (.cond (.t 8) (.skip)
            (.exit 0)))
          (.seq (.block 1 (.seq (.ops [(none, .mv 3 (.c (.I 0)))])
             (.block 2 (.loop (.seq (.seq (.ops [(none, .mv 11 (.t 3)),
                    (none, .bin 12 .lss (.t 11) (.c (.I 3)))])
                 (.cond (.t 12) (.skip)
                  (.exit 2)))
                (.seq (.block 3 (.seq (.ops [(none, .mv 4 (.c (.I 0)))])
                   (.block 4 (.loop (.seq (.seq (.ops [(none, .mv 15 (.t 4)),
                          (none, .bin 16 .lss (.t 15) (.c (.I 8))),
                          (none, .mv 17 (.t 16)),
                          (some (17, true), .mv 18 (.t 2)),
                          (some (17, true), .mv 19 (.t 3)),
                          (some (17, true), .bin 20 .neq (.t 18) (.t 19)),
                          (none, .pick 21 (.t 17) (.t 20) (.c (.B false)))])
                       (.cond (.t 21) (.skip)
                        (.exit 4)))
                      (.seq (.block 5 (.seq (.ops [(none, .mv 24 (.t 2)),
                            (none, .mv 25 (.t 3)),
                            (none, .mv 26 (.t 2)),
                            (none, .bin 27 .sub (.c (.I 3)) (.t 26)),
                            (none, .mv 28 (.t 3)),
                            (none, .bin 29 .sub (.t 27) (.t 28)),
                            (none, .build 30 [(.I 0), (.I 0), (.I 0)] [(0, 1, (.t 24)), (1, 1, (.t 25)), (2, 1, (.t 29))]),
                            (none, .mv 31 (.t 4)),
                            (none, .bin 32 .shr (.t 31) (.c (.U 2))),
                            (none, .bin 33 .and (.t 32) (.c (.I 1))),
                            (none, .mv 34 (.t 4)),
                            (none, .bin 35 .shr (.t 34) (.c (.U 1))),
                            (none, .bin 36 .and (.t 35) (.c (.I 1))),
                            (none, .mv 37 (.t 4)),
                            (none, .bin 38 .and (.t 37) (.c (.I 1))),
                            (none, .build 39 [(.I 0), (.I 0), (.I 0)] [(0, 1, (.t 33)), (1, 1, (.t 36)), (2, 1, (.t 38))]),
                            (none, .build 40 [(.I 0), (.I 0), (.I 0), (.I 0), (.I 0), (.I 0)] [(0, 3, (.t 30)), (3, 3, (.t 39))]),
                            (none, .alloc 5 [(.I 0), (.I 0), (.I 0), (.I 0), (.I 0), (.I 0)]),
                            (none, .store 6 (.t 5) (.t 40))])
                         (.seq (.draw [⟨(none, .fieldAddr 41 (.t 5) 0), [], []⟩,
                             ⟨(none, .loadN 42 3 (.t 41)), [], []⟩,
                             ⟨(none, .fieldAddr 44 (.t 5) 3), [], []⟩,
                             ⟨(none, .idxA 45 3 1 (.t 44) (.c (.I 0))), [], []⟩,
                             ⟨(none, .load1 46 (.t 45)), [], []⟩,
                             ⟨(none, .fieldAddr 47 (.t 5) 3), [], []⟩,
                             ⟨(none, .idxA 48 3 1 (.t 47) (.c (.I 1))), [], []⟩,
                             ⟨(none, .load1 49 (.t 48)), [], []⟩,
                             ⟨(none, .bin 50 .add (.t 46) (.t 49)), [], []⟩,
                             ⟨(none, .fieldAddr 51 (.t 5) 3), [], []⟩,
                             ⟨(none, .idxA 52 3 1 (.t 51) (.c (.I 2))), [], []⟩,
                             ⟨(none, .load1 53 (.t 52)), [], []⟩,
                             ⟨(none, .bin 54 .add (.t 50) (.t 53)), [], []⟩,
                             ⟨(none, .bin 55 .rem (.t 54) (.c (.I 2))), [], []⟩,
                             ⟨(none, .call (some 43) F.spec_l8Odd [(.t 42)]), [], [2, 3, 4, 5, 6, 7, 8, 9, 10, 11, 12, 13]⟩,
                             ⟨(none, .bin 56 .eql (.t 43) (.t 55)), [], []⟩])
                          (.cond (.t 56) (.ops [(none, .mv 57 (.t 1)),
                              (none, .loadN 58 6 (.t 5)),
                              (none, .buildSl 59 1 6 [(.I 0), (.I 0), (.I 0), (.I 0), (.I 0), (.I 0)] [(0, 6, (.t 58))]),
                              (none, .append 60 6 48 (.t 57) (.t 59)),
                              (none, .mv 1 (.t 60))])
                           (.skip)))))
                       (.ops [(none, .mv 22 (.t 4)),
                          (none, .bin 23 .add (.t 22) (.c (.I 1))),
                          (none, .mv 4 (.t 23))])))))))
                 (.ops [(none, .mv 13 (.t 3)),
                    (none, .bin 14 .add (.t 13) (.c (.I 1))),
                    (none, .mv 3 (.t 14))])))))))
           (.ops [(none, .mv 9 (.t 2)),
              (none, .bin 10 .add (.t 9) (.c (.I 1))),
              (none, .mv 2 (.t 10))]))))))
      (.seq (.ops [(none, .mv 61 (.t 1)),
          (none, .mv 0 (.t 61))])
       (.ret))))⟩
def spec_l2Long : AFn :=
  ⟨2, 14, [.tmp 4],
    .seq (.ops [(none, .box 2 (.t 0)),
       (none, .mv 4 (.c (.I 0)))])
    (.seq (.ops [(none, .fieldAddr 5 (.t 2) 0),
        (none, .load1 6 (.t 5)),
        (none, .fieldAddr 7 (.t 2) 1),
        (none, .load1 8 (.t 7)),
        (none, .fieldAddr 9 (.t 2) 2),
        (none, .load1 10 (.t 9)),
        (none, .build 11 [(.I 0), (.I 0), (.I 0)] [(0, 1, (.t 6)), (1, 1, (.t 8)), (2, 1, (.t 10))]),
        (none, .mv 12 (.t 1)),
        (none, .index 13 3 1 false (.t 11) (.t 12)),
        (none, .mv 4 (.t 13))])
     (.ret))⟩
end Go.Ab.C

/- That the program has this code. -/
namespace Go.Ab.K
open Go Go.Ab
theorem spec_l8Odd : prepF Go.Proofs.Try.prog F.spec_l8Odd = some C.spec_l8Odd := by kernel_rfl
theorem spec_l8Turns : prepF Go.Proofs.Try.prog F.spec_l8Turns = some C.spec_l8Turns := by kernel_rfl
theorem spec_l2Long : prepF Go.Proofs.Try.prog F.spec_l2Long = some C.spec_l2Long := by kernel_rfl
end Go.Ab.K

/- What laws are told of heaps as results. -/
namespace Go.Ab
open Go

structure Hp where
  x : Int
  y : Int
  z : Int
  cs : List Cell
def Hp.none : Hp := ⟨0, 0, 0, []⟩
abbrev Hp.row (r : Hp) (w : LV) : Blk := .row [.I r.x, .I r.y, .I r.z, w] true 0
/-- A heap, or the one of all zeros, what else there is, and whether there is one. -/
def HeapRes (M : Mem) (r : Option Hp) (ext : List LV) (v : LV) (N : Mem) : Prop :=
  ∃ w, v = .tup (.agg [.I (r.getD Hp.none).x, .I (r.getD Hp.none).y, .I (r.getD Hp.none).z, w] :: (ext ++ [.B r.isSome])) ∧ SlC N w (r.getD Hp.none).cs ∧ Newer M w ∧ Pre M N
theorem Older.off {M : Mem} {v : LV} {u : Nat} (h : Older M v) (hu : M.length ≤ u) : Off v u := by
  cases v with
  | ref t o n => have := h t o n rfl; show u ≠ t; omega
  | _ => trivial
end Go.Ab

/- Plain words: the 24 turns of a box. -/
namespace Go.Ab
open Go

def Cell.at (c : Cell) (d : Int) : Int := if d = 0 then c.a else if d = 1 then c.b else c.c
def Dir (d : Int) : Prop := d = 0 ∨ d = 1 ∨ d = 2
/-- How many pairs are out of order, modulo 2. -/
def oddOf (c : Cell) : Int := ((if c.a > c.b then 1 else 0) + (if c.a > c.c then 1 else 0) + (if c.b > c.c then 1 else 0)) % 2
structure Turn where
  fr : Cell
  fl : Cell
deriving DecidableEq
def Turn.row (t : Turn) : List LV := t.fr.row ++ t.fl.row
def sixL (l : List Turn) : List LV := l.flatMap Turn.row
/-- The turn that the n-th attempt finds. -/
def turnAt (n : Nat) : Option Turn :=
  if n / 24 ≠ n / 8 % 3 ∧ oddOf ⟨n / 24, n / 8 % 3, 3 - n / 24 - n / 8 % 3⟩ = (n % 8 / 4 + n % 8 / 2 % 2 + n % 8 % 2) % 2 then
    some ⟨⟨n / 24, n / 8 % 3, 3 - n / 24 - n / 8 % 3⟩, ⟨n % 8 / 4, n % 8 / 2 % 2, n % 8 % 2⟩⟩ else none
def turnsU (n : Nat) : List Turn := (List.range n).filterMap turnAt
theorem turnsU_succ {n : Nat} : turnsU (n + 1) = turnsU n ++ (turnAt n).toList := by
  unfold turnsU
  rw [List.range_succ, List.filterMap_append]
  cases h : turnAt n <;> simp [h]
def turns : List Turn := turnsU 72
theorem turns_len : turns.length = 24 := by decide +kernel
theorem turnsU_skip {a : Nat} (h : a < 3) : turnsU ((a * 3 + a) * 8) = turnsU ((a * 3 + (a + 1)) * 8) := by
  rcases (show a = 0 ∨ a = 1 ∨ a = 2 by omega) with rfl | rfl | rfl <;> decide +kernel
theorem turnsU_len {n : Nat} : (turnsU n).length ≤ n := by
  unfold turnsU
  have := List.length_filterMap_le turnAt (List.range n)
  simpa using this
theorem sixL_append (l m : List Turn) : sixL (l ++ m) = sixL l ++ sixL m := by simp [sixL]
theorem sixL_len (l : List Turn) : (sixL l).length = l.length * 6 := by
  induction l with
  | nil => rfl
  | cons t l ih => rw [show sixL (t :: l) = t.row ++ sixL l from rfl, List.length_append, ih, List.length_cons]; simp [Turn.row, Cell.row]; omega
theorem sixL_at {l : List Turn} : ∀ {k : Nat}, (hk : k < l.length) → ((sixL l).drop (k * 6)).take 6 = l[k].row := by
  induction l with
  | nil => intro k hk; simp at hk
  | cons t l ih =>
    intro k hk
    have e : sixL (t :: l) = t.row ++ sixL l := rfl
    have hr : t.row.length = 6 := rfl
    cases k with
    | zero => rw [e, Nat.zero_mul, List.drop_zero, List.take_append_of_le_length (by omega), List.take_of_length_le (by omega)]; rfl
    | succ k =>
      rw [e, List.drop_append, List.drop_eq_nil_of_le (by omega), List.nil_append, hr, show (k + 1) * 6 - 6 = k * 6 by omega, ih (by simpa using hk)]
      rfl

def sideOf (x y z d : Int) : Int := if d = 0 then x else if d = 1 then y else z
/-- A coordinate of a cell behind a turn: taken from direction s, mirrored or not. -/
def turnC (x y z : Int) (c : Cell) (s f : Int) : Int := if f = 1 then sideOf x y z s - 1 - c.at s else c.at s
def mapT (x y z : Int) (t : Turn) (c : Cell) : Cell := ⟨turnC x y z c t.fr.a t.fl.a, turnC x y z c t.fr.b t.fl.b, turnC x y z c t.fr.c t.fl.c⟩
/-- The three directions, in any order. -/
def OkT (t : Turn) : Prop := Dir t.fr.a ∧ Dir t.fr.b ∧ Dir t.fr.c
instance (d : Int) : Decidable (Dir d) := by unfold Dir; exact inferInstance
instance (t : Turn) : Decidable (OkT t) := by unfold OkT; exact inferInstance
theorem turns_ok : ∀ t ∈ turns, OkT t := by decide +kernel
def turnHp (x y z : Int) (t : Turn) (cs : List Cell) : Hp := ⟨sideOf x y z t.fr.a, sideOf x y z t.fr.b, sideOf x y z t.fr.c, pick (sideOf x y z t.fr.a) (sideOf x y z t.fr.b) (sideOf x y z t.fr.c) fun d => decide (d ∈ cs.map (mapT x y z t))⟩
section
variable {x y z : Int}
theorem sideOf_in (hS : Sides x y z) (d : Int) : 1 ≤ sideOf x y z d ∧ sideOf x y z d ≤ 4 := by
  obtain ⟨hx, hy, hz⟩ := hS
  unfold sideOf; split <;> (try split) <;> omega
theorem at_in {c : Cell} (hc : c.inBox x y z) (d : Int) : 0 ≤ c.at d ∧ c.at d < sideOf x y z d := by
  obtain ⟨⟨_, _⟩, ⟨_, _⟩, ⟨_, _⟩⟩ := hc
  unfold Cell.at sideOf; split <;> (try split) <;> omega
theorem turnC_in {c : Cell} (hc : c.inBox x y z) (s f : Int) : 0 ≤ turnC x y z c s f ∧ turnC x y z c s f ≤ sideOf x y z s - 1 := by
  have := at_in hc s
  unfold turnC; split <;> omega
theorem mapT_in {c : Cell} (hc : c.inBox x y z) (t : Turn) : (mapT x y z t c).inBox (sideOf x y z t.fr.a) (sideOf x y z t.fr.b) (sideOf x y z t.fr.c) := ⟨turnC_in hc _ _, turnC_in hc _ _, turnC_in hc _ _⟩
theorem turnSides (hS : Sides x y z) (t : Turn) : Sides (sideOf x y z t.fr.a) (sideOf x y z t.fr.b) (sideOf x y z t.fr.c) := ⟨sideOf_in hS _, sideOf_in hS _, sideOf_in hS _⟩
end
end Go.Ab

/- Contracts: the reference's turns. -/
namespace Go.Ab
open Go
set_option linter.unusedSimpArgs false
set_option linter.unusedVariables false

theorem h_l2Long {x y z d : Int} {v : LV} {M : Mem} (hd : Dir d) : CallsTo PG F.spec_l2Long [.agg [.I x, .I y, .I z, v], .I d] M (.I (sideOf x y z d)) M := by
  refine calls_run K.spec_l2Long rfl ?_
  rcases hd with rfl | rfl | rfl
  all_goals
    simp (disch := omega) only [C.spec_l2Long, splice, ↓SXd, SXu, slBounds, ↓sop, ↓aop, ↓reduceIte, LV.cells, AOp.dst, LV.I, LV.B, LV.U, LV.S, LV.nil, Nat.reduceEqDiff, Nat.reduceAdd, Nat.reduceMul, Nat.reduceSub, Nat.reduceLeDiff, Nat.reduceBEq, Nat.reduceDiv, Nat.reduceMod, Int.reduceToNat, Int.reduceLT, Int.reduceLE, Int.reduceAdd, Int.reduceSub, Int.reduceMul, Int.reduceEq, Int.reduceNeg, reduceCtorEq, resV, resAll, ARes.ev, LV.flat, ite_true, ite_false, exists_eq_left', exists_eq_left, keyOf, implies_true, fillC, capOf]
    exact cmp_drop rfl

/-- How many pairs are out of order whose greater place is before i, or i with the other one before k. -/
def oddK (c : Cell) (i k : Nat) : Int := (if (1 < i ∨ (i = 1 ∧ 0 < k)) ∧ c.a > c.b then 1 else 0) + (if (2 < i ∨ (i = 2 ∧ 0 < k)) ∧ c.a > c.c then 1 else 0) + (if (2 < i ∨ (i = 2 ∧ 1 < k)) ∧ c.b > c.c then 1 else 0)
theorem oddK_le {c : Cell} {i k : Nat} : 0 ≤ oddK c i k ∧ oddK c i k ≤ 3 := by
  have : ∀ (p : Prop) [Decidable p], 0 ≤ (if p then (1 : Int) else 0) ∧ (if p then (1 : Int) else 0) ≤ 1 := fun p _ => by split <;> omega
  have h1 := this ((1 < i ∨ (i = 1 ∧ 0 < k)) ∧ c.a > c.b)
  have h2 := this ((2 < i ∨ (i = 2 ∧ 0 < k)) ∧ c.a > c.c)
  have h3 := this ((2 < i ∨ (i = 2 ∧ 1 < k)) ∧ c.b > c.c)
  unfold oddK
  omega
theorem Cell.row_at {c : Cell} {j : Nat} (hj : j < 3) : c.row[j]? = some (.I (c.at j)) := by
  rcases (show j = 0 ∨ j = 1 ∨ j = 2 by omega) with rfl | rfl | rfl <;> rfl
theorem h_l8Odd {c : Cell} {M : Mem} : CallsTo PG F.spec_l8Odd [.agg [.I c.a, .I c.b, .I c.c]] M (.I (oddOf c)) M := by
  refine calls_run K.spec_l8Odd rfl ?_
  simp (disch := omega) only [C.spec_l8Odd, ↓SXd, SXu, slBounds, ↓sop, ↓aop, ↓reduceIte, LV.cells, AOp.dst, LV.I, LV.B, LV.U, LV.S, LV.nil, Nat.reduceEqDiff, Nat.reduceAdd, Nat.reduceMul, Nat.reduceSub, Nat.reduceLeDiff, Nat.reduceBEq, Nat.reduceDiv, Nat.reduceMod, Int.reduceToNat, Int.reduceLT, Int.reduceLE, Int.reduceAdd, Int.reduceSub, Int.reduceMul, Int.reduceEq, Int.reduceNeg, reduceCtorEq, resV, resAll, ARes.ev, LV.flat, ite_true, ite_false, exists_eq_left', exists_eq_left, keyOf, implies_true, fillC, capOf]
  refine ev_loop (fun m fr M' => ∃ i : Nat, i + m = 3 ∧ M' = M ++ [some (.row c.row true 0)] ∧ fr 1 = .ptr M.length 0 ∧ fr 3 = .I (oddK c i 0) ∧ fr 4 = .I i) 3 ⟨0, rfl, rfl, rfl, rfl, rfl⟩ ?_
  rintro m fr M' ⟨i, hi, rfl, f1, f3, f4⟩
  simp (disch := omega) only [f1, f3, f4, ↓SXd, SXu, slBounds, ↓sop, ↓aop, ↓reduceIte, LV.cells, AOp.dst, LV.I, LV.B, LV.U, LV.S, LV.nil, Nat.reduceEqDiff, Nat.reduceAdd, Nat.reduceMul, Nat.reduceSub, Nat.reduceLeDiff, Nat.reduceBEq, Nat.reduceDiv, Nat.reduceMod, Int.reduceToNat, Int.reduceLT, Int.reduceLE, Int.reduceAdd, Int.reduceSub, Int.reduceMul, Int.reduceEq, Int.reduceNeg, reduceCtorEq, resV, resAll, ARes.ev, LV.flat, ite_true, ite_false, exists_eq_left', exists_eq_left, keyOf, implies_true, fillC, capOf]
  refine condC_dec (fun hlt => ?_) (fun hlt => ?_)
  · simp (disch := omega) only [f1, f3, f4, ↓SXd, SXu, slBounds, ↓sop, ↓aop, ↓reduceIte, LV.cells, AOp.dst, LV.I, LV.B, LV.U, LV.S, LV.nil, Nat.reduceEqDiff, Nat.reduceAdd, Nat.reduceMul, Nat.reduceSub, Nat.reduceLeDiff, Nat.reduceBEq, Nat.reduceDiv, Nat.reduceMod, Int.reduceToNat, Int.reduceLT, Int.reduceLE, Int.reduceAdd, Int.reduceSub, Int.reduceMul, Int.reduceEq, Int.reduceNeg, reduceCtorEq, resV, resAll, ARes.ev, LV.flat, ite_true, ite_false, exists_eq_left', exists_eq_left, keyOf, implies_true, fillC, capOf]
    refine ev_loop (fun m2 fr M' => ∃ k : Nat, k + m2 = i ∧ M' = M ++ [some (.row c.row true 0)] ∧ fr 1 = .ptr M.length 0 ∧ fr 3 = .I (oddK c i k) ∧ fr 4 = .I i ∧ fr 5 = .I k) i ⟨0, by omega, rfl, f1, f3, f4, rfl⟩ ?_
    clear f1 f3 f4
    rintro m2 fr M' ⟨k, hk, rfl, f1, f3, f4, f5⟩
    simp (disch := omega) only [f1, f3, f4, f5, ↓SXd, SXu, slBounds, ↓sop, ↓aop, ↓reduceIte, LV.cells, AOp.dst, LV.I, LV.B, LV.U, LV.S, LV.nil, Nat.reduceEqDiff, Nat.reduceAdd, Nat.reduceMul, Nat.reduceSub, Nat.reduceLeDiff, Nat.reduceBEq, Nat.reduceDiv, Nat.reduceMod, Int.reduceToNat, Int.reduceLT, Int.reduceLE, Int.reduceAdd, Int.reduceSub, Int.reduceMul, Int.reduceEq, Int.reduceNeg, reduceCtorEq, resV, resAll, ARes.ev, LV.flat, ite_true, ite_false, exists_eq_left', exists_eq_left, keyOf, implies_true, fillC, capOf]
    refine condC_dec (fun hlt2 => ?_) (fun hlt2 => ?_)
    · obtain ⟨hb1, hb2⟩ := oddK_le (c := c) (i := i) (k := k)
      have e1 := (Live.new (M := M) (L := []) (b := .row c.row true 0)).cell (o := k)
      have e2 := (Live.new (M := M) (L := []) (b := .row c.row true 0)).cell (o := i)
      rw [Cell.row_at (by omega)] at e1 e2
      simp (disch := omega) only [f1, f3, f4, f5, e1, e2, Nat.mul_one, ↓SXd, SXu, slBounds, ↓sop, ↓aop, ↓reduceIte, LV.cells, AOp.dst, LV.I, LV.B, LV.U, LV.S, LV.nil, Nat.reduceEqDiff, Nat.reduceAdd, Nat.reduceMul, Nat.reduceSub, Nat.reduceLeDiff, Nat.reduceBEq, Nat.reduceDiv, Nat.reduceMod, Int.reduceToNat, Int.reduceLT, Int.reduceLE, Int.reduceAdd, Int.reduceSub, Int.reduceMul, Int.reduceEq, Int.reduceNeg, reduceCtorEq, resV, resAll, ARes.ev, LV.flat, ite_true, ite_false, exists_eq_left', exists_eq_left, keyOf, implies_true, fillC, capOf]
      have hik : (i = 1 ∧ k = 0) ∨ (i = 2 ∧ k = 0) ∨ (i = 2 ∧ k = 1) := by omega
      refine condC_dec (fun hgt => ?_) (fun hgt => ?_)
      · simp (disch := omega) only [f1, f3, f4, f5, ↓SXd, SXu, slBounds, ↓sop, ↓aop, ↓reduceIte, LV.cells, AOp.dst, LV.I, LV.B, LV.U, LV.S, LV.nil, Nat.reduceEqDiff, Nat.reduceAdd, Nat.reduceMul, Nat.reduceSub, Nat.reduceLeDiff, Nat.reduceBEq, Nat.reduceDiv, Nat.reduceMod, Int.reduceToNat, Int.reduceLT, Int.reduceLE, Int.reduceAdd, Int.reduceSub, Int.reduceMul, Int.reduceEq, Int.reduceNeg, reduceCtorEq, resV, resAll, ARes.ev, LV.flat, ite_true, ite_false, exists_eq_left', exists_eq_left, keyOf, implies_true, fillC, capOf]
        refine ⟨m2 - 1, by omega, k + 1, by omega, rfl, f1, eqI ?_, f4, eqI (natI _)⟩
        rcases hik with ⟨rfl, rfl⟩ | ⟨rfl, rfl⟩ | ⟨rfl, rfl⟩ <;> simp [oddK, Cell.at] at hgt ⊢ <;> simp [hgt] <;> omega
      · simp (disch := omega) only [f1, f3, f4, f5, ↓SXd, SXu, slBounds, ↓sop, ↓aop, ↓reduceIte, LV.cells, AOp.dst, LV.I, LV.B, LV.U, LV.S, LV.nil, Nat.reduceEqDiff, Nat.reduceAdd, Nat.reduceMul, Nat.reduceSub, Nat.reduceLeDiff, Nat.reduceBEq, Nat.reduceDiv, Nat.reduceMod, Int.reduceToNat, Int.reduceLT, Int.reduceLE, Int.reduceAdd, Int.reduceSub, Int.reduceMul, Int.reduceEq, Int.reduceNeg, reduceCtorEq, resV, resAll, ARes.ev, LV.flat, ite_true, ite_false, exists_eq_left', exists_eq_left, keyOf, implies_true, fillC, capOf]
        refine ⟨m2 - 1, by omega, k + 1, by omega, rfl, f1, f3.trans (eqI ?_), f4, eqI (natI _)⟩
        rcases hik with ⟨rfl, rfl⟩ | ⟨rfl, rfl⟩ | ⟨rfl, rfl⟩ <;> simp [oddK, Cell.at] at hgt ⊢ <;> omega
    · simp (disch := omega) only [f1, f3, f4, f5, ↓SXd, SXu, slBounds, ↓sop, ↓aop, ↓reduceIte, LV.cells, AOp.dst, LV.I, LV.B, LV.U, LV.S, LV.nil, Nat.reduceEqDiff, Nat.reduceAdd, Nat.reduceMul, Nat.reduceSub, Nat.reduceLeDiff, Nat.reduceBEq, Nat.reduceDiv, Nat.reduceMod, Int.reduceToNat, Int.reduceLT, Int.reduceLE, Int.reduceAdd, Int.reduceSub, Int.reduceMul, Int.reduceEq, Int.reduceNeg, reduceCtorEq, resV, resAll, ARes.ev, LV.flat, ite_true, ite_false, exists_eq_left', exists_eq_left, keyOf, implies_true, fillC, capOf]
      have : k = i := by omega
      subst this
      refine ⟨m - 1, by omega, k + 1, by omega, rfl, f1, f3.trans (eqI ?_), eqI (natI _)⟩
      rcases (show k = 0 ∨ k = 1 ∨ k = 2 by omega) with rfl | rfl | rfl <;> simp [oddK]
  · simp (disch := omega) only [f1, f3, f4, ↓SXd, SXu, slBounds, ↓sop, ↓aop, ↓reduceIte, LV.cells, AOp.dst, LV.I, LV.B, LV.U, LV.S, LV.nil, Nat.reduceEqDiff, Nat.reduceAdd, Nat.reduceMul, Nat.reduceSub, Nat.reduceLeDiff, Nat.reduceBEq, Nat.reduceDiv, Nat.reduceMod, Int.reduceToNat, Int.reduceLT, Int.reduceLE, Int.reduceAdd, Int.reduceSub, Int.reduceMul, Int.reduceEq, Int.reduceNeg, reduceCtorEq, resV, resAll, ARes.ev, LV.flat, ite_true, ite_false, exists_eq_left', exists_eq_left, keyOf, implies_true, fillC, capOf]
    have : i = 3 := by omega
    subst this
    have hod : (oddK c 3 0).tmod 2 = oddOf c := by
      obtain ⟨hb1, hb2⟩ := oddK_le (c := c) (i := 3) (k := 0)
      rw [Int.tmod_eq_emod_of_nonneg hb1]
      simp [oddK, oddOf]
    obtain ⟨hb1, hb2⟩ := oddK_le (c := c) (i := 3) (k := 0)
    rw [hod]
    exact cmp_drop rfl

theorem sh_and {f : Nat} (hf : f < 8) : IntKind.i64.wrap (((BitVec.ofInt 64 ((f : Int).fdiv (2 ^ min 2 64)) &&& BitVec.ofInt 64 1).toNat : Nat) : Int) = ((f / 4 : Nat) : Int) ∧ IntKind.i64.wrap (((BitVec.ofInt 64 ((f : Int).fdiv (2 ^ min 1 64)) &&& BitVec.ofInt 64 1).toNat : Nat) : Int) = ((f / 2 % 2 : Nat) : Int) ∧
    IntKind.i64.wrap (((BitVec.ofInt 64 (f : Int) &&& BitVec.ofInt 64 1).toNat : Nat) : Int) = ((f % 2 : Nat) : Int) := by
  rcases (show f = 0 ∨ f = 1 ∨ f = 2 ∨ f = 3 ∨ f = 4 ∨ f = 5 ∨ f = 6 ∨ f = 7 by omega) with rfl | rfl | rfl | rfl | rfl | rfl | rfl | rfl <;> decide +kernel

theorem turnAt_at {a b f : Nat} (hb : b < 3) (hf : f < 8) : turnAt ((a * 3 + b) * 8 + f) = if a ≠ b ∧ oddOf ⟨a, b, 3 - a - b⟩ = (((f / 4 : Nat) : Int) + ((f / 2 % 2 : Nat) : Int) + ((f % 2 : Nat) : Int)) % 2 then
    some ⟨⟨a, b, 3 - a - b⟩, ⟨((f / 4 : Nat) : Int), ((f / 2 % 2 : Nat) : Int), ((f % 2 : Nat) : Int)⟩⟩ else none := by
  have e1 : ((a * 3 + b) * 8 + f) / 24 = a := by omega
  have e2 : ((a * 3 + b) * 8 + f) / 8 % 3 = b := by omega
  have e3 : ((a * 3 + b) * 8 + f) % 8 = f := by omega
  generalize (a * 3 + b) * 8 + f = n at e1 e2 e3
  have c1 : (n : Int) / 24 = a := by omega
  have c2 : (n : Int) / 8 % 3 = b := by omega
  have c3 : (n : Int) % 8 = f := by omega
  have d1 : (f : Int) / 4 = ((f / 4 : Nat) : Int) := by omega
  have d2 : (f : Int) / 2 % 2 = ((f / 2 % 2 : Nat) : Int) := by omega
  have d3 : (f : Int) % 2 = ((f % 2 : Nat) : Int) := by omega
  unfold turnAt
  simp only [e1, e2, e3, c1, c2, c3, d1, d2, d3]
theorem sixL_lo {n : Nat} (l : List Turn) : (sixL l).all (LV.lo1 n) = true := by
  rw [List.all_eq_true]
  intro v hv
  obtain ⟨t, _, ht⟩ := List.mem_flatMap.1 hv
  simp only [Turn.row, Cell.row, List.cons_append, List.nil_append, List.mem_cons, List.not_mem_nil, or_false] at ht
  rcases ht with rfl | rfl | rfl | rfl | rfl | rfl <;> rfl
theorem h_l8Turns {M : Mem} : CallsTo PG F.spec_l8Turns [] M (.ref M.length 0 turns.length) (M ++ [some (.row (sixL turns) true 6)]) := by
  refine calls_run K.spec_l8Turns rfl ?_
  simp (disch := omega) only [C.spec_l8Turns, ↓SXd, SXu, slBounds, ↓sop, ↓aop, ↓reduceIte, LV.cells, AOp.dst, LV.I, LV.B, LV.U, LV.S, LV.nil, Nat.reduceEqDiff, Nat.reduceAdd, Nat.reduceMul, Nat.reduceSub, Nat.reduceLeDiff, Nat.reduceBEq, Nat.reduceDiv, Nat.reduceMod, Int.reduceToNat, Int.reduceLT, Int.reduceLE, Int.reduceAdd, Int.reduceSub, Int.reduceMul, Int.reduceEq, Int.reduceNeg, reduceCtorEq, resV, resAll, ARes.ev, LV.flat, ite_true, ite_false, exists_eq_left', exists_eq_left, keyOf, implies_true, fillC, capOf]
  refine ev_loop (fun m fr M' => ∃ a u : Nat, a + m = 3 ∧ Pre M M' ∧ M.length ≤ u ∧ Live M' u (.row (sixL (turnsU (a * 3 * 8))) true 6) ∧ fr 1 = .ref u 0 (turnsU (a * 3 * 8)).length ∧ fr 2 = .I a) 3
    ⟨0, M.length, rfl, Pre.app _ _, by omega, Live.new, rfl, rfl⟩ ?_
  rintro m fr M' ⟨a, u, ha, hpre, hu, hout, f1, f2⟩
  simp (disch := omega) only [f1, f2, ↓SXd, SXu, slBounds, ↓sop, ↓aop, ↓reduceIte, LV.cells, AOp.dst, LV.I, LV.B, LV.U, LV.S, LV.nil, Nat.reduceEqDiff, Nat.reduceAdd, Nat.reduceMul, Nat.reduceSub, Nat.reduceLeDiff, Nat.reduceBEq, Nat.reduceDiv, Nat.reduceMod, Int.reduceToNat, Int.reduceLT, Int.reduceLE, Int.reduceAdd, Int.reduceSub, Int.reduceMul, Int.reduceEq, Int.reduceNeg, reduceCtorEq, resV, resAll, ARes.ev, LV.flat, ite_true, ite_false, exists_eq_left', exists_eq_left, keyOf, implies_true, fillC, capOf]
  refine condC_dec (fun hlt => ?_) (fun hlt => ?_)
  rotate_left
  · simp (disch := omega) only [f1, f2, ↓SXd, SXu, slBounds, ↓sop, ↓aop, ↓reduceIte, LV.cells, AOp.dst, LV.I, LV.B, LV.U, LV.S, LV.nil, Nat.reduceEqDiff, Nat.reduceAdd, Nat.reduceMul, Nat.reduceSub, Nat.reduceLeDiff, Nat.reduceBEq, Nat.reduceDiv, Nat.reduceMod, Int.reduceToNat, Int.reduceLT, Int.reduceLE, Int.reduceAdd, Int.reduceSub, Int.reduceMul, Int.reduceEq, Int.reduceNeg, reduceCtorEq, resV, resAll, ARes.ev, LV.flat, ite_true, ite_false, exists_eq_left', exists_eq_left, keyOf, implies_true, fillC, capOf]
    have : a = 3 := by omega
    subst this
    exact cmp_keepL hpre hu hout (sixL_lo _) (by simp [rn, rn0, rn1, turns])
  · simp (disch := omega) only [f1, f2, ↓SXd, SXu, slBounds, ↓sop, ↓aop, ↓reduceIte, LV.cells, AOp.dst, LV.I, LV.B, LV.U, LV.S, LV.nil, Nat.reduceEqDiff, Nat.reduceAdd, Nat.reduceMul, Nat.reduceSub, Nat.reduceLeDiff, Nat.reduceBEq, Nat.reduceDiv, Nat.reduceMod, Int.reduceToNat, Int.reduceLT, Int.reduceLE, Int.reduceAdd, Int.reduceSub, Int.reduceMul, Int.reduceEq, Int.reduceNeg, reduceCtorEq, resV, resAll, ARes.ev, LV.flat, ite_true, ite_false, exists_eq_left', exists_eq_left, keyOf, implies_true, fillC, capOf]
    refine ev_loop (fun m2 fr M' => ∃ b u : Nat, b + m2 = 3 ∧ Pre M M' ∧ M.length ≤ u ∧ Live M' u (.row (sixL (turnsU ((a * 3 + b) * 8))) true 6) ∧ fr 1 = .ref u 0 (turnsU ((a * 3 + b) * 8)).length ∧ fr 2 = .I a ∧ fr 3 = .I b) 3
      ⟨0, u, rfl, hpre, hu, hout, f1, f2, rfl⟩ ?_
    clear f1 f2 hpre hu hout
    rintro m2 fr M' ⟨b, u, hb, hpre, hu, hout, f1, f2, f3⟩
    simp (disch := omega) only [f1, f2, f3, ↓SXd, SXu, slBounds, ↓sop, ↓aop, ↓reduceIte, LV.cells, AOp.dst, LV.I, LV.B, LV.U, LV.S, LV.nil, Nat.reduceEqDiff, Nat.reduceAdd, Nat.reduceMul, Nat.reduceSub, Nat.reduceLeDiff, Nat.reduceBEq, Nat.reduceDiv, Nat.reduceMod, Int.reduceToNat, Int.reduceLT, Int.reduceLE, Int.reduceAdd, Int.reduceSub, Int.reduceMul, Int.reduceEq, Int.reduceNeg, reduceCtorEq, resV, resAll, ARes.ev, LV.flat, ite_true, ite_false, exists_eq_left', exists_eq_left, keyOf, implies_true, fillC, capOf]
    refine condC_dec (fun hlt2 => ?_) (fun hlt2 => ?_)
    rotate_left
    · simp (disch := omega) only [f1, f2, f3, ↓SXd, SXu, slBounds, ↓sop, ↓aop, ↓reduceIte, LV.cells, AOp.dst, LV.I, LV.B, LV.U, LV.S, LV.nil, Nat.reduceEqDiff, Nat.reduceAdd, Nat.reduceMul, Nat.reduceSub, Nat.reduceLeDiff, Nat.reduceBEq, Nat.reduceDiv, Nat.reduceMod, Int.reduceToNat, Int.reduceLT, Int.reduceLE, Int.reduceAdd, Int.reduceSub, Int.reduceMul, Int.reduceEq, Int.reduceNeg, reduceCtorEq, resV, resAll, ARes.ev, LV.flat, ite_true, ite_false, exists_eq_left', exists_eq_left, keyOf, implies_true, fillC, capOf]
      have : b = 3 := by omega
      subst this
      refine ⟨m - 1, by omega, a + 1, u, by omega, hpre, hu, ?_, ?_, eqI (natI _)⟩
      · rw [show (a + 1) * 3 * 8 = (a * 3 + 3) * 8 by omega]; exact hout
      · rw [show (a + 1) * 3 * 8 = (a * 3 + 3) * 8 by omega]; exact f1
    · simp (disch := omega) only [f1, f2, f3, ↓SXd, SXu, slBounds, ↓sop, ↓aop, ↓reduceIte, LV.cells, AOp.dst, LV.I, LV.B, LV.U, LV.S, LV.nil, Nat.reduceEqDiff, Nat.reduceAdd, Nat.reduceMul, Nat.reduceSub, Nat.reduceLeDiff, Nat.reduceBEq, Nat.reduceDiv, Nat.reduceMod, Int.reduceToNat, Int.reduceLT, Int.reduceLE, Int.reduceAdd, Int.reduceSub, Int.reduceMul, Int.reduceEq, Int.reduceNeg, reduceCtorEq, resV, resAll, ARes.ev, LV.flat, ite_true, ite_false, exists_eq_left', exists_eq_left, keyOf, implies_true, fillC, capOf]
      refine ev_loop (fun m3 fr M' => ∃ f u : Nat, f + m3 = 8 ∧ (a = b → f = 0) ∧ Pre M M' ∧ M.length ≤ u ∧ Live M' u (.row (sixL (turnsU ((a * 3 + b) * 8 + f))) true 6) ∧ fr 1 = .ref u 0 (turnsU ((a * 3 + b) * 8 + f)).length ∧ fr 2 = .I a ∧ fr 3 = .I b ∧ fr 4 = .I f) 8
        ⟨0, u, rfl, fun _ => rfl, hpre, hu, hout, f1, f2, f3, rfl⟩ ?_
      clear f1 f2 f3 hpre hu hout
      rintro m3 fr M' ⟨f, u, hf, hf0, hpre, hu, hout, f1, f2, f3, f4⟩
      have hul := turnsU_len (n := (a * 3 + b) * 8 + f)
      by_cases hlt3 : (f : Int) < 8
      · by_cases hab : (a : Int) = b
        · simp (disch := omega) only [f1, f2, f3, f4, hlt3, hab, ↓SXd, SXu, slBounds, ↓sop, ↓aop, ↓reduceIte, LV.cells, AOp.dst, LV.I, LV.B, LV.U, LV.S, LV.nil, Nat.reduceEqDiff, Nat.reduceAdd, Nat.reduceMul, Nat.reduceSub, Nat.reduceLeDiff, Nat.reduceBEq, Nat.reduceDiv, Nat.reduceMod, Int.reduceToNat, Int.reduceLT, Int.reduceLE, Int.reduceAdd, Int.reduceSub, Int.reduceMul, Int.reduceEq, Int.reduceNeg, reduceCtorEq, resV, resAll, ARes.ev, LV.flat, ite_true, ite_false, exists_eq_left', exists_eq_left, keyOf, implies_true, fillC, capOf]
          have hab' : a = b := by omega
          have : f = 0 := hf0 hab'
          subst this
          subst hab'
          rw [Nat.add_zero, turnsU_skip (by omega)] at hout f1
          exact ⟨m2 - 1, by omega, a + 1, u, by omega, hpre, hu, hout, f1, f2, eqI (natI _)⟩
        · obtain ⟨h1, h2, h3⟩ := sh_and (f := f) (by omega)
          have hodd := h_l8Odd (c := ⟨a, b, 3 - a - b⟩) (M := M' ++ [some (.row [.I a, .I b, .I (3 - a - b), .I ((f / 4 : Nat) : Int), .I ((f / 2 % 2 : Nat) : Int), .I ((f % 2 : Nat) : Int)] true 0)])
          simp (disch := omega) only [f1, f2, f3, f4, hlt3, hab, splice, h1, h2, h3, List.getElem?_append_left, ↓SXd, SXu, slBounds, ↓sop, ↓aop, ↓reduceIte, LV.cells, AOp.dst, LV.I, LV.B, LV.U, LV.S, LV.nil, Nat.reduceEqDiff, Nat.reduceAdd, Nat.reduceMul, Nat.reduceSub, Nat.reduceLeDiff, Nat.reduceBEq, Nat.reduceDiv, Nat.reduceMod, Int.reduceToNat, Int.reduceLT, Int.reduceLE, Int.reduceAdd, Int.reduceSub, Int.reduceMul, Int.reduceEq, Int.reduceNeg, reduceCtorEq, resV, resAll, ARes.ev, LV.flat, ite_true, ite_false, exists_eq_left', exists_eq_left, keyOf, implies_true, fillC, capOf]
          refine callK_of (hodd) ?_
          simp (disch := omega) only [f1, f2, f3, f4, splice, ↓SXd, SXu, slBounds, ↓sop, ↓aop, ↓reduceIte, LV.cells, AOp.dst, LV.I, LV.B, LV.U, LV.S, LV.nil, Nat.reduceEqDiff, Nat.reduceAdd, Nat.reduceMul, Nat.reduceSub, Nat.reduceLeDiff, Nat.reduceBEq, Nat.reduceDiv, Nat.reduceMod, Int.reduceToNat, Int.reduceLT, Int.reduceLE, Int.reduceAdd, Int.reduceSub, Int.reduceMul, Int.reduceEq, Int.reduceNeg, reduceCtorEq, resV, resAll, ARes.ev, LV.flat, ite_true, ite_false, exists_eq_left', exists_eq_left, keyOf, implies_true, fillC, capOf]
          have hta := turnAt_at (a := a) (b := b) (f := f) (by omega) (by omega)
          have hus := turnsU_succ (n := (a * 3 + b) * 8 + f)
          have htm : ((((f / 4 : Nat) : Int) + ((f / 2 % 2 : Nat) : Int) + ((f % 2 : Nat) : Int))).tmod 2 = (((f / 4 : Nat) : Int) + ((f / 2 % 2 : Nat) : Int) + ((f % 2 : Nat) : Int)) % 2 := Int.tmod_eq_emod_of_nonneg (by omega)
          rw [htm]
          have hnew := Live.new (M := M') (L := []) (b := .row [.I a, .I b, .I (3 - a - b), .I ((f / 4 : Nat) : Int), .I ((f / 2 % 2 : Nat) : Int), .I ((f % 2 : Nat) : Int)] true 0)
          have hp1 : Pre M' (M' ++ [some (.row [.I a, .I b, .I (3 - a - b), .I ((f / 4 : Nat) : Int), .I ((f / 2 % 2 : Nat) : Int), .I ((f % 2 : Nat) : Int)] true 0)]) := Pre.app _ _
          clear hodd
          generalize M' ++ [some (.row [.I a, .I b, .I (3 - a - b), .I ((f / 4 : Nat) : Int), .I ((f / 2 % 2 : Nat) : Int), .I ((f % 2 : Nat) : Int)] true 0)] = N at hnew hp1 ⊢
          have hout1 := hout.pre hp1
          have hN := hp1.1
          refine condC_dec (fun ho => ?_) (fun ho => ?_)
          · rw [if_pos ⟨by omega, ho⟩] at hta
            rw [hta] at hus
            simp (disch := omega) only [f1, f2, f3, f4, hnew.cells, splice, ↓SXd, SXu, slBounds, ↓sop, ↓aop, ↓reduceIte, LV.cells, AOp.dst, LV.I, LV.B, LV.U, LV.S, LV.nil, Nat.reduceEqDiff, Nat.reduceAdd, Nat.reduceMul, Nat.reduceSub, Nat.reduceLeDiff, Nat.reduceBEq, Nat.reduceDiv, Nat.reduceMod, Int.reduceToNat, Int.reduceLT, Int.reduceLE, Int.reduceAdd, Int.reduceSub, Int.reduceMul, Int.reduceEq, Int.reduceNeg, reduceCtorEq, resV, resAll, ARes.ev, LV.flat, ite_true, ite_false, exists_eq_left', exists_eq_left, keyOf, implies_true, fillC, capOf]
            refine appendK_1 (e := 6) (b := 48) (acc := sixL (turnsU ((a * 3 + b) * 8 + f))) (new := Turn.row ⟨⟨a, b, 3 - a - b⟩, ⟨((f / 4 : Nat) : Int), ((f / 2 % 2 : Nat) : Int), ((f % 2 : Nat) : Int)⟩⟩) hout1 (by rw [sixL_len]) rfl (by omega) (by omega) (by omega) fun N' l1 l2 l3 => ?_
            simp (disch := omega) only [f1, f2, f3, f4, ↓SXd, SXu, slBounds, ↓sop, ↓aop, ↓reduceIte, LV.cells, AOp.dst, LV.I, LV.B, LV.U, LV.S, LV.nil, Nat.reduceEqDiff, Nat.reduceAdd, Nat.reduceMul, Nat.reduceSub, Nat.reduceLeDiff, Nat.reduceBEq, Nat.reduceDiv, Nat.reduceMod, Int.reduceToNat, Int.reduceLT, Int.reduceLE, Int.reduceAdd, Int.reduceSub, Int.reduceMul, Int.reduceEq, Int.reduceNeg, reduceCtorEq, resV, resAll, ARes.ev, LV.flat, ite_true, ite_false, exists_eq_left', exists_eq_left, keyOf, implies_true, fillC, capOf]
            refine ⟨m3 - 1, by omega, f + 1, N.length + 1, by omega, fun h => absurd h (by omega), pre_step (hpre.trans hp1) hu l1 l3, ?_, ?_, ?_, f2, f3, eqI (natI _)⟩
            · have := hpre.1; omega
            · rw [← Nat.add_assoc, hus, sixL_append]
              exact l2
            · rw [← Nat.add_assoc, hus, List.length_append]; rfl
          · rw [if_neg (fun h => ho h.2)] at hta
            rw [hta] at hus
            simp only [Option.toList, List.append_nil] at hus
            simp (disch := omega) only [f1, f2, f3, f4, ↓SXd, SXu, slBounds, ↓sop, ↓aop, ↓reduceIte, LV.cells, AOp.dst, LV.I, LV.B, LV.U, LV.S, LV.nil, Nat.reduceEqDiff, Nat.reduceAdd, Nat.reduceMul, Nat.reduceSub, Nat.reduceLeDiff, Nat.reduceBEq, Nat.reduceDiv, Nat.reduceMod, Int.reduceToNat, Int.reduceLT, Int.reduceLE, Int.reduceAdd, Int.reduceSub, Int.reduceMul, Int.reduceEq, Int.reduceNeg, reduceCtorEq, resV, resAll, ARes.ev, LV.flat, ite_true, ite_false, exists_eq_left', exists_eq_left, keyOf, implies_true, fillC, capOf]
            refine ⟨m3 - 1, by omega, f + 1, u, by omega, fun h => absurd h (by omega), hpre.trans hp1, hu, ?_, ?_, f2, f3, eqI (natI _)⟩
            · rw [← Nat.add_assoc, hus]; exact hout1
            · rw [← Nat.add_assoc, hus]; exact f1
      · simp (disch := omega) only [f1, f2, f3, f4, hlt3, ↓SXd, SXu, slBounds, ↓sop, ↓aop, ↓reduceIte, LV.cells, AOp.dst, LV.I, LV.B, LV.U, LV.S, LV.nil, Nat.reduceEqDiff, Nat.reduceAdd, Nat.reduceMul, Nat.reduceSub, Nat.reduceLeDiff, Nat.reduceBEq, Nat.reduceDiv, Nat.reduceMod, Int.reduceToNat, Int.reduceLT, Int.reduceLE, Int.reduceAdd, Int.reduceSub, Int.reduceMul, Int.reduceEq, Int.reduceNeg, reduceCtorEq, resV, resAll, ARes.ev, LV.flat, ite_true, ite_false, exists_eq_left', exists_eq_left, keyOf, implies_true, fillC, capOf]
        have : f = 8 := by omega
        subst this
        rw [show (a * 3 + b) * 8 + 8 = (a * 3 + (b + 1)) * 8 by omega] at hout f1
        exact ⟨m2 - 1, by omega, b + 1, u, by omega, hpre, hu, hout, f1, f2, eqI (natI _)⟩
end Go.Ab

/- The abstract code of some functions (written by a program of mine from the translation, by way of prepF). -/
namespace Go.Ab.C
open Go.Ab
end Go.Ab.C

/- That the program has this code. -/
namespace Go.Ab.K
open Go Go.Ab
end Go.Ab.K

/- The abstract code of some functions (written by a program of mine from the translation, by way of prepF). -/
namespace Go.Ab.C
open Go.Ab
def spec_l2Own : AFn :=
  ⟨1, 9, [.cellN 2 4],
    .seq (.ops [(none, .box 1 (.t 0)),
       (none, .alloc 2 [(.I 0), (.I 0), (.I 0), .nil])])
    (.seq (.draw [⟨(none, .loadN 3 4 (.t 1)), [], []⟩,
        ⟨(none, .fieldAddr 5 (.t 1) 3), [], []⟩,
        ⟨(none, .load1 6 (.t 5)), [], []⟩,
        ⟨(none, .buildSl 4 0 3 [] []), [], []⟩,
        ⟨(none, .append 7 3 24 (.t 4) (.t 6)), [], [0]⟩,
        ⟨(none, .call (some 8) F.spec_l2Made [(.t 3), (.t 7)]), [], []⟩,
        ⟨(none, .store 4 (.t 2) (.t 8)), [], []⟩])
     (.ret))⟩
def spec_l2With : AFn :=
  ⟨2, 54, [.cellN 4 4],
    .seq (.ops [(none, .box 2 (.t 0)),
       (none, .box 3 (.t 1)),
       (none, .alloc 4 [(.I 0), (.I 0), (.I 0), .nil])])
    (.seq (.ops [(none, .mv 5 (.c (.I 0)))])
     (.seq (.block 0 (.loop (.seq (.seq (.draw [⟨(none, .mv 6 (.t 5)), [], []⟩,
             ⟨(none, .fieldAddr 7 (.t 2) 3), [], []⟩,
             ⟨(none, .load1 8 (.t 7)), [], []⟩,
             ⟨(none, .len 9 (.t 8)), [], []⟩,
             ⟨(none, .bin 10 .lss (.t 6) (.t 9)), [], []⟩,
             ⟨(none, .mv 11 (.t 10)), [], []⟩,
             ⟨(some (11, true), .fieldAddr 12 (.t 2) 3), [], []⟩,
             ⟨(some (11, true), .load1 13 (.t 12)), [], []⟩,
             ⟨(some (11, true), .mv 14 (.t 5)), [], []⟩,
             ⟨(some (11, true), .idxS 15 3 (.t 13) (.t 14)), [], []⟩,
             ⟨(some (11, true), .loadN 16 3 (.t 15)), [], []⟩,
             ⟨(some (11, true), .loadN 17 3 (.t 3)), [], []⟩,
             ⟨(some (11, true), .call (some 18) F.spec_l2Before [(.t 16), (.t 17)]), [], []⟩,
             ⟨(none, .pick 19 (.t 11) (.t 18) (.c (.B false))), [], []⟩])
          (.cond (.t 19) (.skip)
           (.exit 0)))
         (.block 1 (.ops [(none, .mv 20 (.t 5)),
             (none, .bin 21 .add (.t 20) (.c (.I 1))),
             (none, .mv 5 (.t 21))])))))
      (.seq (.seq (.draw [⟨(none, .mv 22 (.t 5)), [], []⟩,
           ⟨(none, .fieldAddr 23 (.t 2) 3), [], []⟩,
           ⟨(none, .load1 24 (.t 23)), [], []⟩,
           ⟨(none, .len 25 (.t 24)), [], []⟩,
           ⟨(none, .bin 26 .lss (.t 22) (.t 25)), [], []⟩,
           ⟨(none, .mv 27 (.t 26)), [], []⟩,
           ⟨(some (27, true), .fieldAddr 28 (.t 2) 3), [], []⟩,
           ⟨(some (27, true), .load1 29 (.t 28)), [], []⟩,
           ⟨(some (27, true), .mv 30 (.t 5)), [], []⟩,
           ⟨(some (27, true), .idxS 31 3 (.t 29) (.t 30)), [], []⟩,
           ⟨(some (27, true), .loadN 32 3 (.t 31)), [], []⟩,
           ⟨(some (27, true), .loadN 33 3 (.t 3)), [], []⟩,
           ⟨(some (27, true), .eqs 34 false 3 (.t 32) (.t 33)), [], []⟩,
           ⟨(none, .pick 35 (.t 27) (.t 34) (.c (.B false))), [], []⟩])
        (.cond (.t 35) (.seq (.ops [(none, .loadN 36 4 (.t 2)),
             (none, .call (some 37) F.spec_l2Own [(.t 36)]),
             (none, .store 4 (.t 4) (.t 37))])
          (.ret))
         (.skip)))
       (.seq (.draw [⟨(none, .loadN 38 4 (.t 2)), [], []⟩,
           ⟨(none, .fieldAddr 40 (.t 2) 3), [], []⟩,
           ⟨(none, .load1 41 (.t 40)), [], []⟩,
           ⟨(none, .mv 42 (.t 5)), [], []⟩,
           ⟨(none, .slS 43 3 (.t 41) none (some (.t 42))), [], []⟩,
           ⟨(none, .loadN 45 3 (.t 3)), [], []⟩,
           ⟨(none, .fieldAddr 48 (.t 2) 3), [], []⟩,
           ⟨(none, .load1 49 (.t 48)), [], []⟩,
           ⟨(none, .mv 50 (.t 5)), [], []⟩,
           ⟨(none, .slS 51 3 (.t 49) (some (.t 50)) none), [], []⟩,
           ⟨(none, .buildSl 39 0 3 [] []), [], []⟩,
           ⟨(none, .buildSl 46 1 3 [(.I 0), (.I 0), (.I 0)] [(0, 3, (.t 45))]), [], []⟩,
           ⟨(none, .append 44 3 24 (.t 39) (.t 43)), [11], [0, 5, 6, 7, 8, 9]⟩,
           ⟨(none, .append 47 3 24 (.t 44) (.t 46)), [], [0, 6, 7, 8, 9]⟩,
           ⟨(none, .append 52 3 24 (.t 47) (.t 51)), [], [0]⟩,
           ⟨(none, .call (some 53) F.spec_l2Made [(.t 38), (.t 52)]), [], []⟩,
           ⟨(none, .store 4 (.t 4) (.t 53)), [], []⟩])
        (.ret)))))⟩
end Go.Ab.C

/- That the program has this code. -/
namespace Go.Ab.K
open Go Go.Ab
theorem spec_l2Own : prepF Go.Proofs.Try.prog F.spec_l2Own = some C.spec_l2Own := by kernel_rfl
theorem spec_l2With : prepF Go.Proofs.Try.prog F.spec_l2With = some C.spec_l2With := by kernel_rfl
end Go.Ab.K

/- The abstract code of some functions (written by a program of mine from the translation, by way of prepF). -/
namespace Go.Ab.C
open Go.Ab
def spec_l2Empty : AFn :=
  ⟨3, 12, [.cellN 6 4],
    .seq (.ops [(none, .alloc 6 [(.I 0), (.I 0), (.I 0), .nil])])
    (.seq (.ops [(none, .mv 7 (.t 0)),
        (none, .mv 8 (.t 1)),
        (none, .mv 9 (.t 2)),
        (none, .buildSl 10 0 3 [] []),
        (none, .build 11 [(.I 0), (.I 0), (.I 0), .nil] [(0, 1, (.t 7)), (1, 1, (.t 8)), (2, 1, (.t 9)), (3, 1, (.t 10))]),
        (none, .store 4 (.t 6) (.t 11))])
     (.ret))⟩
def spec_l2All : AFn :=
  ⟨1, 34, [.tmp 2],
    .seq (.ops [(none, .box 1 (.t 0)),
       (none, .mv 2 (.c .nil))])
    (.seq (.ops [(none, .buildSl 7 0 3 [] []),
        (none, .mv 3 (.t 7))])
     (.seq (.seq (.ops [(none, .mv 4 (.c (.I 0)))])
       (.block 0 (.loop (.seq (.seq (.ops [(none, .mv 8 (.t 4)),
              (none, .fieldAddr 9 (.t 1) 0),
              (none, .load1 10 (.t 9)),
              (none, .bin 11 .lss (.t 8) (.t 10))])
           (.cond (.t 11) (.skip)
            (.exit 0)))
          (.seq (.block 1 (.seq (.ops [(none, .mv 5 (.c (.I 0)))])
             (.block 2 (.loop (.seq (.seq (.ops [(none, .mv 14 (.t 5)),
                    (none, .fieldAddr 15 (.t 1) 1),
                    (none, .load1 16 (.t 15)),
                    (none, .bin 17 .lss (.t 14) (.t 16))])
                 (.cond (.t 17) (.skip)
                  (.exit 2)))
                (.seq (.block 3 (.seq (.ops [(none, .mv 6 (.c (.I 0)))])
                   (.block 4 (.loop (.seq (.seq (.ops [(none, .mv 20 (.t 6)),
                          (none, .fieldAddr 21 (.t 1) 2),
                          (none, .load1 22 (.t 21)),
                          (none, .bin 23 .lss (.t 20) (.t 22))])
                       (.cond (.t 23) (.skip)
                        (.exit 4)))
                      (.seq (.block 5 (.ops [(none, .mv 26 (.t 3)),
                           (none, .mv 27 (.t 4)),
                           (none, .mv 28 (.t 5)),
                           (none, .mv 29 (.t 6)),
                           (none, .build 30 [(.I 0), (.I 0), (.I 0)] [(0, 1, (.t 27)), (1, 1, (.t 28)), (2, 1, (.t 29))]),
                           (none, .buildSl 31 1 3 [(.I 0), (.I 0), (.I 0)] [(0, 3, (.t 30))]),
                           (none, .append 32 3 24 (.t 26) (.t 31)),
                           (none, .mv 3 (.t 32))]))
                       (.ops [(none, .mv 24 (.t 6)),
                          (none, .bin 25 .add (.t 24) (.c (.I 1))),
                          (none, .mv 6 (.t 25))])))))))
                 (.ops [(none, .mv 18 (.t 5)),
                    (none, .bin 19 .add (.t 18) (.c (.I 1))),
                    (none, .mv 5 (.t 19))])))))))
           (.ops [(none, .mv 12 (.t 4)),
              (none, .bin 13 .add (.t 12) (.c (.I 1))),
              (none, .mv 4 (.t 13))]))))))
      (.seq (.ops [(none, .mv 33 (.t 3)),
          (none, .mv 2 (.t 33))])
       (.ret))))⟩
def spec_l2Made : AFn :=
  ⟨2, 13, [.cellN 4 4],
    .seq (.ops [(none, .box 2 (.t 0)),
       (none, .alloc 4 [(.I 0), (.I 0), (.I 0), .nil])])
    (.seq (.ops [(none, .fieldAddr 5 (.t 2) 0),
        (none, .load1 6 (.t 5)),
        (none, .fieldAddr 7 (.t 2) 1),
        (none, .load1 8 (.t 7)),
        (none, .fieldAddr 9 (.t 2) 2),
        (none, .load1 10 (.t 9)),
        (none, .mv 11 (.t 1)),
        (none, .build 12 [(.I 0), (.I 0), (.I 0), .nil] [(0, 1, (.t 6)), (1, 1, (.t 8)), (2, 1, (.t 10)), (3, 1, (.t 11))]),
        (none, .store 4 (.t 4) (.t 12))])
     (.ret))⟩
end Go.Ab.C

/- That the program has this code. -/
namespace Go.Ab.K
open Go Go.Ab
theorem spec_l2Empty : prepF Go.Proofs.Try.prog F.spec_l2Empty = some C.spec_l2Empty := by kernel_rfl
theorem spec_l2All : prepF Go.Proofs.Try.prog F.spec_l2All = some C.spec_l2All := by kernel_rfl
theorem spec_l2Made : prepF Go.Proofs.Try.prog F.spec_l2Made = some C.spec_l2Made := by kernel_rfl
end Go.Ab.K

/- The abstract code of some functions (written by a program of mine from the translation, by way of prepF). -/
namespace Go.Ab.C
open Go.Ab
end Go.Ab.C

/- That the program has this code. -/
namespace Go.Ab.K
open Go Go.Ab
end Go.Ab.K

/- The abstract code of some functions (written by a program of mine from the translation, by way of prepF). -/
namespace Go.Ab.C
open Go.Ab
def spec_l2Heap : AFn :=
  ⟨1, 46, [.tmp 2],
    .seq (.ops [(none, .box 1 (.t 0)),
       (none, .mv 2 (.c (.B false)))])
    (.seq (.seq (.ops [(none, .fieldAddr 4 (.t 1) 0),
         (none, .load1 5 (.t 4)),
         (none, .fieldAddr 6 (.t 1) 1),
         (none, .load1 7 (.t 6)),
         (none, .fieldAddr 8 (.t 1) 2),
         (none, .load1 9 (.t 8)),
         (none, .call (some 10) F.spec_l2Sides [(.t 5), (.t 7), (.t 9)]),
         (none, .un 11 .not (.t 10))])
      (.cond (.t 11) (.seq (.ops [(none, .mv 2 (.c (.B false)))])
        (.ret))
       (.skip)))
     (.seq (.seq (.ops [(none, .mv 3 (.c (.I 0)))])
       (.block 0 (.loop (.seq (.seq (.ops [(none, .mv 12 (.t 3)),
              (none, .fieldAddr 13 (.t 1) 3),
              (none, .load1 14 (.t 13)),
              (none, .len 15 (.t 14)),
              (none, .bin 16 .lss (.t 12) (.t 15))])
           (.cond (.t 16) (.skip)
            (.exit 0)))
          (.seq (.block 1 (.seq (.draw [⟨(none, .loadN 19 4 (.t 1)), [], []⟩,
                ⟨(none, .fieldAddr 20 (.t 1) 3), [], []⟩,
                ⟨(none, .load1 21 (.t 20)), [], []⟩,
                ⟨(none, .mv 22 (.t 3)), [], []⟩,
                ⟨(none, .idxS 23 3 (.t 21) (.t 22)), [], []⟩,
                ⟨(none, .loadN 24 3 (.t 23)), [], []⟩,
                ⟨(none, .call (some 25) F.spec_l2In [(.t 19), (.t 24)]), [], []⟩,
                ⟨(none, .un 26 .not (.t 25)), [], []⟩,
                ⟨(none, .mv 27 (.t 26)), [], []⟩,
                ⟨(some (27, false), .mv 28 (.t 3)), [], []⟩,
                ⟨(some (27, false), .bin 29 .gtr (.t 28) (.c (.I 0))), [], []⟩,
                ⟨(some (27, false), .mv 30 (.t 29)), [], []⟩,
                ⟨(some (30, true), .fieldAddr 31 (.t 1) 3), [], []⟩,
                ⟨(some (30, true), .load1 32 (.t 31)), [], []⟩,
                ⟨(some (30, true), .mv 33 (.t 3)), [], []⟩,
                ⟨(some (30, true), .bin 34 .sub (.t 33) (.c (.I 1))), [], []⟩,
                ⟨(some (30, true), .idxS 35 3 (.t 32) (.t 34)), [], []⟩,
                ⟨(some (30, true), .loadN 36 3 (.t 35)), [], []⟩,
                ⟨(some (30, true), .fieldAddr 37 (.t 1) 3), [], []⟩,
                ⟨(some (30, true), .load1 38 (.t 37)), [], []⟩,
                ⟨(some (30, true), .mv 39 (.t 3)), [], []⟩,
                ⟨(some (30, true), .idxS 40 3 (.t 38) (.t 39)), [], []⟩,
                ⟨(some (30, true), .loadN 41 3 (.t 40)), [], []⟩,
                ⟨(some (30, true), .call (some 42) F.spec_l2Before [(.t 36), (.t 41)]), [], []⟩,
                ⟨(some (30, true), .un 43 .not (.t 42)), [], []⟩,
                ⟨(some (27, false), .pick 44 (.t 30) (.t 43) (.c (.B false))), [], []⟩,
                ⟨(none, .pick 45 (.t 27) (.c (.B true)) (.t 44)), [], []⟩])
             (.cond (.t 45) (.seq (.ops [(none, .mv 2 (.c (.B false)))])
               (.ret))
              (.skip))))
           (.ops [(none, .mv 17 (.t 3)),
              (none, .bin 18 .add (.t 17) (.c (.I 1))),
              (none, .mv 3 (.t 18))]))))))
      (.seq (.ops [(none, .mv 2 (.c (.B true)))])
       (.ret))))⟩
end Go.Ab.C

/- That the program has this code. -/
namespace Go.Ab.K
open Go Go.Ab
theorem spec_l2Heap : prepF Go.Proofs.Try.prog F.spec_l2Heap = some C.spec_l2Heap := by kernel_rfl
end Go.Ab.K

/- Contracts: the reference's valid heaps, heights, columns. -/
namespace Go.Ab
open Go
set_option linter.unusedSimpArgs false
set_option linter.unusedVariables false

theorem h_l2Heap {x y z : Int} {t o : Nat} {cs : List Cell} {M : Mem} (h : Tri M t o cs) (hn : cs.length ≤ 1000000000) :
    CallsTo PG F.spec_l2Heap [.agg [.I x, .I y, .I z, .ref t o cs.length]] M (.B (decide (HeapOK x y z cs))) M := by
  refine calls_run K.spec_l2Heap rfl ?_
  simp (disch := omega) only [C.spec_l2Heap, ↓SXd, SXu, slBounds, ↓sop, ↓aop, ↓reduceIte, LV.cells, AOp.dst, LV.I, LV.B, LV.U, LV.S, LV.nil, Nat.reduceEqDiff, Nat.reduceAdd, Nat.reduceMul, Nat.reduceSub, Nat.reduceLeDiff, Nat.reduceBEq, Nat.reduceDiv, Nat.reduceMod, Int.reduceToNat, Int.reduceLT, Int.reduceLE, Int.reduceAdd, Int.reduceSub, Int.reduceMul, Int.reduceEq, Int.reduceNeg, reduceCtorEq, resV, resAll, ARes.ev, LV.flat, ite_true, ite_false, exists_eq_left', exists_eq_left, keyOf, implies_true, fillC, capOf]
  refine callK_of h_l2Sides ?_
  simp (disch := omega) only [↓SXd, SXu, slBounds, ↓sop, ↓aop, ↓reduceIte, LV.cells, AOp.dst, LV.I, LV.B, LV.U, LV.S, LV.nil, Nat.reduceEqDiff, Nat.reduceAdd, Nat.reduceMul, Nat.reduceSub, Nat.reduceLeDiff, Nat.reduceBEq, Nat.reduceDiv, Nat.reduceMod, Int.reduceToNat, Int.reduceLT, Int.reduceLE, Int.reduceAdd, Int.reduceSub, Int.reduceMul, Int.reduceEq, Int.reduceNeg, reduceCtorEq, resV, resAll, ARes.ev, LV.flat, ite_true, ite_false, exists_eq_left', exists_eq_left, keyOf, implies_true, fillC, capOf]
  by_cases hS : Sides x y z
  · simp (disch := omega) only [hS, ↓SXd, SXu, slBounds, ↓sop, ↓aop, ↓reduceIte, LV.cells, AOp.dst, LV.I, LV.B, LV.U, LV.S, LV.nil, Nat.reduceEqDiff, Nat.reduceAdd, Nat.reduceMul, Nat.reduceSub, Nat.reduceLeDiff, Nat.reduceBEq, Nat.reduceDiv, Nat.reduceMod, Int.reduceToNat, Int.reduceLT, Int.reduceLE, Int.reduceAdd, Int.reduceSub, Int.reduceMul, Int.reduceEq, Int.reduceNeg, reduceCtorEq, resV, resAll, ARes.ev, LV.flat, ite_true, ite_false, exists_eq_left', exists_eq_left, keyOf, implies_true, fillC, capOf]
    refine ev_loop (fun m fr M' => ∃ k : Nat, k + m = cs.length ∧ M' = M ++ [some (Blk.row [.I x, .I y, .I z, .ref t o cs.length] true 0)] ∧ fr 1 = .ptr M.length 0 ∧ fr 3 = .I k ∧
      ∀ j, j < k → (cs.getD j default).inBox x y z ∧ (0 < j → (cs.getD (j - 1) default).lt (cs.getD j default))) cs.length ⟨0, by omega, rfl, rfl, rfl, by omega⟩ ?_
    rintro m fr M' ⟨k, hk, rfl, h1, h3, hj⟩
    have ht := h.lt
    simp (disch := omega) only [h1, h3, ↓SXd, SXu, slBounds, ↓sop, ↓aop, ↓reduceIte, LV.cells, AOp.dst, LV.I, LV.B, LV.U, LV.S, LV.nil, Nat.reduceEqDiff, Nat.reduceAdd, Nat.reduceMul, Nat.reduceSub, Nat.reduceLeDiff, Nat.reduceBEq, Nat.reduceDiv, Nat.reduceMod, Int.reduceToNat, Int.reduceLT, Int.reduceLE, Int.reduceAdd, Int.reduceSub, Int.reduceMul, Int.reduceEq, Int.reduceNeg, reduceCtorEq, resV, resAll, ARes.ev, LV.flat, ite_true, ite_false, exists_eq_left', exists_eq_left, keyOf, implies_true, fillC, capOf]
    refine condC_dec (fun hlt => ?_) (fun hlt => ?_)
    · simp (disch := omega) only [h1, h3, getCells_app, h.get, Cell.row, ↓SXd, SXu, slBounds, ↓sop, ↓aop, ↓reduceIte, LV.cells, AOp.dst, LV.I, LV.B, LV.U, LV.S, LV.nil, Nat.reduceEqDiff, Nat.reduceAdd, Nat.reduceMul, Nat.reduceSub, Nat.reduceLeDiff, Nat.reduceBEq, Nat.reduceDiv, Nat.reduceMod, Int.reduceToNat, Int.reduceLT, Int.reduceLE, Int.reduceAdd, Int.reduceSub, Int.reduceMul, Int.reduceEq, Int.reduceNeg, reduceCtorEq, resV, resAll, ARes.ev, LV.flat, ite_true, ite_false, exists_eq_left', exists_eq_left, keyOf, implies_true, fillC, capOf]
      refine callK_of (h_l2In hS) ?_
      simp (disch := omega) only [h1, h3, getCells_app, h.get, Cell.row, cell_eta, ↓SXd, SXu, slBounds, ↓sop, ↓aop, ↓reduceIte, LV.cells, AOp.dst, LV.I, LV.B, LV.U, LV.S, LV.nil, Nat.reduceEqDiff, Nat.reduceAdd, Nat.reduceMul, Nat.reduceSub, Nat.reduceLeDiff, Nat.reduceBEq, Nat.reduceDiv, Nat.reduceMod, Int.reduceToNat, Int.reduceLT, Int.reduceLE, Int.reduceAdd, Int.reduceSub, Int.reduceMul, Int.reduceEq, Int.reduceNeg, reduceCtorEq, resV, resAll, ARes.ev, LV.flat, ite_true, ite_false, exists_eq_left', exists_eq_left, keyOf, implies_true, fillC, capOf]
      by_cases hin : (cs.getD k default).inBox x y z
      · simp (disch := omega) only [hin, h1, h3, getCells_app, h.get, Cell.row, cell_eta, ↓SXd, SXu, slBounds, ↓sop, ↓aop, ↓reduceIte, LV.cells, AOp.dst, LV.I, LV.B, LV.U, LV.S, LV.nil, Nat.reduceEqDiff, Nat.reduceAdd, Nat.reduceMul, Nat.reduceSub, Nat.reduceLeDiff, Nat.reduceBEq, Nat.reduceDiv, Nat.reduceMod, Int.reduceToNat, Int.reduceLT, Int.reduceLE, Int.reduceAdd, Int.reduceSub, Int.reduceMul, Int.reduceEq, Int.reduceNeg, reduceCtorEq, resV, resAll, ARes.ev, LV.flat, ite_true, ite_false, exists_eq_left', exists_eq_left, keyOf, implies_true, fillC, capOf]
        by_cases hk0 : k = 0
        · subst hk0
          simp (disch := omega) only [h1, h3, getCells_app, h.get, Cell.row, cell_eta, Int.natCast_zero, gt_iff_lt, Int.lt_irrefl, ↓SXd, SXu, slBounds, ↓sop, ↓aop, ↓reduceIte, LV.cells, AOp.dst, LV.I, LV.B, LV.U, LV.S, LV.nil, Nat.reduceEqDiff, Nat.reduceAdd, Nat.reduceMul, Nat.reduceSub, Nat.reduceLeDiff, Nat.reduceBEq, Nat.reduceDiv, Nat.reduceMod, Int.reduceToNat, Int.reduceLT, Int.reduceLE, Int.reduceAdd, Int.reduceSub, Int.reduceMul, Int.reduceEq, Int.reduceNeg, reduceCtorEq, resV, resAll, ARes.ev, LV.flat, ite_true, ite_false, exists_eq_left', exists_eq_left, keyOf, implies_true, fillC, capOf]
          exact ⟨m - 1, by omega, 1, by omega, rfl, h1, rfl, fun j hj1 => by
            have : j = 0 := by omega
            subst this
            exact ⟨hin, by omega⟩⟩
        · have e1 : ((k : Int) - 1).toNat = k - 1 := by omega
          have e2 : (0 : Int) < k := by omega
          simp (disch := omega) only [h1, h3, getCells_app, h.get, Cell.row, cell_eta, e1, e2, ↓SXd, SXu, slBounds, ↓sop, ↓aop, ↓reduceIte, LV.cells, AOp.dst, LV.I, LV.B, LV.U, LV.S, LV.nil, Nat.reduceEqDiff, Nat.reduceAdd, Nat.reduceMul, Nat.reduceSub, Nat.reduceLeDiff, Nat.reduceBEq, Nat.reduceDiv, Nat.reduceMod, Int.reduceToNat, Int.reduceLT, Int.reduceLE, Int.reduceAdd, Int.reduceSub, Int.reduceMul, Int.reduceEq, Int.reduceNeg, reduceCtorEq, resV, resAll, ARes.ev, LV.flat, ite_true, ite_false, exists_eq_left', exists_eq_left, keyOf, implies_true, fillC, capOf]
          refine callK_of h_l2Before ?_
          simp (disch := omega) only [h1, h3, cell_eta, ↓SXd, SXu, slBounds, ↓sop, ↓aop, ↓reduceIte, LV.cells, AOp.dst, LV.I, LV.B, LV.U, LV.S, LV.nil, Nat.reduceEqDiff, Nat.reduceAdd, Nat.reduceMul, Nat.reduceSub, Nat.reduceLeDiff, Nat.reduceBEq, Nat.reduceDiv, Nat.reduceMod, Int.reduceToNat, Int.reduceLT, Int.reduceLE, Int.reduceAdd, Int.reduceSub, Int.reduceMul, Int.reduceEq, Int.reduceNeg, reduceCtorEq, resV, resAll, ARes.ev, LV.flat, ite_true, ite_false, exists_eq_left', exists_eq_left, keyOf, implies_true, fillC, capOf]
          by_cases hb : (cs.getD (k - 1) default).lt (cs.getD k default)
          · simp (disch := omega) only [hb, h1, h3, ↓SXd, SXu, slBounds, ↓sop, ↓aop, ↓reduceIte, LV.cells, AOp.dst, LV.I, LV.B, LV.U, LV.S, LV.nil, Nat.reduceEqDiff, Nat.reduceAdd, Nat.reduceMul, Nat.reduceSub, Nat.reduceLeDiff, Nat.reduceBEq, Nat.reduceDiv, Nat.reduceMod, Int.reduceToNat, Int.reduceLT, Int.reduceLE, Int.reduceAdd, Int.reduceSub, Int.reduceMul, Int.reduceEq, Int.reduceNeg, reduceCtorEq, resV, resAll, ARes.ev, LV.flat, ite_true, ite_false, exists_eq_left', exists_eq_left, keyOf, implies_true, fillC, capOf]
            exact ⟨m - 1, by omega, k + 1, by omega, rfl, h1, eqI (natI _), fun j hj1 => by
              by_cases hjk : j = k
              · subst hjk; exact ⟨hin, fun _ => hb⟩
              · exact hj j (by omega)⟩
          · simp (disch := omega) only [hb, h1, h3, ↓SXd, SXu, slBounds, ↓sop, ↓aop, ↓reduceIte, LV.cells, AOp.dst, LV.I, LV.B, LV.U, LV.S, LV.nil, Nat.reduceEqDiff, Nat.reduceAdd, Nat.reduceMul, Nat.reduceSub, Nat.reduceLeDiff, Nat.reduceBEq, Nat.reduceDiv, Nat.reduceMod, Int.reduceToNat, Int.reduceLT, Int.reduceLE, Int.reduceAdd, Int.reduceSub, Int.reduceMul, Int.reduceEq, Int.reduceNeg, reduceCtorEq, resV, resAll, ARes.ev, LV.flat, ite_true, ite_false, exists_eq_left', exists_eq_left, keyOf, implies_true, fillC, capOf]
            exact cmp_dropF fun hh => hb ((hh.2 k (by omega)).2 (by omega))
      · simp (disch := omega) only [hin, h1, h3, ↓SXd, SXu, slBounds, ↓sop, ↓aop, ↓reduceIte, LV.cells, AOp.dst, LV.I, LV.B, LV.U, LV.S, LV.nil, Nat.reduceEqDiff, Nat.reduceAdd, Nat.reduceMul, Nat.reduceSub, Nat.reduceLeDiff, Nat.reduceBEq, Nat.reduceDiv, Nat.reduceMod, Int.reduceToNat, Int.reduceLT, Int.reduceLE, Int.reduceAdd, Int.reduceSub, Int.reduceMul, Int.reduceEq, Int.reduceNeg, reduceCtorEq, resV, resAll, ARes.ev, LV.flat, ite_true, ite_false, exists_eq_left', exists_eq_left, keyOf, implies_true, fillC, capOf]
        exact cmp_dropF fun hh => hin (hh.2 k (by omega)).1
    · simp (disch := omega) only [h1, h3, ↓SXd, SXu, slBounds, ↓sop, ↓aop, ↓reduceIte, LV.cells, AOp.dst, LV.I, LV.B, LV.U, LV.S, LV.nil, Nat.reduceEqDiff, Nat.reduceAdd, Nat.reduceMul, Nat.reduceSub, Nat.reduceLeDiff, Nat.reduceBEq, Nat.reduceDiv, Nat.reduceMod, Int.reduceToNat, Int.reduceLT, Int.reduceLE, Int.reduceAdd, Int.reduceSub, Int.reduceMul, Int.reduceEq, Int.reduceNeg, reduceCtorEq, resV, resAll, ARes.ev, LV.flat, ite_true, ite_false, exists_eq_left', exists_eq_left, keyOf, implies_true, fillC, capOf]
      exact cmp_dropT ⟨hS, fun j hj1 => hj j (by omega)⟩
  · simp (disch := omega) only [hS, ↓SXd, SXu, slBounds, ↓sop, ↓aop, ↓reduceIte, LV.cells, AOp.dst, LV.I, LV.B, LV.U, LV.S, LV.nil, Nat.reduceEqDiff, Nat.reduceAdd, Nat.reduceMul, Nat.reduceSub, Nat.reduceLeDiff, Nat.reduceBEq, Nat.reduceDiv, Nat.reduceMod, Int.reduceToNat, Int.reduceLT, Int.reduceLE, Int.reduceAdd, Int.reduceSub, Int.reduceMul, Int.reduceEq, Int.reduceNeg, reduceCtorEq, resV, resAll, ARes.ev, LV.flat, ite_true, ite_false, exists_eq_left', exists_eq_left, keyOf, implies_true, fillC, capOf]
    exact cmp_dropF fun hh => hS hh.1

end Go.Ab

/- Contracts: distances of cells. -/
namespace Go.Ab
open Go
set_option linter.unusedSimpArgs false
set_option linter.unusedVariables false

end Go.Ab

/- Contracts: the reference's heaps. -/
namespace Go.Ab
open Go
set_option linter.unusedSimpArgs false
set_option linter.unusedVariables false

theorem h_l2Empty {x y z : Int} {M : Mem} : CallsTo PG F.spec_l2Empty [.I x, .I y, .I z] M (.agg [.I x, .I y, .I z, .ref M.length 0 0]) (M ++ [some (.row [] true 3)]) := by
  refine calls_run K.spec_l2Empty rfl ?_
  simp (disch := omega) only [C.spec_l2Empty, splice, ↓SXd, SXu, slBounds, ↓sop, ↓aop, ↓reduceIte, LV.cells, AOp.dst, LV.I, LV.B, LV.U, LV.S, LV.nil, Nat.reduceEqDiff, Nat.reduceAdd, Nat.reduceMul, Nat.reduceSub, Nat.reduceLeDiff, Nat.reduceBEq, Nat.reduceDiv, Nat.reduceMod, Int.reduceToNat, Int.reduceLT, Int.reduceLE, Int.reduceAdd, Int.reduceSub, Int.reduceMul, Int.reduceEq, Int.reduceNeg, reduceCtorEq, resV, resAll, ARes.ev, LV.flat, ite_true, ite_false, exists_eq_left', exists_eq_left, keyOf, implies_true, fillC, capOf]
  exact cmp_keep1 (j := 1) rfl rfl (by simp [rn, rn0, rn1, keepR_n])

theorem h_l2Made {x y z : Int} {v : LV} {t o n : Nat} {M : Mem} (ht : t < M.length) : CallsTo PG F.spec_l2Made [.agg [.I x, .I y, .I z, v], .ref t o n] M (.agg [.I x, .I y, .I z, .ref t o n]) M := by
  refine calls_run K.spec_l2Made rfl ?_
  simp (disch := omega) only [C.spec_l2Made, splice, ↓SXd, SXu, slBounds, ↓sop, ↓aop, ↓reduceIte, LV.cells, AOp.dst, LV.I, LV.B, LV.U, LV.S, LV.nil, Nat.reduceEqDiff, Nat.reduceAdd, Nat.reduceMul, Nat.reduceSub, Nat.reduceLeDiff, Nat.reduceBEq, Nat.reduceDiv, Nat.reduceMod, Int.reduceToNat, Int.reduceLT, Int.reduceLE, Int.reduceAdd, Int.reduceSub, Int.reduceMul, Int.reduceEq, Int.reduceNeg, reduceCtorEq, resV, resAll, ARes.ev, LV.flat, ite_true, ite_false, exists_eq_left', exists_eq_left, keyOf, implies_true, fillC, capOf]
  exact cmp_drop (by simp [LV.lo, LV.lo1, ht])

theorem h_l2All {x y z : Int} {v : LV} {M : Mem} (hS : Sides x y z) : CallsTo PG F.spec_l2All [.agg [.I x, .I y, .I z, v]] M (.ref M.length 0 (cellsOf x y z).length) (M ++ [some (.row (triL (cellsOf x y z)) true 3)]) := by
  obtain ⟨hx, hy, hz⟩ := id hS
  have hv := vol_cast hS
  have hlen : (cellsOf x y z).length = vol x y z := by simp [cellsOf]
  refine calls_run K.spec_l2All rfl ?_
  simp (disch := omega) only [C.spec_l2All, ↓SXd, SXu, slBounds, ↓sop, ↓aop, ↓reduceIte, LV.cells, AOp.dst, LV.I, LV.B, LV.U, LV.S, LV.nil, Nat.reduceEqDiff, Nat.reduceAdd, Nat.reduceMul, Nat.reduceSub, Nat.reduceLeDiff, Nat.reduceBEq, Nat.reduceDiv, Nat.reduceMod, Int.reduceToNat, Int.reduceLT, Int.reduceLE, Int.reduceAdd, Int.reduceSub, Int.reduceMul, Int.reduceEq, Int.reduceNeg, reduceCtorEq, resV, resAll, ARes.ev, LV.flat, ite_true, ite_false, exists_eq_left', exists_eq_left, keyOf, implies_true, fillC, capOf]
  refine ev_loop (fun m fr M' => ∃ (a u : Nat) (acc : List Cell), (a : Int) + m = x ∧ acc = (cellsOf x y z).take (idx y z ⟨a, 0, 0⟩).toNat ∧ Pre M M' ∧ Live M' M.length (.row [.I x, .I y, .I z, v] true 0) ∧ M.length + 1 ≤ u ∧ Live M' u (.row (triL acc) true 3) ∧
    fr 1 = .ptr M.length 0 ∧ fr 3 = .ref u 0 acc.length ∧ fr 4 = .I a) x.toNat
    ⟨0, M.length + 1, [], by omega, by simp [idx], Pre.app _ _, Live.new, by omega, Live.newj rfl, rfl, rfl, rfl⟩ ?_
  rintro m fr M' ⟨a, u, acc, ha, hacc, hpre, hbox, hu, hout, f1, f3, f4⟩
  simp (disch := omega) only [f1, f3, f4, hbox.cell, ↓SXd, SXu, slBounds, ↓sop, ↓aop, ↓reduceIte, LV.cells, AOp.dst, LV.I, LV.B, LV.U, LV.S, LV.nil, Nat.reduceEqDiff, Nat.reduceAdd, Nat.reduceMul, Nat.reduceSub, Nat.reduceLeDiff, Nat.reduceBEq, Nat.reduceDiv, Nat.reduceMod, Int.reduceToNat, Int.reduceLT, Int.reduceLE, Int.reduceAdd, Int.reduceSub, Int.reduceMul, Int.reduceEq, Int.reduceNeg, reduceCtorEq, resV, resAll, ARes.ev, LV.flat, ite_true, ite_false, exists_eq_left', exists_eq_left, keyOf, implies_true, fillC, capOf]
  refine condC_dec (fun hlt => ?_) (fun hlt => ?_)
  rotate_left
  · simp (disch := omega) only [f1, f3, f4, ↓SXd, SXu, slBounds, ↓sop, ↓aop, ↓reduceIte, LV.cells, AOp.dst, LV.I, LV.B, LV.U, LV.S, LV.nil, Nat.reduceEqDiff, Nat.reduceAdd, Nat.reduceMul, Nat.reduceSub, Nat.reduceLeDiff, Nat.reduceBEq, Nat.reduceDiv, Nat.reduceMod, Int.reduceToNat, Int.reduceLT, Int.reduceLE, Int.reduceAdd, Int.reduceSub, Int.reduceMul, Int.reduceEq, Int.reduceNeg, reduceCtorEq, resV, resAll, ARes.ev, LV.flat, ite_true, ite_false, exists_eq_left', exists_eq_left, keyOf, implies_true, fillC, capOf]
    have hax : (a : Int) = x := by omega
    have e : cellsOf x y z = acc := by
      rw [hacc, hax, List.take_of_length_le]
      unfold idx
      simp only [Int.add_zero]
      rw [hlen]; unfold vol; omega
    rw [e]
    exact cmp_keepL hpre (by omega) hout (triL_lo acc) (by simp [rn, rn0, rn1])
  · simp (disch := omega) only [f1, f3, f4, ↓SXd, SXu, slBounds, ↓sop, ↓aop, ↓reduceIte, LV.cells, AOp.dst, LV.I, LV.B, LV.U, LV.S, LV.nil, Nat.reduceEqDiff, Nat.reduceAdd, Nat.reduceMul, Nat.reduceSub, Nat.reduceLeDiff, Nat.reduceBEq, Nat.reduceDiv, Nat.reduceMod, Int.reduceToNat, Int.reduceLT, Int.reduceLE, Int.reduceAdd, Int.reduceSub, Int.reduceMul, Int.reduceEq, Int.reduceNeg, reduceCtorEq, resV, resAll, ARes.ev, LV.flat, ite_true, ite_false, exists_eq_left', exists_eq_left, keyOf, implies_true, fillC, capOf]
    refine ev_loop (fun m2 fr N => ∃ (b u : Nat) (acc : List Cell), (b : Int) + m2 = y ∧ acc = (cellsOf x y z).take (idx y z ⟨a, b, 0⟩).toNat ∧ Pre M N ∧ Live N M.length (.row [.I x, .I y, .I z, v] true 0) ∧ M.length + 1 ≤ u ∧ Live N u (.row (triL acc) true 3) ∧
      fr 1 = .ptr M.length 0 ∧ fr 3 = .ref u 0 acc.length ∧ fr 4 = .I a ∧ fr 5 = .I b) y.toNat
      ⟨0, u, acc, by omega, hacc, hpre, hbox, hu, hout, f1, f3, f4, rfl⟩ ?_
    clear f1 f3 f4 hpre hbox hu hout hacc
    rintro m2 fr N ⟨b, u, acc, hb, hacc, hpre, hbox, hu, hout, f1, f3, f4, f5⟩
    simp (disch := omega) only [f1, f3, f4, f5, hbox.cell, ↓SXd, SXu, slBounds, ↓sop, ↓aop, ↓reduceIte, LV.cells, AOp.dst, LV.I, LV.B, LV.U, LV.S, LV.nil, Nat.reduceEqDiff, Nat.reduceAdd, Nat.reduceMul, Nat.reduceSub, Nat.reduceLeDiff, Nat.reduceBEq, Nat.reduceDiv, Nat.reduceMod, Int.reduceToNat, Int.reduceLT, Int.reduceLE, Int.reduceAdd, Int.reduceSub, Int.reduceMul, Int.reduceEq, Int.reduceNeg, reduceCtorEq, resV, resAll, ARes.ev, LV.flat, ite_true, ite_false, exists_eq_left', exists_eq_left, keyOf, implies_true, fillC, capOf]
    refine condC_dec (fun hlt2 => ?_) (fun hlt2 => ?_)
    rotate_left
    · simp (disch := omega) only [f1, f3, f4, f5, ↓SXd, SXu, slBounds, ↓sop, ↓aop, ↓reduceIte, LV.cells, AOp.dst, LV.I, LV.B, LV.U, LV.S, LV.nil, Nat.reduceEqDiff, Nat.reduceAdd, Nat.reduceMul, Nat.reduceSub, Nat.reduceLeDiff, Nat.reduceBEq, Nat.reduceDiv, Nat.reduceMod, Int.reduceToNat, Int.reduceLT, Int.reduceLE, Int.reduceAdd, Int.reduceSub, Int.reduceMul, Int.reduceEq, Int.reduceNeg, reduceCtorEq, resV, resAll, ARes.ev, LV.flat, ite_true, ite_false, exists_eq_left', exists_eq_left, keyOf, implies_true, fillC, capOf]
      have hby : (b : Int) = y := by omega
      refine ⟨m - 1, by omega, a + 1, u, acc, by omega, ?_, hpre, hbox, hu, hout, f1, f3, eqI (natI _)⟩
      rw [hacc, hby]
      unfold idx
      simp only [Int.natCast_add, Int.natCast_one, Int.add_mul, Int.one_mul, Int.add_zero]
    · simp (disch := omega) only [f1, f3, f4, f5, ↓SXd, SXu, slBounds, ↓sop, ↓aop, ↓reduceIte, LV.cells, AOp.dst, LV.I, LV.B, LV.U, LV.S, LV.nil, Nat.reduceEqDiff, Nat.reduceAdd, Nat.reduceMul, Nat.reduceSub, Nat.reduceLeDiff, Nat.reduceBEq, Nat.reduceDiv, Nat.reduceMod, Int.reduceToNat, Int.reduceLT, Int.reduceLE, Int.reduceAdd, Int.reduceSub, Int.reduceMul, Int.reduceEq, Int.reduceNeg, reduceCtorEq, resV, resAll, ARes.ev, LV.flat, ite_true, ite_false, exists_eq_left', exists_eq_left, keyOf, implies_true, fillC, capOf]
      refine ev_loop (fun m3 fr N => ∃ (c u : Nat) (acc : List Cell), (c : Int) + m3 = z ∧ acc = (cellsOf x y z).take (idx y z ⟨a, b, c⟩).toNat ∧ Pre M N ∧ Live N M.length (.row [.I x, .I y, .I z, v] true 0) ∧ M.length + 1 ≤ u ∧ Live N u (.row (triL acc) true 3) ∧
        fr 1 = .ptr M.length 0 ∧ fr 3 = .ref u 0 acc.length ∧ fr 4 = .I a ∧ fr 5 = .I b ∧ fr 6 = .I c) z.toNat
        ⟨0, u, acc, by omega, hacc, hpre, hbox, hu, hout, f1, f3, f4, f5, rfl⟩ ?_
      clear f1 f3 f4 f5 hpre hbox hu hout hacc
      rintro m3 fr N ⟨c, u, acc, hc, hacc, hpre, hbox, hu, hout, f1, f3, f4, f5, f6⟩
      simp (disch := omega) only [f1, f3, f4, f5, f6, hbox.cell, ↓SXd, SXu, slBounds, ↓sop, ↓aop, ↓reduceIte, LV.cells, AOp.dst, LV.I, LV.B, LV.U, LV.S, LV.nil, Nat.reduceEqDiff, Nat.reduceAdd, Nat.reduceMul, Nat.reduceSub, Nat.reduceLeDiff, Nat.reduceBEq, Nat.reduceDiv, Nat.reduceMod, Int.reduceToNat, Int.reduceLT, Int.reduceLE, Int.reduceAdd, Int.reduceSub, Int.reduceMul, Int.reduceEq, Int.reduceNeg, reduceCtorEq, resV, resAll, ARes.ev, LV.flat, ite_true, ite_false, exists_eq_left', exists_eq_left, keyOf, implies_true, fillC, capOf]
      refine condC_dec (fun hlt3 => ?_) (fun hlt3 => ?_)
      rotate_left
      · simp (disch := omega) only [f1, f3, f4, f5, f6, ↓SXd, SXu, slBounds, ↓sop, ↓aop, ↓reduceIte, LV.cells, AOp.dst, LV.I, LV.B, LV.U, LV.S, LV.nil, Nat.reduceEqDiff, Nat.reduceAdd, Nat.reduceMul, Nat.reduceSub, Nat.reduceLeDiff, Nat.reduceBEq, Nat.reduceDiv, Nat.reduceMod, Int.reduceToNat, Int.reduceLT, Int.reduceLE, Int.reduceAdd, Int.reduceSub, Int.reduceMul, Int.reduceEq, Int.reduceNeg, reduceCtorEq, resV, resAll, ARes.ev, LV.flat, ite_true, ite_false, exists_eq_left', exists_eq_left, keyOf, implies_true, fillC, capOf]
        have hcz : (c : Int) = z := by omega
        refine ⟨m2 - 1, by omega, b + 1, u, acc, by omega, ?_, hpre, hbox, hu, hout, f1, f3, f4, eqI (natI _)⟩
        rw [hacc, hcz]
        unfold idx
        simp only [Int.natCast_add, Int.natCast_one, Int.add_mul, Int.one_mul, Int.add_zero, Int.add_assoc]
      · have hin : (⟨a, b, c⟩ : Cell).inBox x y z := ⟨⟨by simp only; omega, by simp only; omega⟩, ⟨by simp only; omega, by simp only; omega⟩, ⟨by simp only; omega, by simp only; omega⟩⟩
        obtain ⟨i1, i2, i3⟩ := idx_in hS hin
        have hal : acc.length ≤ 64 := by
          have := List.length_take_le (idx y z ⟨a, b, c⟩).toNat (cellsOf x y z)
          rw [hacc]; omega
        simp (disch := omega) only [f1, f3, f4, f5, f6, splice, ↓SXd, SXu, slBounds, ↓sop, ↓aop, ↓reduceIte, LV.cells, AOp.dst, LV.I, LV.B, LV.U, LV.S, LV.nil, Nat.reduceEqDiff, Nat.reduceAdd, Nat.reduceMul, Nat.reduceSub, Nat.reduceLeDiff, Nat.reduceBEq, Nat.reduceDiv, Nat.reduceMod, Int.reduceToNat, Int.reduceLT, Int.reduceLE, Int.reduceAdd, Int.reduceSub, Int.reduceMul, Int.reduceEq, Int.reduceNeg, reduceCtorEq, resV, resAll, ARes.ev, LV.flat, ite_true, ite_false, exists_eq_left', exists_eq_left, keyOf, implies_true, fillC, capOf]
        refine appendK_cell hout (by omega) fun N' l1 l2 l3 => ?_
        simp (disch := omega) only [f1, f3, f4, f5, f6, ↓SXd, SXu, slBounds, ↓sop, ↓aop, ↓reduceIte, LV.cells, AOp.dst, LV.I, LV.B, LV.U, LV.S, LV.nil, Nat.reduceEqDiff, Nat.reduceAdd, Nat.reduceMul, Nat.reduceSub, Nat.reduceLeDiff, Nat.reduceBEq, Nat.reduceDiv, Nat.reduceMod, Int.reduceToNat, Int.reduceLT, Int.reduceLE, Int.reduceAdd, Int.reduceSub, Int.reduceMul, Int.reduceEq, Int.reduceNeg, reduceCtorEq, resV, resAll, ARes.ev, LV.flat, ite_true, ite_false, exists_eq_left', exists_eq_left, keyOf, implies_true, fillC, capOf]
        refine ⟨m3 - 1, by omega, c + 1, _, acc ++ [⟨a, b, c⟩], by omega, ?_, pre_step hpre (by omega) l1 l3, live_step hbox (by omega) l3, by have := hpre.1; omega, l2, f1, rfl, f4, f5, eqI (natI _)⟩
        have e1 : (idx y z ⟨a, b, ((c + 1 : Nat) : Int)⟩).toNat = (idx y z ⟨a, b, c⟩).toNat + 1 := by unfold idx at i1 ⊢; simp only at i1 ⊢; omega
        have hlt' : (idx y z ⟨a, b, c⟩).toNat < (cellsOf x y z).length := by omega
        rw [e1, List.take_succ, ← hacc, List.getElem?_eq_getElem hlt']
        congr 1
        simp only [Option.toList, cellsOf, List.getElem_map, List.getElem_range]
        rw [Int.toNat_of_nonneg i1, i3]

end Go.Ab

/- Contracts: the reference's heaps with one more cube. -/
namespace Go.Ab
open Go
set_option linter.unusedSimpArgs false
set_option linter.unusedVariables false

theorem appendK_zero {e b t off len t2 o2 : Nat} {M : Mem} {A : LV → Mem → Prop} : appendK e b (.ref t off len) (.ref t2 o2 0) M A = andK (len * b ≤ 140737488355328 ∧ len ≤ 9223372036854775807) (A (.ref t off len) M) := by
  simp [appendK, lenS, winC, appV, appK]
theorem appendK_pos {e b t off len t2 o2 n : Nat} {cs new : List LV} {M : Mem} {A : LV → Mem → Prop} (hn : 0 < n) (hw : getCells M t2 o2 (n * e) = some new) (hr : M[t]? = some (some (.row cs true e))) (hl : off + len * e ≤ cs.length) :
    appendK e b (.ref t off len) (.ref t2 o2 n) M A = andK ((len + n) * b ≤ 140737488355328 ∧ len + n ≤ 9223372036854775807) (A (.ref M.length 0 (len + n)) (M.set t none ++ [some (.row ((cs.drop off).take (len * e) ++ new) true e)])) := by
  have h0 : n ≠ 0 := by omega
  simp [appendK, lenS, winC, appV, appK, h0, hw, hr, hl]

theorem Tri.take {M : Mem} {t o k : Nat} {cs : List Cell} (h : Tri M t o cs) (hk : k ≤ cs.length) : Tri M t o (cs.take k) := by
  obtain ⟨row, h1, h2, h3⟩ := h
  rw [triL_len] at h2 h3
  have hl : (cs.take k).length = k := by simp; omega
  refine ⟨row, h1, by rw [triL_len, hl]; omega, ?_⟩
  rw [triL_len, hl, ← triL_take, ← h3, List.take_take, Nat.min_eq_left (by omega)]
theorem Tri.drop {M : Mem} {t o k : Nat} {cs : List Cell} (h : Tri M t o cs) (hk : k ≤ cs.length) : Tri M t (o + k * 3) (cs.drop k) := by
  obtain ⟨row, h1, h2, h3⟩ := h
  rw [triL_len] at h2 h3
  have hl : (cs.drop k).length = cs.length - k := by simp
  refine ⟨row, h1, by rw [triL_len, hl]; omega, ?_⟩
  rw [triL_len, hl, ← triL_drop, ← h3, List.drop_take, List.drop_drop]
  congr 1
  omega
theorem Tri.all {M : Mem} {t o n : Nat} {cs : List Cell} (h : Tri M t o cs) (hn : n = cs.length) : getCells M t o (n * 3) = some (triL cs) := by
  have := Has.all h
  rw [triL_len] at this; rw [hn]; exact this

theorem h_l2Own {x y z : Int} {t o : Nat} {cs : List Cell} {M : Mem} (h : Tri M t o cs) (hn : cs.length ≤ 1000000000) :
    CallsTo PG F.spec_l2Own [.agg [.I x, .I y, .I z, .ref t o cs.length]] M (.agg [.I x, .I y, .I z, .ref M.length 0 cs.length]) (M ++ [some (.row (triL cs) true 3)]) := by
  have ht := h.lt
  refine calls_run K.spec_l2Own rfl ?_
  simp (disch := omega) only [C.spec_l2Own, ↓SXd, SXu, slBounds, ↓sop, ↓aop, ↓reduceIte, LV.cells, AOp.dst, LV.I, LV.B, LV.U, LV.S, LV.nil, Nat.reduceEqDiff, Nat.reduceAdd, Nat.reduceMul, Nat.reduceSub, Nat.reduceLeDiff, Nat.reduceBEq, Nat.reduceDiv, Nat.reduceMod, Int.reduceToNat, Int.reduceLT, Int.reduceLE, Int.reduceAdd, Int.reduceSub, Int.reduceMul, Int.reduceEq, Int.reduceNeg, reduceCtorEq, resV, resAll, ARes.ev, LV.flat, ite_true, ite_false, exists_eq_left', exists_eq_left, keyOf, implies_true, fillC, capOf]
  rcases Nat.eq_zero_or_pos cs.length with h0 | h0
  · have hc : cs = [] := List.eq_nil_of_length_eq_zero h0
    subst hc
    simp (disch := omega) only [List.length_nil, appendK_zero, ↓SXd, SXu, slBounds, ↓sop, ↓aop, ↓reduceIte, LV.cells, AOp.dst, LV.I, LV.B, LV.U, LV.S, LV.nil, Nat.reduceEqDiff, Nat.reduceAdd, Nat.reduceMul, Nat.reduceSub, Nat.reduceLeDiff, Nat.reduceBEq, Nat.reduceDiv, Nat.reduceMod, Int.reduceToNat, Int.reduceLT, Int.reduceLE, Int.reduceAdd, Int.reduceSub, Int.reduceMul, Int.reduceEq, Int.reduceNeg, reduceCtorEq, resV, resAll, ARes.ev, LV.flat, ite_true, ite_false, exists_eq_left', exists_eq_left, keyOf, implies_true, fillC, capOf]
    refine callK_of (h_l2Made (by simp)) ?_
    simp (disch := omega) only [splice, ↓SXd, SXu, slBounds, ↓sop, ↓aop, ↓reduceIte, LV.cells, AOp.dst, LV.I, LV.B, LV.U, LV.S, LV.nil, Nat.reduceEqDiff, Nat.reduceAdd, Nat.reduceMul, Nat.reduceSub, Nat.reduceLeDiff, Nat.reduceBEq, Nat.reduceDiv, Nat.reduceMod, Int.reduceToNat, Int.reduceLT, Int.reduceLE, Int.reduceAdd, Int.reduceSub, Int.reduceMul, Int.reduceEq, Int.reduceNeg, reduceCtorEq, resV, resAll, ARes.ev, LV.flat, ite_true, ite_false, exists_eq_left', exists_eq_left, keyOf, implies_true, fillC, capOf]
    exact cmp_keep1 (j := 2) rfl rfl (by simp [rn, rn0, rn1, keepR_n])
  · rw [appendK_pos h0 (Tri.all h.app rfl) (by rw [at_j]; rfl) (by simp)]
    simp (disch := omega) only [List.length_append, ↓SXd, SXu, slBounds, ↓sop, ↓aop, ↓reduceIte, LV.cells, AOp.dst, LV.I, LV.B, LV.U, LV.S, LV.nil, Nat.reduceEqDiff, Nat.reduceAdd, Nat.reduceMul, Nat.reduceSub, Nat.reduceLeDiff, Nat.reduceBEq, Nat.reduceDiv, Nat.reduceMod, Int.reduceToNat, Int.reduceLT, Int.reduceLE, Int.reduceAdd, Int.reduceSub, Int.reduceMul, Int.reduceEq, Int.reduceNeg, reduceCtorEq, resV, resAll, ARes.ev, LV.flat, ite_true, ite_false, exists_eq_left', exists_eq_left, keyOf, implies_true, fillC, capOf]
    refine callK_of (h_l2Made (by simp)) ?_
    simp (disch := omega) only [splice, ↓SXd, SXu, slBounds, ↓sop, ↓aop, ↓reduceIte, LV.cells, AOp.dst, LV.I, LV.B, LV.U, LV.S, LV.nil, Nat.reduceEqDiff, Nat.reduceAdd, Nat.reduceMul, Nat.reduceSub, Nat.reduceLeDiff, Nat.reduceBEq, Nat.reduceDiv, Nat.reduceMod, Int.reduceToNat, Int.reduceLT, Int.reduceLE, Int.reduceAdd, Int.reduceSub, Int.reduceMul, Int.reduceEq, Int.reduceNeg, reduceCtorEq, resV, resAll, ARes.ev, LV.flat, ite_true, ite_false, exists_eq_left', exists_eq_left, keyOf, implies_true, fillC, capOf]
    exact cmp_keep1 (j := 3) rfl (triL_lo cs) (by simp [rn, rn0, rn1, keepR_n])

/-- A heap with one more cell. -/
theorem with_pick {x y z : Int} {cs : List Cell} {c : Cell} {k : Nat} (hH : HeapOK x y z cs) (hc : c.inBox x y z) (hk : k ≤ cs.length) (hlo : ∀ j, j < k → (cs.getD j default).lt c) (hhi : k < cs.length → c.lt (cs.getD k default)) :
    cs.take k ++ (c :: cs.drop k) = pick x y z fun d => decide (d ∈ cs) || decide (d = c) := by
  have hs := hH.sorted
  have h1 : ∀ d ∈ cs.take k, d.lt c := fun d hd => by
    obtain ⟨j, hj, rfl⟩ := List.getElem_of_mem hd
    have hj' : j < k := by simp at hj; omega
    have := hlo j hj'
    simpa [show j < cs.length by omega] using this
  have h2 : ∀ d ∈ cs.drop k, c.lt d := fun d hd => by
    obtain ⟨j, hj, rfl⟩ := List.getElem_of_mem hd
    have hkl : k < cs.length := by simp at hj; omega
    have h3 := hhi hkl
    have hjl : k + j < cs.length := by simp at hj; omega
    rw [List.getElem_drop]
    rcases Nat.eq_zero_or_pos j with rfl | hj0
    · simpa [hkl] using h3
    · rw [List.pairwise_iff_getElem] at hs
      have := hs k (k + j) hkl hjl (by omega)
      refine Cell.lt_trans (b := cs[k]) ?_ this
      simpa [hkl] using h3
  refine sorted_ext ?_ (pick_sorted hH.1 _) fun d => ?_
  · rw [List.pairwise_append, List.pairwise_cons]
    refine ⟨hs.take, ⟨h2, hs.drop⟩, fun a ha b hb => ?_⟩
    rcases List.mem_cons.1 hb with rfl | hb
    · exact h1 a ha
    · exact Cell.lt_trans (h1 a ha) (h2 b hb)
  · rw [mem_pick hH.1]
    simp only [List.mem_append, List.mem_cons, Bool.or_eq_true, decide_eq_true_eq]
    constructor
    · rintro (h | rfl | h)
      · exact ⟨hH.mem (List.mem_of_mem_take h), .inl (List.mem_of_mem_take h)⟩
      · exact ⟨hc, .inr rfl⟩
      · exact ⟨hH.mem (List.mem_of_mem_drop h), .inl (List.mem_of_mem_drop h)⟩
    · rintro ⟨_, h | h⟩
      · rw [← List.take_append_drop k cs, List.mem_append] at h
        rcases h with h | h
        · exact .inl h
        · exact .inr (.inr h)
      · exact .inr (.inl h)

theorem h_l2With {x y z : Int} {c : Cell} {t : Nat} {w : Bool} {cs : List Cell} {M : Mem} (h : Live M t (.row (triL cs) w 3)) (hH : HeapOK x y z cs) (hc : c.inBox x y z) :
    CallsTo PG F.spec_l2With [.agg [.I x, .I y, .I z, .ref t 0 cs.length], .agg [.I c.a, .I c.b, .I c.c]] M (.agg [.I x, .I y, .I z, .ref M.length 0 (pick x y z fun d => decide (d ∈ cs) || decide (d = c)).length])
      (M ++ [some (.row (triL (pick x y z fun d => decide (d ∈ cs) || decide (d = c))) true 3)]) := by
  have hn := hH.len
  have hT : Tri M t 0 cs := h.has
  have ht := h.lt
  have hE : getEsz M t = some 3 := h.esz
  refine calls_run K.spec_l2With rfl ?_
  simp (disch := omega) only [C.spec_l2With, ↓SXd, SXu, slBounds, ↓sop, ↓aop, ↓reduceIte, LV.cells, AOp.dst, LV.I, LV.B, LV.U, LV.S, LV.nil, Nat.reduceEqDiff, Nat.reduceAdd, Nat.reduceMul, Nat.reduceSub, Nat.reduceLeDiff, Nat.reduceBEq, Nat.reduceDiv, Nat.reduceMod, Int.reduceToNat, Int.reduceLT, Int.reduceLE, Int.reduceAdd, Int.reduceSub, Int.reduceMul, Int.reduceEq, Int.reduceNeg, reduceCtorEq, resV, resAll, ARes.ev, LV.flat, ite_true, ite_false, exists_eq_left', exists_eq_left, keyOf, implies_true, fillC, capOf]
  refine ev_loop (fun m fr M' => ∃ k : Nat, k + m = cs.length ∧ M' = M ++ [some (Blk.row [.I x, .I y, .I z, .ref t 0 cs.length] true 0), some (Blk.row [.I c.a, .I c.b, .I c.c] true 0), some (Blk.row [.I 0, .I 0, .I 0, .nil] true 0)] ∧
    fr 2 = .ptr M.length 0 ∧ fr 3 = .ptr (M.length + 1) 0 ∧ fr 4 = .ptr (M.length + 2) 0 ∧ fr 5 = .I k ∧ ∀ j, j < k → (cs.getD j default).lt c) cs.length
    ⟨0, by omega, rfl, rfl, rfl, rfl, rfl, by omega⟩ ?_
  rintro m fr M' ⟨k, hk, rfl, f2, f3, f4, f5, hlo⟩
  have hgE : ∀ L : Mem, getEsz (M ++ L) t = some 3 := fun L => by rw [getEsz_app ht]; exact hE
  by_cases hkl : k < cs.length
  · simp (disch := omega) only [f2, f3, f4, f5, getCells_app, (h.tri0 hkl), Cell.row, ↓SXd, SXu, slBounds, ↓sop, ↓aop, ↓reduceIte, LV.cells, AOp.dst, LV.I, LV.B, LV.U, LV.S, LV.nil, Nat.reduceEqDiff, Nat.reduceAdd, Nat.reduceMul, Nat.reduceSub, Nat.reduceLeDiff, Nat.reduceBEq, Nat.reduceDiv, Nat.reduceMod, Int.reduceToNat, Int.reduceLT, Int.reduceLE, Int.reduceAdd, Int.reduceSub, Int.reduceMul, Int.reduceEq, Int.reduceNeg, reduceCtorEq, resV, resAll, ARes.ev, LV.flat, ite_true, ite_false, exists_eq_left', exists_eq_left, keyOf, implies_true, fillC, capOf]
    refine callK_of (h_l2Before) ?_
    simp (disch := omega) only [f2, f3, f4, f5, cell_eta, ↓SXd, SXu, slBounds, ↓sop, ↓aop, ↓reduceIte, LV.cells, AOp.dst, LV.I, LV.B, LV.U, LV.S, LV.nil, Nat.reduceEqDiff, Nat.reduceAdd, Nat.reduceMul, Nat.reduceSub, Nat.reduceLeDiff, Nat.reduceBEq, Nat.reduceDiv, Nat.reduceMod, Int.reduceToNat, Int.reduceLT, Int.reduceLE, Int.reduceAdd, Int.reduceSub, Int.reduceMul, Int.reduceEq, Int.reduceNeg, reduceCtorEq, resV, resAll, ARes.ev, LV.flat, ite_true, ite_false, exists_eq_left', exists_eq_left, keyOf, implies_true, fillC, capOf]
    refine condC_dec (fun hb => ?_) (fun hb => ?_)
    · simp (disch := omega) only [f2, f3, f4, f5, ↓SXd, SXu, slBounds, ↓sop, ↓aop, ↓reduceIte, LV.cells, AOp.dst, LV.I, LV.B, LV.U, LV.S, LV.nil, Nat.reduceEqDiff, Nat.reduceAdd, Nat.reduceMul, Nat.reduceSub, Nat.reduceLeDiff, Nat.reduceBEq, Nat.reduceDiv, Nat.reduceMod, Int.reduceToNat, Int.reduceLT, Int.reduceLE, Int.reduceAdd, Int.reduceSub, Int.reduceMul, Int.reduceEq, Int.reduceNeg, reduceCtorEq, resV, resAll, ARes.ev, LV.flat, ite_true, ite_false, exists_eq_left', exists_eq_left, keyOf, implies_true, fillC, capOf]
      exact ⟨m - 1, by omega, k + 1, by omega, rfl, f2, f3, f4, eqI (natI _), fun j hj => by
        rcases Nat.lt_or_ge j k with h1 | h1
        · exact hlo j h1
        · rw [show j = k by omega]; exact hb⟩
    · simp (disch := omega) only [f2, f3, f4, f5, getCells_app, (h.tri0 hkl), Cell.row, eqV, eqC, if_true, ite_true, Bool.and_true, ↓SXd, SXu, slBounds, ↓sop, ↓aop, ↓reduceIte, LV.cells, AOp.dst, LV.I, LV.B, LV.U, LV.S, LV.nil, Nat.reduceEqDiff, Nat.reduceAdd, Nat.reduceMul, Nat.reduceSub, Nat.reduceLeDiff, Nat.reduceBEq, Nat.reduceDiv, Nat.reduceMod, Int.reduceToNat, Int.reduceLT, Int.reduceLE, Int.reduceAdd, Int.reduceSub, Int.reduceMul, Int.reduceEq, Int.reduceNeg, reduceCtorEq, resV, resAll, ARes.ev, LV.flat, ite_true, ite_false, exists_eq_left', exists_eq_left, keyOf, implies_true, fillC, capOf]
      by_cases he : cs.getD k default = c
      · obtain ⟨e1, e2, e3⟩ := cell_eq.1 he
        simp (disch := omega) only [f2, f3, f4, f5, e1, e2, e3, beq_self_eq_true, Bool.and_self, ↓SXd, SXu, slBounds, ↓sop, ↓aop, ↓reduceIte, LV.cells, AOp.dst, LV.I, LV.B, LV.U, LV.S, LV.nil, Nat.reduceEqDiff, Nat.reduceAdd, Nat.reduceMul, Nat.reduceSub, Nat.reduceLeDiff, Nat.reduceBEq, Nat.reduceDiv, Nat.reduceMod, Int.reduceToNat, Int.reduceLT, Int.reduceLE, Int.reduceAdd, Int.reduceSub, Int.reduceMul, Int.reduceEq, Int.reduceNeg, reduceCtorEq, resV, resAll, ARes.ev, LV.flat, ite_true, ite_false, exists_eq_left', exists_eq_left, keyOf, implies_true, fillC, capOf]
        have hcm : c ∈ cs := by rw [← he]; exact getD_mem' hkl
        have hpe : pick x y z (fun d => decide (d ∈ cs) || decide (d = c)) = cs := by
          rw [pick_congr hH.1 (q := fun d => decide (d ∈ cs)) fun d _ => ?_]
          · exact hH.pick.symm
          · by_cases e : d = c
            · subst e; simp [hcm]
            · simp [e]
        rw [hpe]
        refine callK_of (h_l2Own hT.app (by omega)) ?_
        simp (disch := omega) only [f2, f3, f4, f5, splice, ↓SXd, SXu, slBounds, ↓sop, ↓aop, ↓reduceIte, LV.cells, AOp.dst, LV.I, LV.B, LV.U, LV.S, LV.nil, Nat.reduceEqDiff, Nat.reduceAdd, Nat.reduceMul, Nat.reduceSub, Nat.reduceLeDiff, Nat.reduceBEq, Nat.reduceDiv, Nat.reduceMod, Int.reduceToNat, Int.reduceLT, Int.reduceLE, Int.reduceAdd, Int.reduceSub, Int.reduceMul, Int.reduceEq, Int.reduceNeg, reduceCtorEq, resV, resAll, ARes.ev, LV.flat, ite_true, ite_false, exists_eq_left', exists_eq_left, keyOf, implies_true, fillC, capOf]
        exact cmp_keep1 (j := 3) rfl (triL_lo cs) (by simp [rn, rn0, rn1, keepR_n])
      · have hf : ((cs.getD k default).a == c.a && ((cs.getD k default).b == c.b && (cs.getD k default).c == c.c)) = false := by
          rw [Bool.eq_false_iff]
          intro e
          simp only [Bool.and_eq_true, beq_iff_eq] at e
          exact he (cell_eq.2 ⟨e.1, e.2.1, e.2.2⟩)
        have hwp := with_pick hH hc (k := k) (by omega) hlo (fun _ => ((Cell.lt_tri (cs.getD k default) c).resolve_left hb).resolve_left he)
        rw [← hwp]
        simp (disch := omega) only [f2, f3, f4, f5, hf, hgE, Nat.sub_zero, ↓SXd, SXu, slBounds, ↓sop, ↓aop, ↓reduceIte, LV.cells, AOp.dst, LV.I, LV.B, LV.U, LV.S, LV.nil, Nat.reduceEqDiff, Nat.reduceAdd, Nat.reduceMul, Nat.reduceSub, Nat.reduceLeDiff, Nat.reduceBEq, Nat.reduceDiv, Nat.reduceMod, Int.reduceToNat, Int.reduceLT, Int.reduceLE, Int.reduceAdd, Int.reduceSub, Int.reduceMul, Int.reduceEq, Int.reduceNeg, reduceCtorEq, resV, resAll, ARes.ev, LV.flat, ite_true, ite_false, exists_eq_left', exists_eq_left, keyOf, implies_true, fillC, capOf]
        have g1 : getCells M t 0 (k * 3) = some (triL (cs.take k)) := Tri.all (Tri.take hT (by omega)) (by simp; omega)
        have g2 : getCells M t (k * 3) ((cs.length - k) * 3) = some (triL (cs.drop k)) := by
          have := Tri.all (n := cs.length - k) (Tri.drop hT (k := k) (by omega)) (by simp)
          rwa [Nat.zero_add] at this
        have hT1 : (triL (cs.take k)).length = k * 3 := by rw [triL_len]; simp; omega
        have hat : ∀ L : Mem, (M ++ L)[t]? = M[t]? := fun L => List.getElem?_append_left ht
        rcases Nat.eq_zero_or_pos k with hk0 | hk0
        · subst hk0
          rw [appendK_zero]
          simp (disch := omega) only [hat, ↓SXd, SXu, slBounds, ↓sop, ↓aop, ↓reduceIte, LV.cells, AOp.dst, LV.I, LV.B, LV.U, LV.S, LV.nil, Nat.reduceEqDiff, Nat.reduceAdd, Nat.reduceMul, Nat.reduceSub, Nat.reduceLeDiff, Nat.reduceBEq, Nat.reduceDiv, Nat.reduceMod, Int.reduceToNat, Int.reduceLT, Int.reduceLE, Int.reduceAdd, Int.reduceSub, Int.reduceMul, Int.reduceEq, Int.reduceNeg, reduceCtorEq, resV, resAll, ARes.ev, LV.flat, ite_true, ite_false, exists_eq_left', exists_eq_left, keyOf, implies_true, fillC, capOf]
          rw [appendK_pos (by omega) (by rw [cells_j]; rfl) (by rw [at_j]; rfl) (by simp)]
          simp (disch := omega) only [hat, ↓SXd, SXu, slBounds, ↓sop, ↓aop, ↓reduceIte, LV.cells, AOp.dst, LV.I, LV.B, LV.U, LV.S, LV.nil, Nat.reduceEqDiff, Nat.reduceAdd, Nat.reduceMul, Nat.reduceSub, Nat.reduceLeDiff, Nat.reduceBEq, Nat.reduceDiv, Nat.reduceMod, Int.reduceToNat, Int.reduceLT, Int.reduceLE, Int.reduceAdd, Int.reduceSub, Int.reduceMul, Int.reduceEq, Int.reduceNeg, reduceCtorEq, resV, resAll, ARes.ev, LV.flat, ite_true, ite_false, exists_eq_left', exists_eq_left, keyOf, implies_true, fillC, capOf]
          rw [appendK_pos (by omega) (by rw [getCells_app ht]; exact g2) (by rw [at_j]; rfl) (by simp)]
          simp (disch := omega) only [List.length_append, List.length_set, hat, ↓SXd, SXu, slBounds, ↓sop, ↓aop, ↓reduceIte, LV.cells, AOp.dst, LV.I, LV.B, LV.U, LV.S, LV.nil, Nat.reduceEqDiff, Nat.reduceAdd, Nat.reduceMul, Nat.reduceSub, Nat.reduceLeDiff, Nat.reduceBEq, Nat.reduceDiv, Nat.reduceMod, Int.reduceToNat, Int.reduceLT, Int.reduceLE, Int.reduceAdd, Int.reduceSub, Int.reduceMul, Int.reduceEq, Int.reduceNeg, reduceCtorEq, resV, resAll, ARes.ev, LV.flat, ite_true, ite_false, exists_eq_left', exists_eq_left, keyOf, implies_true, fillC, capOf]
          refine callK_of (h_l2Made (by simp)) ?_
          simp (disch := omega) only [splice, ↓SXd, SXu, slBounds, ↓sop, ↓aop, ↓reduceIte, LV.cells, AOp.dst, LV.I, LV.B, LV.U, LV.S, LV.nil, Nat.reduceEqDiff, Nat.reduceAdd, Nat.reduceMul, Nat.reduceSub, Nat.reduceLeDiff, Nat.reduceBEq, Nat.reduceDiv, Nat.reduceMod, Int.reduceToNat, Int.reduceLT, Int.reduceLE, Int.reduceAdd, Int.reduceSub, Int.reduceMul, Int.reduceEq, Int.reduceNeg, reduceCtorEq, resV, resAll, ARes.ev, LV.flat, ite_true, ite_false, exists_eq_left', exists_eq_left, keyOf, implies_true, fillC, capOf]
          simp (disch := omega) only [f4, splice, hat, ↓SXd, SXu, slBounds, ↓sop, ↓aop, ↓reduceIte, LV.cells, AOp.dst, LV.I, LV.B, LV.U, LV.S, LV.nil, Nat.reduceEqDiff, Nat.reduceAdd, Nat.reduceMul, Nat.reduceSub, Nat.reduceLeDiff, Nat.reduceBEq, Nat.reduceDiv, Nat.reduceMod, Int.reduceToNat, Int.reduceLT, Int.reduceLE, Int.reduceAdd, Int.reduceSub, Int.reduceMul, Int.reduceEq, Int.reduceNeg, reduceCtorEq, resV, resAll, ARes.ev, LV.flat, ite_true, ite_false, exists_eq_left', exists_eq_left, keyOf, implies_true, fillC, capOf]
          rw [show (LV.val (.int .i64 c.a) :: LV.val (.int .i64 c.b) :: LV.val (.int .i64 c.c) :: triL cs) = triL (List.take 0 cs ++ c :: List.drop 0 cs) by simp [triL, Cell.row], show 1 + (cs.length - 0) = (List.take 0 cs ++ c :: List.drop 0 cs).length by simp; omega]
          exact cmp_keep1 (j := 6) rfl (triL_lo _) (by simp [rn, rn0, rn1, keepR_n])
        · rw [appendK_pos hk0 (by rw [getCells_app ht]; exact g1) (by rw [at_j]; rfl) (by simp)]
          simp (disch := omega) only [hat, ↓SXd, SXu, slBounds, ↓sop, ↓aop, ↓reduceIte, LV.cells, AOp.dst, LV.I, LV.B, LV.U, LV.S, LV.nil, Nat.reduceEqDiff, Nat.reduceAdd, Nat.reduceMul, Nat.reduceSub, Nat.reduceLeDiff, Nat.reduceBEq, Nat.reduceDiv, Nat.reduceMod, Int.reduceToNat, Int.reduceLT, Int.reduceLE, Int.reduceAdd, Int.reduceSub, Int.reduceMul, Int.reduceEq, Int.reduceNeg, reduceCtorEq, resV, resAll, ARes.ev, LV.flat, ite_true, ite_false, exists_eq_left', exists_eq_left, keyOf, implies_true, fillC, capOf]
          rw [appendK_pos (by omega) (by rw [cells_j]; rfl) (by rw [at_j]; rfl) (by simp [hT1])]
          simp (disch := omega) only [hat, ↓SXd, SXu, slBounds, ↓sop, ↓aop, ↓reduceIte, LV.cells, AOp.dst, LV.I, LV.B, LV.U, LV.S, LV.nil, Nat.reduceEqDiff, Nat.reduceAdd, Nat.reduceMul, Nat.reduceSub, Nat.reduceLeDiff, Nat.reduceBEq, Nat.reduceDiv, Nat.reduceMod, Int.reduceToNat, Int.reduceLT, Int.reduceLE, Int.reduceAdd, Int.reduceSub, Int.reduceMul, Int.reduceEq, Int.reduceNeg, reduceCtorEq, resV, resAll, ARes.ev, LV.flat, ite_true, ite_false, exists_eq_left', exists_eq_left, keyOf, implies_true, fillC, capOf]
          rw [appendK_pos (by omega) (by rw [getCells_app ht]; exact g2) (by rw [at_j]; rfl) (by simp [hT1]; omega)]
          simp (disch := omega) only [hat, ↓SXd, SXu, slBounds, ↓sop, ↓aop, ↓reduceIte, LV.cells, AOp.dst, LV.I, LV.B, LV.U, LV.S, LV.nil, Nat.reduceEqDiff, Nat.reduceAdd, Nat.reduceMul, Nat.reduceSub, Nat.reduceLeDiff, Nat.reduceBEq, Nat.reduceDiv, Nat.reduceMod, Int.reduceToNat, Int.reduceLT, Int.reduceLE, Int.reduceAdd, Int.reduceSub, Int.reduceMul, Int.reduceEq, Int.reduceNeg, reduceCtorEq, resV, resAll, ARes.ev, LV.flat, ite_true, ite_false, exists_eq_left', exists_eq_left, keyOf, implies_true, fillC, capOf]
          refine callK_of (h_l2Made (by simp)) ?_
          simp (disch := omega) only [splice, ↓SXd, SXu, slBounds, ↓sop, ↓aop, ↓reduceIte, LV.cells, AOp.dst, LV.I, LV.B, LV.U, LV.S, LV.nil, Nat.reduceEqDiff, Nat.reduceAdd, Nat.reduceMul, Nat.reduceSub, Nat.reduceLeDiff, Nat.reduceBEq, Nat.reduceDiv, Nat.reduceMod, Int.reduceToNat, Int.reduceLT, Int.reduceLE, Int.reduceAdd, Int.reduceSub, Int.reduceMul, Int.reduceEq, Int.reduceNeg, reduceCtorEq, resV, resAll, ARes.ev, LV.flat, ite_true, ite_false, exists_eq_left', exists_eq_left, keyOf, implies_true, fillC, capOf]
          simp (disch := omega) only [f4, splice, hat, ↓SXd, SXu, slBounds, ↓sop, ↓aop, ↓reduceIte, LV.cells, AOp.dst, LV.I, LV.B, LV.U, LV.S, LV.nil, Nat.reduceEqDiff, Nat.reduceAdd, Nat.reduceMul, Nat.reduceSub, Nat.reduceLeDiff, Nat.reduceBEq, Nat.reduceDiv, Nat.reduceMod, Int.reduceToNat, Int.reduceLT, Int.reduceLE, Int.reduceAdd, Int.reduceSub, Int.reduceMul, Int.reduceEq, Int.reduceNeg, reduceCtorEq, resV, resAll, ARes.ev, LV.flat, ite_true, ite_false, exists_eq_left', exists_eq_left, keyOf, implies_true, fillC, capOf]
          rw [show List.take ((k + 1) * 3) (List.take (k * 3) (triL (List.take k cs)) ++ [LV.val (.int .i64 c.a), LV.val (.int .i64 c.b), LV.val (.int .i64 c.c)]) ++ triL (List.drop k cs) = triL (List.take k cs ++ c :: List.drop k cs) by
            rw [List.take_of_length_le (by simp [hT1]; omega), List.take_of_length_le (by omega)]
            simp [triL, Cell.row], show k + 1 + (cs.length - k) = (List.take k cs ++ c :: List.drop k cs).length by simp; omega]
          exact cmp_keep1 (j := 7) rfl (triL_lo _) (by simp [rn, rn0, rn1, keepR_n])
  · have hkn : k = cs.length := by omega
    have hwp := with_pick hH hc (k := k) (by omega) hlo (fun h => absurd h hkl)
    rw [← hwp]
    have hat : ∀ L : Mem, (M ++ L)[t]? = M[t]? := fun L => List.getElem?_append_left ht
    have g1 : getCells M t 0 (k * 3) = some (triL (cs.take k)) := Tri.all (Tri.take hT (by omega)) (by simp; omega)
    have hT1 : (triL (cs.take k)).length = k * 3 := by rw [triL_len]; simp; omega
    have hz : cs.length - k = 0 := by omega
    simp (disch := omega) only [f2, f3, f4, f5, hgE, Nat.sub_zero, hz, ↓SXd, SXu, slBounds, ↓sop, ↓aop, ↓reduceIte, LV.cells, AOp.dst, LV.I, LV.B, LV.U, LV.S, LV.nil, Nat.reduceEqDiff, Nat.reduceAdd, Nat.reduceMul, Nat.reduceSub, Nat.reduceLeDiff, Nat.reduceBEq, Nat.reduceDiv, Nat.reduceMod, Int.reduceToNat, Int.reduceLT, Int.reduceLE, Int.reduceAdd, Int.reduceSub, Int.reduceMul, Int.reduceEq, Int.reduceNeg, reduceCtorEq, resV, resAll, ARes.ev, LV.flat, ite_true, ite_false, exists_eq_left', exists_eq_left, keyOf, implies_true, fillC, capOf]
    rcases Nat.eq_zero_or_pos k with hk0 | hk0
    · subst hk0
      rw [appendK_zero]
      simp (disch := omega) only [hat, ↓SXd, SXu, slBounds, ↓sop, ↓aop, ↓reduceIte, LV.cells, AOp.dst, LV.I, LV.B, LV.U, LV.S, LV.nil, Nat.reduceEqDiff, Nat.reduceAdd, Nat.reduceMul, Nat.reduceSub, Nat.reduceLeDiff, Nat.reduceBEq, Nat.reduceDiv, Nat.reduceMod, Int.reduceToNat, Int.reduceLT, Int.reduceLE, Int.reduceAdd, Int.reduceSub, Int.reduceMul, Int.reduceEq, Int.reduceNeg, reduceCtorEq, resV, resAll, ARes.ev, LV.flat, ite_true, ite_false, exists_eq_left', exists_eq_left, keyOf, implies_true, fillC, capOf]
      rw [appendK_pos (by omega) (by rw [cells_j]; rfl) (by rw [at_j]; rfl) (by simp)]
      simp (disch := omega) only [hat, ↓SXd, SXu, slBounds, ↓sop, ↓aop, ↓reduceIte, LV.cells, AOp.dst, LV.I, LV.B, LV.U, LV.S, LV.nil, Nat.reduceEqDiff, Nat.reduceAdd, Nat.reduceMul, Nat.reduceSub, Nat.reduceLeDiff, Nat.reduceBEq, Nat.reduceDiv, Nat.reduceMod, Int.reduceToNat, Int.reduceLT, Int.reduceLE, Int.reduceAdd, Int.reduceSub, Int.reduceMul, Int.reduceEq, Int.reduceNeg, reduceCtorEq, resV, resAll, ARes.ev, LV.flat, ite_true, ite_false, exists_eq_left', exists_eq_left, keyOf, implies_true, fillC, capOf]
      rw [appendK_zero]
      simp (disch := omega) only [List.length_append, List.length_set, hat, ↓SXd, SXu, slBounds, ↓sop, ↓aop, ↓reduceIte, LV.cells, AOp.dst, LV.I, LV.B, LV.U, LV.S, LV.nil, Nat.reduceEqDiff, Nat.reduceAdd, Nat.reduceMul, Nat.reduceSub, Nat.reduceLeDiff, Nat.reduceBEq, Nat.reduceDiv, Nat.reduceMod, Int.reduceToNat, Int.reduceLT, Int.reduceLE, Int.reduceAdd, Int.reduceSub, Int.reduceMul, Int.reduceEq, Int.reduceNeg, reduceCtorEq, resV, resAll, ARes.ev, LV.flat, ite_true, ite_false, exists_eq_left', exists_eq_left, keyOf, implies_true, fillC, capOf]
      refine callK_of (h_l2Made (by simp)) ?_
      simp (disch := omega) only [splice, ↓SXd, SXu, slBounds, ↓sop, ↓aop, ↓reduceIte, LV.cells, AOp.dst, LV.I, LV.B, LV.U, LV.S, LV.nil, Nat.reduceEqDiff, Nat.reduceAdd, Nat.reduceMul, Nat.reduceSub, Nat.reduceLeDiff, Nat.reduceBEq, Nat.reduceDiv, Nat.reduceMod, Int.reduceToNat, Int.reduceLT, Int.reduceLE, Int.reduceAdd, Int.reduceSub, Int.reduceMul, Int.reduceEq, Int.reduceNeg, reduceCtorEq, resV, resAll, ARes.ev, LV.flat, ite_true, ite_false, exists_eq_left', exists_eq_left, keyOf, implies_true, fillC, capOf]
      simp (disch := omega) only [f4, splice, hat, ↓SXd, SXu, slBounds, ↓sop, ↓aop, ↓reduceIte, LV.cells, AOp.dst, LV.I, LV.B, LV.U, LV.S, LV.nil, Nat.reduceEqDiff, Nat.reduceAdd, Nat.reduceMul, Nat.reduceSub, Nat.reduceLeDiff, Nat.reduceBEq, Nat.reduceDiv, Nat.reduceMod, Int.reduceToNat, Int.reduceLT, Int.reduceLE, Int.reduceAdd, Int.reduceSub, Int.reduceMul, Int.reduceEq, Int.reduceNeg, reduceCtorEq, resV, resAll, ARes.ev, LV.flat, ite_true, ite_false, exists_eq_left', exists_eq_left, keyOf, implies_true, fillC, capOf]
      have hnil : cs = [] := List.eq_nil_of_length_eq_zero (by omega)
      subst hnil
      exact cmp_keep1 (j := 5) (cs := triL [c]) rfl (triL_lo _) (by simp [rn, rn0, rn1, keepR_n])
    · rw [appendK_pos hk0 (by rw [getCells_app ht]; exact g1) (by rw [at_j]; rfl) (by simp)]
      simp (disch := omega) only [hat, ↓SXd, SXu, slBounds, ↓sop, ↓aop, ↓reduceIte, LV.cells, AOp.dst, LV.I, LV.B, LV.U, LV.S, LV.nil, Nat.reduceEqDiff, Nat.reduceAdd, Nat.reduceMul, Nat.reduceSub, Nat.reduceLeDiff, Nat.reduceBEq, Nat.reduceDiv, Nat.reduceMod, Int.reduceToNat, Int.reduceLT, Int.reduceLE, Int.reduceAdd, Int.reduceSub, Int.reduceMul, Int.reduceEq, Int.reduceNeg, reduceCtorEq, resV, resAll, ARes.ev, LV.flat, ite_true, ite_false, exists_eq_left', exists_eq_left, keyOf, implies_true, fillC, capOf]
      rw [appendK_pos (by omega) (by rw [cells_j]; rfl) (by rw [at_j]; rfl) (by simp [hT1])]
      simp (disch := omega) only [hat, ↓SXd, SXu, slBounds, ↓sop, ↓aop, ↓reduceIte, LV.cells, AOp.dst, LV.I, LV.B, LV.U, LV.S, LV.nil, Nat.reduceEqDiff, Nat.reduceAdd, Nat.reduceMul, Nat.reduceSub, Nat.reduceLeDiff, Nat.reduceBEq, Nat.reduceDiv, Nat.reduceMod, Int.reduceToNat, Int.reduceLT, Int.reduceLE, Int.reduceAdd, Int.reduceSub, Int.reduceMul, Int.reduceEq, Int.reduceNeg, reduceCtorEq, resV, resAll, ARes.ev, LV.flat, ite_true, ite_false, exists_eq_left', exists_eq_left, keyOf, implies_true, fillC, capOf]
      rw [appendK_zero]
      simp (disch := omega) only [hat, ↓SXd, SXu, slBounds, ↓sop, ↓aop, ↓reduceIte, LV.cells, AOp.dst, LV.I, LV.B, LV.U, LV.S, LV.nil, Nat.reduceEqDiff, Nat.reduceAdd, Nat.reduceMul, Nat.reduceSub, Nat.reduceLeDiff, Nat.reduceBEq, Nat.reduceDiv, Nat.reduceMod, Int.reduceToNat, Int.reduceLT, Int.reduceLE, Int.reduceAdd, Int.reduceSub, Int.reduceMul, Int.reduceEq, Int.reduceNeg, reduceCtorEq, resV, resAll, ARes.ev, LV.flat, ite_true, ite_false, exists_eq_left', exists_eq_left, keyOf, implies_true, fillC, capOf]
      refine callK_of (h_l2Made (by simp)) ?_
      simp (disch := omega) only [splice, ↓SXd, SXu, slBounds, ↓sop, ↓aop, ↓reduceIte, LV.cells, AOp.dst, LV.I, LV.B, LV.U, LV.S, LV.nil, Nat.reduceEqDiff, Nat.reduceAdd, Nat.reduceMul, Nat.reduceSub, Nat.reduceLeDiff, Nat.reduceBEq, Nat.reduceDiv, Nat.reduceMod, Int.reduceToNat, Int.reduceLT, Int.reduceLE, Int.reduceAdd, Int.reduceSub, Int.reduceMul, Int.reduceEq, Int.reduceNeg, reduceCtorEq, resV, resAll, ARes.ev, LV.flat, ite_true, ite_false, exists_eq_left', exists_eq_left, keyOf, implies_true, fillC, capOf]
      simp (disch := omega) only [f4, splice, hat, ↓SXd, SXu, slBounds, ↓sop, ↓aop, ↓reduceIte, LV.cells, AOp.dst, LV.I, LV.B, LV.U, LV.S, LV.nil, Nat.reduceEqDiff, Nat.reduceAdd, Nat.reduceMul, Nat.reduceSub, Nat.reduceLeDiff, Nat.reduceBEq, Nat.reduceDiv, Nat.reduceMod, Int.reduceToNat, Int.reduceLT, Int.reduceLE, Int.reduceAdd, Int.reduceSub, Int.reduceMul, Int.reduceEq, Int.reduceNeg, reduceCtorEq, resV, resAll, ARes.ev, LV.flat, ite_true, ite_false, exists_eq_left', exists_eq_left, keyOf, implies_true, fillC, capOf]
      rw [show List.take (k * 3) (triL (List.take k cs)) ++ [LV.val (.int .i64 c.a), LV.val (.int .i64 c.b), LV.val (.int .i64 c.c)] = triL (List.take k cs ++ c :: List.drop k cs) by
        rw [List.take_of_length_le (by omega), hkn]
        simp [triL, Cell.row], show k + 1 = (List.take k cs ++ c :: List.drop k cs).length by simp; omega]
      exact cmp_keep1 (j := 6) rfl (triL_lo _) (by simp [rn, rn0, rn1, keepR_n])
end Go.Ab

/- Plain words: what is reached from some cells within a set. -/
namespace Go.Ab

/-- What is reached from the cells of p by way of cells of q, all in the box. -/
inductive Reach (x y z : Int) (p q : Cell → Bool) : Cell → Prop
  | base {c : Cell} : c.inBox x y z → p c = true → Reach x y z p q c
  | step {c d : Cell} : Reach x y z p q c → apart c d = 1 → d.inBox x y z → q d = true → Reach x y z p q d
noncomputable def reach (x y z : Int) (p q : Cell → Bool) : Cell → Bool := fun c => @decide (Reach x y z p q c) (Classical.propDecidable _)
theorem reach_iff {x y z : Int} {p q : Cell → Bool} {c : Cell} : reach x y z p q c = true ↔ Reach x y z p q c := by
  unfold reach; exact @decide_eq_true_iff _ (Classical.propDecidable _)
theorem Reach.inBox {x y z : Int} {p q : Cell → Bool} {c : Cell} (h : Reach x y z p q c) : c.inBox x y z := by
  cases h <;> assumption
theorem Reach.mono {x y z : Int} {p q p' q' : Cell → Bool} (hp : ∀ c, c.inBox x y z → p c = true → Reach x y z p' q' c) (hq : ∀ c, c.inBox x y z → q c = true → q' c = true) {c : Cell} (h : Reach x y z p q c) : Reach x y z p' q' c := by
  induction h with
  | base h1 h2 => exact hp _ h1 h2
  | step _ h2 h3 h4 ih => exact .step ih h2 h3 (hq _ h3 h4)
/-- What holds of the beginning and is carried on holds of all that is reached. -/
theorem Reach.ind {x y z : Int} {p q : Cell → Bool} {P : Cell → Prop} (h0 : ∀ c, c.inBox x y z → p c = true → P c) (h1 : ∀ c d, P c → apart c d = 1 → d.inBox x y z → q d = true → P d) {c : Cell} (h : Reach x y z p q c) : P c := by
  induction h with
  | base h2 h3 => exact h0 _ h2 h3
  | step _ h2 h3 h4 ih => exact h1 _ _ ih h2 h3 h4
theorem apart_comm (c d : Cell) : apart c d = apart d c := by unfold apart; omega

/-- One round of growing: only of the first k cells. -/
noncomputable def growK (y z : Int) (p q : Cell → Bool) (k : Nat) : Cell → Bool := by
  classical
  exact fun c => p c || (q c && decide (∃ j, j < k ∧ p (cellAt y z j) = true ∧ apart (cellAt y z j) c = 1))
theorem growK_iff {y z : Int} {p q : Cell → Bool} {k : Nat} {c : Cell} : growK y z p q k c = true ↔ p c = true ∨ (q c = true ∧ ∃ j, j < k ∧ p (cellAt y z j) = true ∧ apart (cellAt y z j) c = 1) := by
  unfold growK
  simp only [Bool.or_eq_true, Bool.and_eq_true, decide_eq_true_eq]
theorem growK_zero {y z : Int} {p q : Cell → Bool} : growK y z p q 0 = p := by
  funext c
  have := growK_iff (y := y) (z := z) (p := p) (q := q) (k := 0) (c := c)
  cases hp : p c <;> simp_all
theorem growK_succ {y z : Int} {p q : Cell → Bool} {k : Nat} (c : Cell) : growK y z p q (k + 1) c = if p (cellAt y z k) then (growK y z p q k c || (decide (apart (cellAt y z k) c = 1) && q c)) else growK y z p q k c := by
  have h1 := growK_iff (y := y) (z := z) (p := p) (q := q) (k := k) (c := c)
  have h2 := growK_iff (y := y) (z := z) (p := p) (q := q) (k := k + 1) (c := c)
  split
  · rename_i hp
    rw [Bool.eq_iff_iff, h2, Bool.or_eq_true, h1, Bool.and_eq_true, decide_eq_true_eq]
    constructor
    · rintro (h | ⟨hq, j, hj, h3, h4⟩)
      · exact .inl (.inl h)
      · rcases Nat.lt_or_ge j k with h5 | h5
        · exact .inl (.inr ⟨hq, j, h5, h3, h4⟩)
        · rw [show j = k by omega] at h4; exact .inr ⟨h4, hq⟩
    · rintro ((h | ⟨hq, j, hj, h3, h4⟩) | ⟨h4, hq⟩)
      · exact .inl h
      · exact .inr ⟨hq, j, by omega, h3, h4⟩
      · exact .inr ⟨hq, k, by omega, hp, h4⟩
  · rename_i hp
    rw [Bool.eq_iff_iff, h2, h1]
    constructor
    · rintro (h | ⟨hq, j, hj, h3, h4⟩)
      · exact .inl h
      · rcases Nat.lt_or_ge j k with h5 | h5
        · exact .inr ⟨hq, j, h5, h3, h4⟩
        · rw [show j = k by omega] at h3; exact absurd h3 hp
    · rintro (h | ⟨hq, j, hj, h3, h4⟩)
      · exact .inl h
      · exact .inr ⟨hq, j, by omega, h3, h4⟩

section
variable {x y z : Int} (hS : Sides x y z)
include hS
theorem grow_iff {p q : Cell → Bool} {c : Cell} : growK y z p q (vol x y z) c = true ↔ p c = true ∨ (q c = true ∧ ∃ d, d.inBox x y z ∧ p d = true ∧ apart d c = 1) := by
  have hv := vol_cast hS
  rw [growK_iff]
  constructor
  · rintro (h | ⟨h1, j, h2, h3, h4⟩)
    · exact .inl h
    · exact .inr ⟨h1, _, (cellAt_in hS (by omega) (by omega)).1, h3, h4⟩
  · rintro (h | ⟨h1, d, h2, h3, h4⟩)
    · exact .inl h
    · obtain ⟨k1, k2, k3⟩ := idx_in hS h2
      refine .inr ⟨h1, (idx y z d).toNat, by omega, ?_, ?_⟩
      · rw [Int.toNat_of_nonneg k1, k3]; exact h3
      · rw [Int.toNat_of_nonneg k1, k3]; exact h4
/-- How many cells of the box are not in the set. -/
def rest (x y z : Int) (p : Cell → Bool) : Nat := (pick x y z fun c => !p c).length
theorem filter_lt {α : Type} {l : List α} {p q : α → Bool} (h : ∀ a ∈ l, p a = true → q a = true) (hx : ∃ a ∈ l, q a = true ∧ p a = false) : (l.filter p).length < (l.filter q).length := by
  induction l with
  | nil => obtain ⟨a, ha, _⟩ := hx; cases ha
  | cons a l ih =>
    have hle : (l.filter p).length ≤ (l.filter q).length := by
      clear ih hx
      induction l with
      | nil => exact Nat.le_refl _
      | cons b l ih =>
        have := ih fun c hc => h c (by simp only [List.mem_cons] at hc ⊢; rcases hc with h | h <;> simp [h])
        by_cases hb : p b = true
        · rw [List.filter_cons_of_pos hb, List.filter_cons_of_pos (h b (by simp) hb)]; simpa using this
        · rw [List.filter_cons_of_neg hb]
          by_cases hq : q b = true
          · rw [List.filter_cons_of_pos hq, List.length_cons]; omega
          · rw [List.filter_cons_of_neg hq]; exact this
    by_cases ha : p a = true
    · have := ih (fun b hb => h b (by simp [hb])) (by
        obtain ⟨b, hb, h1, h2⟩ := hx
        rcases List.mem_cons.1 hb with rfl | hb
        · rw [ha] at h2; cases h2
        · exact ⟨b, hb, h1, h2⟩)
      rw [List.filter_cons_of_pos ha, List.filter_cons_of_pos (h a (by simp) ha), List.length_cons, List.length_cons]; omega
    · rw [List.filter_cons_of_neg ha]
      by_cases hq : q a = true
      · rw [List.filter_cons_of_pos hq, List.length_cons]; omega
      · rw [List.filter_cons_of_neg hq]
        exact ih (fun b hb => h b (by simp [hb])) (by
          obtain ⟨b, hb, h1, h2⟩ := hx
          rcases List.mem_cons.1 hb with rfl | hb
          · exact absurd h1 hq
          · exact ⟨b, hb, h1, h2⟩)
theorem rest_lt {p p' : Cell → Bool} (h : ∀ c, c.inBox x y z → p c = true → p' c = true) (hx : ∃ c, c.inBox x y z ∧ p c = false ∧ p' c = true) : rest x y z p' < rest x y z p := by
  unfold rest pick
  refine filter_lt hS (fun c hc hp => ?_) ?_
  · cases hh : p c with
    | false => rfl
    | true => rw [h c ((mem_cellsOf hS).1 hc) hh] at hp; cases hp
  · obtain ⟨c, h1, h2, h3⟩ := hx
    exact ⟨c, (mem_cellsOf hS).2 h1, by rw [h2]; rfl, by rw [h3]; rfl⟩
theorem rest_le (p : Cell → Bool) : rest x y z p ≤ 64 := pick_len hS _
/-- What does not grow is all that is reached. -/
theorem reach_of_fix {p q r : Cell → Bool} (h0 : ∀ c, c.inBox x y z → p c = true → r c = true) (h1 : ∀ c, c.inBox x y z → r c = true → Reach x y z p q c) (h2 : ∀ c, c.inBox x y z → growK y z r q (vol x y z) c = r c) :
    ∀ c, c.inBox x y z → r c = reach x y z p q c := by
  intro c hc
  rw [Bool.eq_iff_iff, reach_iff]
  refine ⟨h1 c hc, fun h => ?_⟩
  have : r c = true := by
    refine h.ind (P := fun c => c.inBox x y z ∧ r c = true) (fun c h3 h4 => ⟨h3, h0 c h3 h4⟩) (fun c d ⟨h3, h4⟩ h5 h6 h7 => ⟨h6, ?_⟩) |>.2
    rw [← h2 d h6]
    exact (grow_iff hS).2 (.inr ⟨h7, c, h3, h4, h5⟩)
  exact this
end
end Go.Ab
