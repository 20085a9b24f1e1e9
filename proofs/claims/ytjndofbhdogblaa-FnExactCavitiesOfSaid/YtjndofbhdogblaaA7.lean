/- Parts of the proof of FnExactCavitiesOfSaid: Nc Pb C_Od K_Od C_Ob K_Ob C_Oa K_Oa C_Dd K_Dd C_Dc K_Dc C_Db K_Db Db Dc Dd Oa. -/
import Derived.Test.YtjndofbhdogblaaA6
import Derived.Test.YtjndofbhdogblaaA4
import Derived.Test.YtjndofbhdogblaaA5
import Derived.Test.YtjndofbhdogblaaA3
import Derived.Test.YtjndofbhdogblaaProg
import Derived.KernelRfl
set_option linter.all false
/- Contracts: neighbours; what grows. -/
namespace Go.Ab
open Go
set_option linter.unusedSimpArgs false
set_option linter.unusedVariables false

/-- The first k neighbours of a cell. -/
def nbrK (c : Cell) (k : Nat) (e : Cell) : Bool := decide (e ∈ (nbrs c).take k)
theorem nbrK_step {c : Cell} {k : Nat} (hk : k < 6) (e : Cell) : nbrK c (k + 1) e = (nbrK c k e || decide (e = (nbrs c).getD k default)) := (take_dec (cs := nbrs c) (by simpa [nbrs] using hk)).symm

section
variable {x y z : Int} (hS : Sides x y z)
include hS
theorem g_nearSet {c : Cell} {M : Mem} (hc : c.inBox x y z) : CallsTo PG F.impl_box_near [.agg [.I x, .I y, .I z], .agg [.I c.a, .I c.b, .I c.c]] M (.W (bs x y z fun d => decide (apart c d = 1))) M := by
  obtain ⟨h1, h2, h3⟩ := id hc
  obtain ⟨hx, hy, hz⟩ := id hS
  refine calls_run K.impl_box_near rfl ?_
  simp (disch := omega) only [C.impl_box_near, ↓SXd, SXu, slBounds, ↓sop, ↓aop, ↓reduceIte, LV.cells, AOp.dst, LV.I, LV.B, LV.U, LV.S, LV.nil, Nat.reduceEqDiff, Nat.reduceAdd, Nat.reduceMul, Nat.reduceSub, Nat.reduceLeDiff, Nat.reduceBEq, Nat.reduceDiv, Nat.reduceMod, Int.reduceToNat, Int.reduceLT, Int.reduceLE, Int.reduceAdd, Int.reduceSub, Int.reduceMul, Int.reduceEq, Int.reduceNeg, reduceCtorEq, resV, resAll, ARes.ev, LV.flat, ite_true, ite_false, exists_eq_left', exists_eq_left, keyOf, implies_true, fillC, capOf]
  refine ev_loop (fun m fr M' => ∃ d : Nat, d + m = 3 ∧ Pre M M' ∧ Live M' M.length (.row [.I x, .I y, .I z] true 0) ∧ Live M' (M.length + 1) (.row [.I c.a, .I c.b, .I c.c] true 0) ∧
    fr 2 = .ptr M.length 0 ∧ fr 3 = .ptr (M.length + 1) 0 ∧ fr 5 = .W (bs x y z (nbrK c (2 * d))) ∧ fr 10 = .I d) 3
    ⟨0, rfl, Pre.app _ _, Live.new, Live.newj rfl, rfl, rfl, by rw [show bs x y z (nbrK c (2 * 0)) = 0#64 from (bs_zero hS).2 fun e _ => decide_eq_false (by simp)]; rfl, rfl⟩ ?_
  rintro m fr M' ⟨d, hd, hpre, hbox, hcell, f2, f3, f5, f10⟩
  simp (disch := omega) only [f2, f3, f5, f10, ↓SXd, SXu, slBounds, ↓sop, ↓aop, ↓reduceIte, LV.cells, AOp.dst, LV.I, LV.B, LV.U, LV.S, LV.nil, Nat.reduceEqDiff, Nat.reduceAdd, Nat.reduceMul, Nat.reduceSub, Nat.reduceLeDiff, Nat.reduceBEq, Nat.reduceDiv, Nat.reduceMod, Int.reduceToNat, Int.reduceLT, Int.reduceLE, Int.reduceAdd, Int.reduceSub, Int.reduceMul, Int.reduceEq, Int.reduceNeg, reduceCtorEq, resV, resAll, ARes.ev, LV.flat, ite_true, ite_false, exists_eq_left', exists_eq_left, keyOf, implies_true, fillC, capOf]
  refine condC_dec (fun hlt => ?_) (fun hlt => ?_)
  rotate_left
  · simp (disch := omega) only [f2, f3, f5, f10, ↓SXd, SXu, slBounds, ↓sop, ↓aop, ↓reduceIte, LV.cells, AOp.dst, LV.I, LV.B, LV.U, LV.S, LV.nil, Nat.reduceEqDiff, Nat.reduceAdd, Nat.reduceMul, Nat.reduceSub, Nat.reduceLeDiff, Nat.reduceBEq, Nat.reduceDiv, Nat.reduceMod, Int.reduceToNat, Int.reduceLT, Int.reduceLE, Int.reduceAdd, Int.reduceSub, Int.reduceMul, Int.reduceEq, Int.reduceNeg, reduceCtorEq, resV, resAll, ARes.ev, LV.flat, ite_true, ite_false, exists_eq_left', exists_eq_left, keyOf, implies_true, fillC, capOf]
    have : d = 3 := by omega
    subst this
    rw [show bs x y z (nbrK c (2 * 3)) = bs x y z fun d => decide (apart c d = 1) from (bs_eq hS).2 fun e _ => decide_eq_decide.2 (mem_nbrs (c := c) (d := e))]
    exact cmp_pre hpre rfl
  · simp (disch := omega) only [f2, f3, f5, f10, splice, ↓SXd, SXu, slBounds, ↓sop, ↓aop, ↓reduceIte, LV.cells, AOp.dst, LV.I, LV.B, LV.U, LV.S, LV.nil, Nat.reduceEqDiff, Nat.reduceAdd, Nat.reduceMul, Nat.reduceSub, Nat.reduceLeDiff, Nat.reduceBEq, Nat.reduceDiv, Nat.reduceMod, Int.reduceToNat, Int.reduceLT, Int.reduceLE, Int.reduceAdd, Int.reduceSub, Int.reduceMul, Int.reduceEq, Int.reduceNeg, reduceCtorEq, resV, resAll, ARes.ev, LV.flat, ite_true, ite_false, exists_eq_left', exists_eq_left, keyOf, implies_true, fillC, capOf]
    refine ev_loop (fun m2 fr N => ∃ j : Nat, j + m2 = 2 ∧ Pre M N ∧ Live N M.length (.row [.I x, .I y, .I z] true 0) ∧ Live N (M.length + 1) (.row [.I c.a, .I c.b, .I c.c] true 0) ∧
      fr 2 = .ptr M.length 0 ∧ fr 3 = .ptr (M.length + 1) 0 ∧ fr 5 = .W (bs x y z (nbrK c (2 * d + j))) ∧ fr 10 = .I d ∧ fr 6 = .I d ∧ fr 13 = .agg [.I (-1), .I 1] ∧ fr 14 = .I j) 2
      ⟨0, rfl, hpre, hbox, hcell, f2, f3, f5, f10, rfl, rfl, rfl⟩ ?_
    clear f2 f3 f5 f10 hpre hbox hcell
    rintro m2 fr N ⟨j, hj, hpre, hbox, hcell, f2, f3, f5, f10, f6, f13, f14⟩
    simp (disch := omega) only [f2, f3, f5, f10, f6, f13, f14, ↓SXd, SXu, slBounds, ↓sop, ↓aop, ↓reduceIte, LV.cells, AOp.dst, LV.I, LV.B, LV.U, LV.S, LV.nil, Nat.reduceEqDiff, Nat.reduceAdd, Nat.reduceMul, Nat.reduceSub, Nat.reduceLeDiff, Nat.reduceBEq, Nat.reduceDiv, Nat.reduceMod, Int.reduceToNat, Int.reduceLT, Int.reduceLE, Int.reduceAdd, Int.reduceSub, Int.reduceMul, Int.reduceEq, Int.reduceNeg, reduceCtorEq, resV, resAll, ARes.ev, LV.flat, ite_true, ite_false, exists_eq_left', exists_eq_left, keyOf, implies_true, fillC, capOf]
    refine condC_dec (fun hlt2 => ?_) (fun hlt2 => ?_)
    rotate_left
    · simp (disch := omega) only [f2, f3, f5, f10, f6, f13, f14, ↓SXd, SXu, slBounds, ↓sop, ↓aop, ↓reduceIte, LV.cells, AOp.dst, LV.I, LV.B, LV.U, LV.S, LV.nil, Nat.reduceEqDiff, Nat.reduceAdd, Nat.reduceMul, Nat.reduceSub, Nat.reduceLeDiff, Nat.reduceBEq, Nat.reduceDiv, Nat.reduceMod, Int.reduceToNat, Int.reduceLT, Int.reduceLE, Int.reduceAdd, Int.reduceSub, Int.reduceMul, Int.reduceEq, Int.reduceNeg, reduceCtorEq, resV, resAll, ARes.ev, LV.flat, ite_true, ite_false, exists_eq_left', exists_eq_left, keyOf, implies_true, fillC, capOf]
      have : j = 2 := by omega
      subst this
      exact ⟨m - 1, by omega, d + 1, by omega, hpre, hbox, hcell, f2, f3, f5, eqI (natI _)⟩
    · have hd3 : d = 0 ∨ d = 1 ∨ d = 2 := by omega
      have hj2 : j = 0 ∨ j = 1 := by omega
      have hlM := hcell.lt
      have key : ∀ e : Cell, (nbrs c).getD (2 * d + j) default = e → (e.inBox x y z → bs x y z (nbrK c (2 * d + j)) ||| 1#64 <<< (idx y z e).toNat = bs x y z (nbrK c (2 * d + (j + 1)))) ∧ (¬ e.inBox x y z → bs x y z (nbrK c (2 * d + j)) = bs x y z (nbrK c (2 * d + (j + 1)))) := by
        intro e he
        refine ⟨fun hin => ?_, fun hin => ?_⟩
        · rw [bs_one hS hin, bs_or hS]
          exact (bs_eq hS).2 fun f _ => by rw [show 2 * d + (j + 1) = 2 * d + j + 1 by omega, nbrK_step (by omega), he]
        · refine (bs_eq hS).2 fun f hf => ?_
          rw [show 2 * d + (j + 1) = 2 * d + j + 1 by omega, nbrK_step (by omega), he, decide_eq_false (fun h => hin (by rw [← h]; exact hf)), Bool.or_false]
      rcases hd3 with rfl | rfl | rfl <;> rcases hj2 with rfl | rfl
      all_goals
        simp only [Int.natCast_zero, Int.natCast_one, show (((2 : Nat)) : Int) = 2 from rfl] at f6 f10 f14
        obtain ⟨k1, k2⟩ := key _ rfl
        simp only [nbrs, List.getD_cons_zero, List.getD_cons_succ, Nat.reduceMul, Nat.reduceAdd] at k1 k2
        simp (disch := omega) only [f2, f3, f5, f10, f6, f13, f14, hcell.cells, hbox.cells, splice, hbox.app.cells, ↓SXd, SXu, slBounds, ↓sop, ↓aop, ↓reduceIte, LV.cells, AOp.dst, LV.I, LV.B, LV.U, LV.S, LV.nil, Nat.reduceEqDiff, Nat.reduceAdd, Nat.reduceMul, Nat.reduceSub, Nat.reduceLeDiff, Nat.reduceBEq, Nat.reduceDiv, Nat.reduceMod, Int.reduceToNat, Int.reduceLT, Int.reduceLE, Int.reduceAdd, Int.reduceSub, Int.reduceMul, Int.reduceEq, Int.reduceNeg, reduceCtorEq, resV, resAll, ARes.ev, LV.flat, ite_true, ite_false, exists_eq_left', exists_eq_left, keyOf, implies_true, fillC, capOf]
        refine callK_of (g_has hS) ?_
        simp (disch := omega) only [f2, f3, f5, f10, f6, f13, f14, hbox.app.cells, ↓SXd, SXu, slBounds, ↓sop, ↓aop, ↓reduceIte, LV.cells, AOp.dst, LV.I, LV.B, LV.U, LV.S, LV.nil, Nat.reduceEqDiff, Nat.reduceAdd, Nat.reduceMul, Nat.reduceSub, Nat.reduceLeDiff, Nat.reduceBEq, Nat.reduceDiv, Nat.reduceMod, Int.reduceToNat, Int.reduceLT, Int.reduceLE, Int.reduceAdd, Int.reduceSub, Int.reduceMul, Int.reduceEq, Int.reduceNeg, reduceCtorEq, resV, resAll, ARes.ev, LV.flat, ite_true, ite_false, exists_eq_left', exists_eq_left, keyOf, implies_true, fillC, capOf]
        refine condC_dec (fun hin => ?_) (fun hin => ?_)
        · have hix := (idx_in hS hin).1
          simp (disch := omega) only [f2, f3, f5, f10, f6, f13, f14, hbox.app.cells, ↓SXd, SXu, slBounds, ↓sop, ↓aop, ↓reduceIte, LV.cells, AOp.dst, LV.I, LV.B, LV.U, LV.S, LV.nil, Nat.reduceEqDiff, Nat.reduceAdd, Nat.reduceMul, Nat.reduceSub, Nat.reduceLeDiff, Nat.reduceBEq, Nat.reduceDiv, Nat.reduceMod, Int.reduceToNat, Int.reduceLT, Int.reduceLE, Int.reduceAdd, Int.reduceSub, Int.reduceMul, Int.reduceEq, Int.reduceNeg, reduceCtorEq, resV, resAll, ARes.ev, LV.flat, ite_true, ite_false, exists_eq_left', exists_eq_left, keyOf, implies_true, fillC, capOf]
          refine callK_of (g_index hS hin) ?_
          simp (disch := omega) only [f2, f3, f5, f10, f6, f13, f14, ↓SXd, SXu, slBounds, ↓sop, ↓aop, ↓reduceIte, LV.cells, AOp.dst, LV.I, LV.B, LV.U, LV.S, LV.nil, Nat.reduceEqDiff, Nat.reduceAdd, Nat.reduceMul, Nat.reduceSub, Nat.reduceLeDiff, Nat.reduceBEq, Nat.reduceDiv, Nat.reduceMod, Int.reduceToNat, Int.reduceLT, Int.reduceLE, Int.reduceAdd, Int.reduceSub, Int.reduceMul, Int.reduceEq, Int.reduceNeg, reduceCtorEq, resV, resAll, ARes.ev, LV.flat, ite_true, ite_false, exists_eq_left', exists_eq_left, keyOf, implies_true, fillC, capOf]
          rw [k1 hin]
          first
          | exact ⟨m2 - 1, by omega, 1, by omega, hpre.app', hbox.app, hcell.app, f2, f3, rfl, f10, f6, f13, rfl⟩
          | exact ⟨m2 - 1, by omega, 2, by omega, hpre.app', hbox.app, hcell.app, f2, f3, rfl, f10, f6, f13, rfl⟩
        · simp (disch := omega) only [f2, f3, f5, f10, f6, f13, f14, ↓SXd, SXu, slBounds, ↓sop, ↓aop, ↓reduceIte, LV.cells, AOp.dst, LV.I, LV.B, LV.U, LV.S, LV.nil, Nat.reduceEqDiff, Nat.reduceAdd, Nat.reduceMul, Nat.reduceSub, Nat.reduceLeDiff, Nat.reduceBEq, Nat.reduceDiv, Nat.reduceMod, Int.reduceToNat, Int.reduceLT, Int.reduceLE, Int.reduceAdd, Int.reduceSub, Int.reduceMul, Int.reduceEq, Int.reduceNeg, reduceCtorEq, resV, resAll, ARes.ev, LV.flat, ite_true, ite_false, exists_eq_left', exists_eq_left, keyOf, implies_true, fillC, capOf]
          rw [k2 hin] at f5
          first
          | exact ⟨m2 - 1, by omega, 1, by omega, hpre.app', hbox.app, hcell.app, f2, f3, f5, f10, f6, f13, rfl⟩
          | exact ⟨m2 - 1, by omega, 2, by omega, hpre.app', hbox.app, hcell.app, f2, f3, f5, f10, f6, f13, rfl⟩

theorem g_grown {p q : Cell → Bool} {M : Mem} : CallsTo PG F.impl_box_grown [.agg [.I x, .I y, .I z], .W (bs x y z p), .W (bs x y z q)] M (.W (bs x y z (reach x y z p q))) M := by
  have hv := vol_cast hS
  refine calls_run K.impl_box_grown rfl ?_
  simp (disch := omega) only [C.impl_box_grown, ↓SXd, SXu, slBounds, ↓sop, ↓aop, ↓reduceIte, LV.cells, AOp.dst, LV.I, LV.B, LV.U, LV.S, LV.nil, Nat.reduceEqDiff, Nat.reduceAdd, Nat.reduceMul, Nat.reduceSub, Nat.reduceLeDiff, Nat.reduceBEq, Nat.reduceDiv, Nat.reduceMod, Int.reduceToNat, Int.reduceLT, Int.reduceLE, Int.reduceAdd, Int.reduceSub, Int.reduceMul, Int.reduceEq, Int.reduceNeg, reduceCtorEq, resV, resAll, ARes.ev, LV.flat, ite_true, ite_false, exists_eq_left', exists_eq_left, keyOf, implies_true, fillC, capOf]
  refine ev_loop (fun m fr M' => ∃ r : Cell → Bool, rest x y z r = m ∧ (∀ c, c.inBox x y z → p c = true → r c = true) ∧ (∀ c, c.inBox x y z → r c = true → Reach x y z p q c) ∧ Pre M M' ∧ Live M' M.length (.row [.I x, .I y, .I z] true 0) ∧
    fr 1 = .W (bs x y z r) ∧ fr 2 = .W (bs x y z q) ∧ fr 3 = .ptr M.length 0) (rest x y z p)
    ⟨p, rfl, fun _ _ h => h, fun _ h1 h2 => .base h1 h2, Pre.app _ _, Live.new, rfl, rfl, rfl⟩ ?_
  rintro m fr M' ⟨r, hm, hr0, hr1, hpre, hbox, f1, f2, f3⟩
  simp (disch := omega) only [f1, f2, f3, hbox.cells, ↓SXd, SXu, slBounds, ↓sop, ↓aop, ↓reduceIte, LV.cells, AOp.dst, LV.I, LV.B, LV.U, LV.S, LV.nil, Nat.reduceEqDiff, Nat.reduceAdd, Nat.reduceMul, Nat.reduceSub, Nat.reduceLeDiff, Nat.reduceBEq, Nat.reduceDiv, Nat.reduceMod, Int.reduceToNat, Int.reduceLT, Int.reduceLE, Int.reduceAdd, Int.reduceSub, Int.reduceMul, Int.reduceEq, Int.reduceNeg, reduceCtorEq, resV, resAll, ARes.ev, LV.flat, ite_true, ite_false, exists_eq_left', exists_eq_left, keyOf, implies_true, fillC, capOf]
  refine callK_of (g_size hS) ?_
  simp (disch := omega) only [f1, f2, f3, ↓SXd, SXu, slBounds, ↓sop, ↓aop, ↓reduceIte, LV.cells, AOp.dst, LV.I, LV.B, LV.U, LV.S, LV.nil, Nat.reduceEqDiff, Nat.reduceAdd, Nat.reduceMul, Nat.reduceSub, Nat.reduceLeDiff, Nat.reduceBEq, Nat.reduceDiv, Nat.reduceMod, Int.reduceToNat, Int.reduceLT, Int.reduceLE, Int.reduceAdd, Int.reduceSub, Int.reduceMul, Int.reduceEq, Int.reduceNeg, reduceCtorEq, resV, resAll, ARes.ev, LV.flat, ite_true, ite_false, exists_eq_left', exists_eq_left, keyOf, implies_true, fillC, capOf]
  refine ev_loop (fun m2 fr N => ∃ k : Nat, k + m2 = vol x y z ∧ N = M' ∧ fr 1 = .W (bs x y z r) ∧ fr 2 = .W (bs x y z q) ∧ fr 3 = .ptr M.length 0 ∧ fr 7 = .W (bs x y z (growK y z r q k)) ∧ fr 11 = .I ((vol x y z : Nat) : Int) ∧ fr 12 = .I k) (vol x y z)
    ⟨0, by omega, rfl, f1, f2, f3, by rw [growK_zero]; rfl, rfl, rfl⟩ ?_
  clear f1 f2 f3
  rintro m2 fr N ⟨k, hk, rfl, f1, f2, f3, f7, f11, f12⟩
  simp (disch := omega) only [f1, f2, f3, f7, f11, f12, ↓SXd, SXu, slBounds, ↓sop, ↓aop, ↓reduceIte, LV.cells, AOp.dst, LV.I, LV.B, LV.U, LV.S, LV.nil, Nat.reduceEqDiff, Nat.reduceAdd, Nat.reduceMul, Nat.reduceSub, Nat.reduceLeDiff, Nat.reduceBEq, Nat.reduceDiv, Nat.reduceMod, Int.reduceToNat, Int.reduceLT, Int.reduceLE, Int.reduceAdd, Int.reduceSub, Int.reduceMul, Int.reduceEq, Int.reduceNeg, reduceCtorEq, resV, resAll, ARes.ev, LV.flat, ite_true, ite_false, exists_eq_left', exists_eq_left, keyOf, implies_true, fillC, capOf]
  refine condC_dec (fun hlt => ?_) (fun hlt => ?_)
  · simp (disch := omega) only [f1, f2, f3, f7, f11, f12, ↓SXd, SXu, slBounds, ↓sop, ↓aop, ↓reduceIte, LV.cells, AOp.dst, LV.I, LV.B, LV.U, LV.S, LV.nil, Nat.reduceEqDiff, Nat.reduceAdd, Nat.reduceMul, Nat.reduceSub, Nat.reduceLeDiff, Nat.reduceBEq, Nat.reduceDiv, Nat.reduceMod, Int.reduceToNat, Int.reduceLT, Int.reduceLE, Int.reduceAdd, Int.reduceSub, Int.reduceMul, Int.reduceEq, Int.reduceNeg, reduceCtorEq, resV, resAll, ARes.ev, LV.flat, ite_true, ite_false, exists_eq_left', exists_eq_left, keyOf, implies_true, fillC, capOf]
    refine callK_of (g_has_set (by omega)) ?_
    simp (disch := omega) only [f1, f2, f3, f7, f11, f12, ↓SXd, SXu, slBounds, ↓sop, ↓aop, ↓reduceIte, LV.cells, AOp.dst, LV.I, LV.B, LV.U, LV.S, LV.nil, Nat.reduceEqDiff, Nat.reduceAdd, Nat.reduceMul, Nat.reduceSub, Nat.reduceLeDiff, Nat.reduceBEq, Nat.reduceDiv, Nat.reduceMod, Int.reduceToNat, Int.reduceLT, Int.reduceLE, Int.reduceAdd, Int.reduceSub, Int.reduceMul, Int.reduceEq, Int.reduceNeg, reduceCtorEq, resV, resAll, ARes.ev, LV.flat, ite_true, ite_false, exists_eq_left', exists_eq_left, keyOf, implies_true, fillC, capOf]
    have hbit := bs_bit hS r k
    rw [decide_eq_true (show k < vol x y z by omega), Bool.true_and] at hbit
    rw [hbit]
    by_cases hp : r (cellAt y z k) = true
    · simp (disch := omega) only [f1, f2, f3, f7, f11, f12, hp, hbox.cells, ↓SXd, SXu, slBounds, ↓sop, ↓aop, ↓reduceIte, LV.cells, AOp.dst, LV.I, LV.B, LV.U, LV.S, LV.nil, Nat.reduceEqDiff, Nat.reduceAdd, Nat.reduceMul, Nat.reduceSub, Nat.reduceLeDiff, Nat.reduceBEq, Nat.reduceDiv, Nat.reduceMod, Int.reduceToNat, Int.reduceLT, Int.reduceLE, Int.reduceAdd, Int.reduceSub, Int.reduceMul, Int.reduceEq, Int.reduceNeg, reduceCtorEq, resV, resAll, ARes.ev, LV.flat, ite_true, ite_false, exists_eq_left', exists_eq_left, keyOf, implies_true, fillC, capOf]
      refine callK_of (g_cell hS (by omega) (by omega)) ?_
      simp (disch := omega) only [f1, f2, f3, f7, f11, f12, ↓SXd, SXu, slBounds, ↓sop, ↓aop, ↓reduceIte, LV.cells, AOp.dst, LV.I, LV.B, LV.U, LV.S, LV.nil, Nat.reduceEqDiff, Nat.reduceAdd, Nat.reduceMul, Nat.reduceSub, Nat.reduceLeDiff, Nat.reduceBEq, Nat.reduceDiv, Nat.reduceMod, Int.reduceToNat, Int.reduceLT, Int.reduceLE, Int.reduceAdd, Int.reduceSub, Int.reduceMul, Int.reduceEq, Int.reduceNeg, reduceCtorEq, resV, resAll, ARes.ev, LV.flat, ite_true, ite_false, exists_eq_left', exists_eq_left, keyOf, implies_true, fillC, capOf]
      refine callK_of (g_nearSet hS (c := cellAt y z k) (cellAt_in hS (by omega) (by omega)).1) ?_
      simp (disch := omega) only [f1, f2, f3, f7, f11, f12, ↓SXd, SXu, slBounds, ↓sop, ↓aop, ↓reduceIte, LV.cells, AOp.dst, LV.I, LV.B, LV.U, LV.S, LV.nil, Nat.reduceEqDiff, Nat.reduceAdd, Nat.reduceMul, Nat.reduceSub, Nat.reduceLeDiff, Nat.reduceBEq, Nat.reduceDiv, Nat.reduceMod, Int.reduceToNat, Int.reduceLT, Int.reduceLE, Int.reduceAdd, Int.reduceSub, Int.reduceMul, Int.reduceEq, Int.reduceNeg, reduceCtorEq, resV, resAll, ARes.ev, LV.flat, ite_true, ite_false, exists_eq_left', exists_eq_left, keyOf, implies_true, fillC, capOf]
      rw [bs_and hS, bs_or hS]
      exact ⟨m2 - 1, by omega, k + 1, by omega, rfl, f1, f2, f3, by rw [show bs x y z (growK y z r q (k + 1)) = _ from (bs_eq hS).2 fun c _ => growK_succ c]; simp only [hp, if_true]; rfl, f11, eqI (natI _)⟩
    · have hp' : r (cellAt y z k) = false := by simpa using hp
      simp (disch := omega) only [f1, f2, f3, f7, f11, f12, hp', ↓SXd, SXu, slBounds, ↓sop, ↓aop, ↓reduceIte, LV.cells, AOp.dst, LV.I, LV.B, LV.U, LV.S, LV.nil, Nat.reduceEqDiff, Nat.reduceAdd, Nat.reduceMul, Nat.reduceSub, Nat.reduceLeDiff, Nat.reduceBEq, Nat.reduceDiv, Nat.reduceMod, Int.reduceToNat, Int.reduceLT, Int.reduceLE, Int.reduceAdd, Int.reduceSub, Int.reduceMul, Int.reduceEq, Int.reduceNeg, reduceCtorEq, resV, resAll, ARes.ev, LV.flat, ite_true, ite_false, exists_eq_left', exists_eq_left, keyOf, implies_true, fillC, capOf]
      exact ⟨m2 - 1, by omega, k + 1, by omega, rfl, f1, f2, f3, by rw [show bs x y z (growK y z r q (k + 1)) = bs x y z (growK y z r q k) from (bs_eq hS).2 fun c _ => by rw [growK_succ c, hp', if_neg (by simp)]]; exact f7, f11, eqI (natI _)⟩
  · simp (disch := omega) only [f1, f2, f3, f7, f11, f12, ↓SXd, SXu, slBounds, ↓sop, ↓aop, ↓reduceIte, LV.cells, AOp.dst, LV.I, LV.B, LV.U, LV.S, LV.nil, Nat.reduceEqDiff, Nat.reduceAdd, Nat.reduceMul, Nat.reduceSub, Nat.reduceLeDiff, Nat.reduceBEq, Nat.reduceDiv, Nat.reduceMod, Int.reduceToNat, Int.reduceLT, Int.reduceLE, Int.reduceAdd, Int.reduceSub, Int.reduceMul, Int.reduceEq, Int.reduceNeg, reduceCtorEq, resV, resAll, ARes.ev, LV.flat, ite_true, ite_false, exists_eq_left', exists_eq_left, keyOf, implies_true, fillC, capOf]
    have : k = vol x y z := by omega
    subst this
    refine condC_dec (fun he => ?_) (fun he => ?_)
    · simp (disch := omega) only [f1, f2, f3, f7, f11, f12, ↓SXd, SXu, slBounds, ↓sop, ↓aop, ↓reduceIte, LV.cells, AOp.dst, LV.I, LV.B, LV.U, LV.S, LV.nil, Nat.reduceEqDiff, Nat.reduceAdd, Nat.reduceMul, Nat.reduceSub, Nat.reduceLeDiff, Nat.reduceBEq, Nat.reduceDiv, Nat.reduceMod, Int.reduceToNat, Int.reduceLT, Int.reduceLE, Int.reduceAdd, Int.reduceSub, Int.reduceMul, Int.reduceEq, Int.reduceNeg, reduceCtorEq, resV, resAll, ARes.ev, LV.flat, ite_true, ite_false, exists_eq_left', exists_eq_left, keyOf, implies_true, fillC, capOf]
      rw [show bs x y z (reach x y z p q) = bs x y z r from (bs_eq hS).2 fun c hc => (reach_of_fix hS hr0 hr1 ((bs_eq hS).1 he) c hc).symm]
      exact cmp_pre hpre rfl
    · simp (disch := omega) only [f1, f2, f3, f7, f11, f12, ↓SXd, SXu, slBounds, ↓sop, ↓aop, ↓reduceIte, LV.cells, AOp.dst, LV.I, LV.B, LV.U, LV.S, LV.nil, Nat.reduceEqDiff, Nat.reduceAdd, Nat.reduceMul, Nat.reduceSub, Nat.reduceLeDiff, Nat.reduceBEq, Nat.reduceDiv, Nat.reduceMod, Int.reduceToNat, Int.reduceLT, Int.reduceLE, Int.reduceAdd, Int.reduceSub, Int.reduceMul, Int.reduceEq, Int.reduceNeg, reduceCtorEq, resV, resAll, ARes.ev, LV.flat, ite_true, ite_false, exists_eq_left', exists_eq_left, keyOf, implies_true, fillC, capOf]
      refine ⟨rest x y z (growK y z r q (vol x y z)), ?_, growK y z r q (vol x y z), rfl, fun c hc h => (grow_iff hS).2 (.inl (hr0 c hc h)), fun c hc h => ?_, hpre, hbox, rfl, f2, f3⟩
      · rw [← hm]
        refine rest_lt hS (fun c hc h => (grow_iff hS).2 (.inl h)) ?_
        apply Classical.byContradiction
        intro hno
        apply he
        refine (bs_eq hS).2 fun c hc => ?_
        cases h1 : r c with
        | true => exact (grow_iff hS).2 (.inl h1)
        | false =>
          cases h2 : growK y z r q (vol x y z) c with
          | false => rfl
          | true => exact absurd ⟨c, hc, h1, h2⟩ hno
      · rcases (grow_iff hS).1 h with h | ⟨h1, d, h2, h3, h4⟩
        · exact hr1 c hc h
        · exact .step (hr1 d h2 h3) h4 hc h1
end
end Go.Ab

/- Contracts: counts of sets. -/
namespace Go.Ab
open Go
set_option linter.unusedSimpArgs false
set_option linter.unusedVariables false

theorem w_add {s u : BitVec 64} : binV .add (.val (.int .u64 ((s.toNat : Nat) : Int))) (.val (.int .u64 ((u.toNat : Nat) : Int))) = some (.val (.int .u64 (((s + u).toNat : Nat) : Int)), True) := by
  rw [bv_add, IntKind.wrap_u64, BitVec.toNat_add]
  congr 4
theorem w_andc {s : BitVec 64} {c : Nat} (hc : c < 18446744073709551616) : binV .and (.val (.int .u64 ((s.toNat : Nat) : Int))) (.val (.int .u64 (c : Int))) = some (.val (.int .u64 (((s &&& BitVec.ofNat 64 c).toNat : Nat) : Int)), True) := by
  have h := w_and (s := s) (u := BitVec.ofNat 64 c)
  rw [BitVec.toNat_ofNat, Nat.mod_eq_of_lt hc] at h; exact h
theorem w_m1 {s : BitVec 64} : binV .and (.val (.int .u64 ((s.toNat : Nat) : Int))) (.val (.int .u64 6148914691236517205)) = some (.val (.int .u64 (((s &&& 6148914691236517205#64).toNat : Nat) : Int)), True) := w_andc (c := 6148914691236517205) (by decide)
theorem w_m2 {s : BitVec 64} : binV .and (.val (.int .u64 ((s.toNat : Nat) : Int))) (.val (.int .u64 3689348814741910323)) = some (.val (.int .u64 (((s &&& 3689348814741910323#64).toNat : Nat) : Int)), True) := w_andc (c := 3689348814741910323) (by decide)
theorem w_m3 {s : BitVec 64} : binV .and (.val (.int .u64 ((s.toNat : Nat) : Int))) (.val (.int .u64 1085102592571150095)) = some (.val (.int .u64 (((s &&& 1085102592571150095#64).toNat : Nat) : Int)), True) := w_andc (c := 1085102592571150095) (by decide)

theorem conv_and {x : BitVec 64} : IntKind.i64.wrap (((BitVec.ofInt 64 (IntKind.i64.wrap ((x.toNat : Nat) : Int)) &&& BitVec.ofInt 64 127).toNat : Nat) : Int) = (((x &&& 127#64).toNat : Nat) : Int) := by
  have h1 : BitVec.ofInt 64 (IntKind.i64.wrap ((x.toNat : Nat) : Int)) = x := by
    apply BitVec.eq_of_toNat_eq
    have := x.isLt
    rw [BitVec.toNat_ofInt, IntKind.wrap_i64]
    omega
  have h2 : BitVec.ofInt 64 127 = 127#64 := rfl
  rw [h1, h2, IntKind.wrap_i64]
  have h3 : (x &&& 127#64).toNat ≤ 127 := by
    rw [BitVec.toNat_and]; exact Nat.and_le_right
  omega
theorem swar_le {s : BitVec 64} : (swar s).toNat ≤ 127 := by
  unfold swar
  rw [BitVec.toNat_and]; exact Nat.and_le_right

theorem g_OnesCount64 {s : BitVec 64} {M : Mem} : CallsTo PG F.math_bits_OnesCount64 [.W s] M (.I (((swar s).toNat : Nat) : Int)) M := by
  refine calls_run K.math_bits_OnesCount64 rfl ?_
  simp (disch := omega) only [C.math_bits_OnesCount64, w_shr, w_m1, w_m2, w_m3, w_add, ↓SXd, SXu, slBounds, ↓sop, ↓aop, ↓reduceIte, LV.cells, AOp.dst, LV.I, LV.B, LV.U, LV.S, LV.nil, Nat.reduceEqDiff, Nat.reduceAdd, Nat.reduceMul, Nat.reduceSub, Nat.reduceLeDiff, Nat.reduceBEq, Nat.reduceDiv, Nat.reduceMod, Int.reduceToNat, Int.reduceLT, Int.reduceLE, Int.reduceAdd, Int.reduceSub, Int.reduceMul, Int.reduceEq, Int.reduceNeg, reduceCtorEq, resV, resAll, ARes.ev, LV.flat, ite_true, ite_false, exists_eq_left', exists_eq_left, keyOf, implies_true, fillC, capOf]
  rw [conv_and]
  exact cmp_pre (Pre.refl _) rfl
theorem g_count {s : BitVec 64} {M : Mem} : CallsTo PG F.impl_set_count [.W s] M (.I (((swar s).toNat : Nat) : Int)) M := by
  refine calls_run K.impl_set_count rfl ?_
  simp (disch := omega) only [C.impl_set_count, ↓SXd, SXu, slBounds, ↓sop, ↓aop, ↓reduceIte, LV.cells, AOp.dst, LV.I, LV.B, LV.U, LV.S, LV.nil, Nat.reduceEqDiff, Nat.reduceAdd, Nat.reduceMul, Nat.reduceSub, Nat.reduceLeDiff, Nat.reduceBEq, Nat.reduceDiv, Nat.reduceMod, Int.reduceToNat, Int.reduceLT, Int.reduceLE, Int.reduceAdd, Int.reduceSub, Int.reduceMul, Int.reduceEq, Int.reduceNeg, reduceCtorEq, resV, resAll, ARes.ev, LV.flat, ite_true, ite_false, exists_eq_left', exists_eq_left, keyOf, implies_true, fillC, capOf]
  refine callK_of (g_OnesCount64) ?_
  simp (disch := omega) only [↓SXd, SXu, slBounds, ↓sop, ↓aop, ↓reduceIte, LV.cells, AOp.dst, LV.I, LV.B, LV.U, LV.S, LV.nil, Nat.reduceEqDiff, Nat.reduceAdd, Nat.reduceMul, Nat.reduceSub, Nat.reduceLeDiff, Nat.reduceBEq, Nat.reduceDiv, Nat.reduceMod, Int.reduceToNat, Int.reduceLT, Int.reduceLE, Int.reduceAdd, Int.reduceSub, Int.reduceMul, Int.reduceEq, Int.reduceNeg, reduceCtorEq, resV, resAll, ARes.ev, LV.flat, ite_true, ite_false, exists_eq_left', exists_eq_left, keyOf, implies_true, fillC, capOf]
  exact cmp_pre (Pre.refl _) rfl

theorem onRim_iff {x y z : Int} {c : Cell} (hc : c.inBox x y z) : onRim x y z c = true ↔ ∃ d : Cell, apart c d = 1 ∧ ¬ d.inBox x y z := by
  obtain ⟨⟨h1, h2⟩, ⟨h3, h4⟩, ⟨h5, h6⟩⟩ := hc
  unfold onRim
  rw [decide_eq_true_iff]
  constructor
  · rintro (h | h | h | h | h | h)
    · exact ⟨⟨c.a - 1, c.b, c.c⟩, by unfold apart; simp only; omega, fun k => by have := k.1.1; simp only at this; omega⟩
    · exact ⟨⟨c.a, c.b - 1, c.c⟩, by unfold apart; simp only; omega, fun k => by have := k.2.1.1; simp only at this; omega⟩
    · exact ⟨⟨c.a, c.b, c.c - 1⟩, by unfold apart; simp only; omega, fun k => by have := k.2.2.1; simp only at this; omega⟩
    · exact ⟨⟨c.a + 1, c.b, c.c⟩, by unfold apart; simp only; omega, fun k => by have := k.1.2; simp only at this; omega⟩
    · exact ⟨⟨c.a, c.b + 1, c.c⟩, by unfold apart; simp only; omega, fun k => by have := k.2.1.2; simp only at this; omega⟩
    · exact ⟨⟨c.a, c.b, c.c + 1⟩, by unfold apart; simp only; omega, fun k => by have := k.2.2.2; simp only at this; omega⟩
  · rintro ⟨d, hd, hk⟩
    apply Classical.byContradiction
    intro hno
    refine hk ⟨⟨?_, ?_⟩, ⟨?_, ?_⟩, ⟨?_, ?_⟩⟩ <;> (unfold apart at hd; omega)

theorem rim_count {x y z : Int} (hS : Sides x y z) {c : Cell} (hc : c.inBox x y z) : decide ((((swar (bs x y z fun d => decide (apart c d = 1))).toNat : Nat) : Int) < 6) = onRim x y z c := by
  obtain ⟨⟨_, _⟩, ⟨_, _⟩, ⟨_, _⟩⟩ := id hS
  obtain ⟨k1, k2, k3⟩ := idx_in hS hc
  obtain ⟨X, hX, hX4⟩ : ∃ X : Nat, x = ((X + 1 : Nat) : Int) ∧ X < 4 := ⟨(x - 1).toNat, by omega, by omega⟩
  obtain ⟨Y, hY, hY4⟩ : ∃ Y : Nat, y = ((Y + 1 : Nat) : Int) ∧ Y < 4 := ⟨(y - 1).toNat, by omega, by omega⟩
  obtain ⟨Z, hZ, hZ4⟩ : ∃ Z : Nat, z = ((Z + 1 : Nat) : Int) ∧ Z < 4 := ⟨(z - 1).toNat, by omega, by omega⟩
  obtain ⟨i, hi⟩ : ∃ i : Nat, idx y z c = i := ⟨(idx y z c).toNat, by omega⟩
  have hv : i < (X + 1) * (Y + 1) * (Z + 1) := by
    have h : (i : Int) < ((X + 1 : Nat) : Int) * ((Y + 1 : Nat) : Int) * ((Z + 1 : Nat) : Int) := by rw [← hX, ← hY, ← hZ, ← hi]; exact k2
    rw [← Int.natCast_mul, ← Int.natCast_mul] at h
    omega
  have := rim_small X hX4 Y hY4 Z hZ4 i hv
  rw [← hX, ← hY, ← hZ, ← hi, k3] at this
  rw [← this]
  exact decide_eq_decide.2 (by omega)
end Go.Ab

/- The abstract code of some functions (written by a program of mine from the translation, by way of prepF). -/
namespace Go.Ab.C
open Go.Ab
def spec_l2Parts : AFn :=
  ⟨1, 77, [.tmp 2],
    .seq (.ops [(none, .box 1 (.t 0)),
       (none, .mv 2 (.c .nil))])
    (.seq (.ops [(none, .buildSl 10 0 1 [] []),
        (none, .loadN 11 4 (.t 1)),
        (none, .call (some 12) F.spec_l2Own [(.t 11)]),
        (none, .alloc 4 [(.I 0), (.I 0), (.I 0), .nil]),
        (none, .mv 3 (.t 10)),
        (none, .store 4 (.t 4) (.t 12))])
     (.seq (.block 0 (.loop (.seq (.seq (.ops [(none, .fieldAddr 13 (.t 4) 3),
             (none, .load1 14 (.t 13)),
             (none, .len 15 (.t 14)),
             (none, .bin 16 .gtr (.t 15) (.c (.I 0)))])
          (.cond (.t 16) (.skip)
           (.exit 0)))
         (.block 1 (.seq (.draw [⟨(none, .fieldAddr 17 (.t 1) 0), [], []⟩,
              ⟨(none, .load1 18 (.t 17)), [], []⟩,
              ⟨(none, .fieldAddr 19 (.t 1) 1), [], []⟩,
              ⟨(none, .load1 20 (.t 19)), [], []⟩,
              ⟨(none, .fieldAddr 21 (.t 1) 2), [], []⟩,
              ⟨(none, .load1 22 (.t 21)), [], []⟩,
              ⟨(none, .fieldAddr 24 (.t 4) 3), [], []⟩,
              ⟨(none, .load1 25 (.t 24)), [], []⟩,
              ⟨(none, .idxS 26 3 (.t 25) (.c (.I 0))), [], []⟩,
              ⟨(none, .loadN 27 3 (.t 26)), [], []⟩,
              ⟨(none, .buildSl 28 1 3 [(.I 0), (.I 0), (.I 0)] [(0, 3, (.t 27))]), [], []⟩,
              ⟨(none, .alloc 5 [(.I 0), (.I 0), (.I 0), .nil]), [], []⟩,
              ⟨(none, .call (some 23) F.spec_l2Empty [(.t 18), (.t 20), (.t 22)]), [10, 11], [6, 7, 8, 9]⟩,
              ⟨(none, .store 4 (.t 5) (.t 23)), [10], [6, 7, 8, 9]⟩,
              ⟨(none, .mv 6 (.t 28)), [], []⟩])
           (.seq (.draw [⟨(none, .loadN 29 4 (.t 4)), [], []⟩,
               ⟨(none, .mv 30 (.t 6)), [], []⟩,
               ⟨(none, .idxS 31 3 (.t 30) (.c (.I 0))), [], []⟩,
               ⟨(none, .loadN 32 3 (.t 31)), [], []⟩,
               ⟨(none, .call (some 33) F.spec_l2Without [(.t 29), (.t 32)]), [], []⟩,
               ⟨(none, .store 4 (.t 4) (.t 33)), [], []⟩])
            (.seq (.seq (.ops [(none, .mv 7 (.c (.I 0)))])
              (.block 2 (.loop (.seq (.seq (.ops [(none, .mv 34 (.t 7)),
                     (none, .mv 35 (.t 6)),
                     (none, .len 36 (.t 35)),
                     (none, .bin 37 .lss (.t 34) (.t 36))])
                  (.cond (.t 37) (.skip)
                   (.exit 2)))
                 (.seq (.block 3 (.seq (.draw [⟨(none, .loadN 40 4 (.t 5)), [], []⟩,
                       ⟨(none, .mv 41 (.t 6)), [], []⟩,
                       ⟨(none, .mv 42 (.t 7)), [], []⟩,
                       ⟨(none, .idxS 43 3 (.t 41) (.t 42)), [], []⟩,
                       ⟨(none, .loadN 44 3 (.t 43)), [], []⟩,
                       ⟨(none, .call (some 45) F.spec_l2With [(.t 40), (.t 44)]), [], []⟩,
                       ⟨(none, .store 4 (.t 5) (.t 45)), [], []⟩])
                    (.seq (.draw [⟨(none, .loadN 46 4 (.t 4)), [], []⟩,
                        ⟨(none, .mv 47 (.t 6)), [], []⟩,
                        ⟨(none, .mv 48 (.t 7)), [], []⟩,
                        ⟨(none, .idxS 49 3 (.t 47) (.t 48)), [], []⟩,
                        ⟨(none, .loadN 50 3 (.t 49)), [], []⟩,
                        ⟨(none, .call (some 51) F.spec_l2Near [(.t 46), (.t 50)]), [], []⟩,
                        ⟨(none, .mv 8 (.t 51)), [], []⟩])
                     (.seq (.ops [(none, .mv 9 (.c (.I 0)))])
                      (.block 4 (.loop (.seq (.seq (.ops [(none, .mv 52 (.t 9)),
                             (none, .mv 53 (.t 8)),
                             (none, .len 54 (.t 53)),
                             (none, .bin 55 .lss (.t 52) (.t 54))])
                          (.cond (.t 55) (.skip)
                           (.exit 4)))
                         (.seq (.block 5 (.seq (.ops [(none, .mv 58 (.t 6)),
                               (none, .mv 59 (.t 8)),
                               (none, .mv 60 (.t 9)),
                               (none, .idxS 61 3 (.t 59) (.t 60)),
                               (none, .loadN 62 3 (.t 61)),
                               (none, .buildSl 63 1 3 [(.I 0), (.I 0), (.I 0)] [(0, 3, (.t 62))]),
                               (none, .append 64 3 24 (.t 58) (.t 63)),
                               (none, .mv 6 (.t 64))])
                            (.draw [⟨(none, .loadN 65 4 (.t 4)), [], []⟩,
                               ⟨(none, .mv 66 (.t 8)), [], []⟩,
                               ⟨(none, .mv 67 (.t 9)), [], []⟩,
                               ⟨(none, .idxS 68 3 (.t 66) (.t 67)), [], []⟩,
                               ⟨(none, .loadN 69 3 (.t 68)), [], []⟩,
                               ⟨(none, .call (some 70) F.spec_l2Without [(.t 65), (.t 69)]), [], []⟩,
                               ⟨(none, .store 4 (.t 4) (.t 70)), [], []⟩])))
                          (.ops [(none, .mv 56 (.t 9)),
                             (none, .bin 57 .add (.t 56) (.c (.I 1))),
                             (none, .mv 9 (.t 57))])))))))))
                  (.ops [(none, .mv 38 (.t 7)),
                     (none, .bin 39 .add (.t 38) (.c (.I 1))),
                     (none, .mv 7 (.t 39))]))))))
             (.ops [(none, .mv 71 (.t 3)),
                (none, .fieldAddr 72 (.t 5) 3),
                (none, .load1 73 (.t 72)),
                (none, .buildSl 74 1 1 [.nil] [(0, 1, (.t 73))]),
                (none, .append 75 1 24 (.t 71) (.t 74)),
                (none, .mv 3 (.t 75))]))))))))
      (.seq (.ops [(none, .mv 76 (.t 3)),
          (none, .mv 2 (.t 76))])
       (.ret))))⟩
end Go.Ab.C

/- That the program has this code. -/
namespace Go.Ab.K
open Go Go.Ab
theorem spec_l2Parts : prepF Go.Proofs.Try.prog F.spec_l2Parts = some C.spec_l2Parts := by kernel_rfl
end Go.Ab.K

/- The abstract code of some functions (written by a program of mine from the translation, by way of prepF). -/
namespace Go.Ab.C
open Go.Ab
def spec_l2Own : AFn :=
  ⟨1, 9, [.cellN 2 4],
    .seq (.ops [(none, .box 1 (.t 0)),
       (none, .alloc 2 [(.I 0), (.I 0), (.I 0), .nil])])
    (.seq (.draw [⟨(none, .loadN 3 4 (.t 1)), [], []⟩,
        ⟨(none, .fieldAddr 5 (.t 1) 3), [], []⟩,
        ⟨(none, .load1 6 (.t 5)), [], []⟩,
        ⟨(none, .buildSl 4 0 3 [] []), [], []⟩,
        ⟨(none, .append 7 3 24 (.t 4) (.t 6)), [], [0]⟩,
        ⟨(none, .call (some 8) F.spec_l2Made [(.t 3), (.t 7)]), [], []⟩,
        ⟨(none, .store 4 (.t 2) (.t 8)), [], []⟩])
     (.ret))⟩
def spec_l2With : AFn :=
  ⟨2, 54, [.cellN 4 4],
    .seq (.ops [(none, .box 2 (.t 0)),
       (none, .box 3 (.t 1)),
       (none, .alloc 4 [(.I 0), (.I 0), (.I 0), .nil])])
    (.seq (.ops [(none, .mv 5 (.c (.I 0)))])
     (.seq (.block 0 (.loop (.seq (.seq (.draw [⟨(none, .mv 6 (.t 5)), [], []⟩,
             ⟨(none, .fieldAddr 7 (.t 2) 3), [], []⟩,
             ⟨(none, .load1 8 (.t 7)), [], []⟩,
             ⟨(none, .len 9 (.t 8)), [], []⟩,
             ⟨(none, .bin 10 .lss (.t 6) (.t 9)), [], []⟩,
             ⟨(none, .mv 11 (.t 10)), [], []⟩,
             ⟨(some (11, true), .fieldAddr 12 (.t 2) 3), [], []⟩,
             ⟨(some (11, true), .load1 13 (.t 12)), [], []⟩,
             ⟨(some (11, true), .mv 14 (.t 5)), [], []⟩,
             ⟨(some (11, true), .idxS 15 3 (.t 13) (.t 14)), [], []⟩,
             ⟨(some (11, true), .loadN 16 3 (.t 15)), [], []⟩,
             ⟨(some (11, true), .loadN 17 3 (.t 3)), [], []⟩,
             ⟨(some (11, true), .call (some 18) F.spec_l2Before [(.t 16), (.t 17)]), [], []⟩,
             ⟨(none, .pick 19 (.t 11) (.t 18) (.c (.B false))), [], []⟩])
          (.cond (.t 19) (.skip)
           (.exit 0)))
         (.block 1 (.ops [(none, .mv 20 (.t 5)),
             (none, .bin 21 .add (.t 20) (.c (.I 1))),
             (none, .mv 5 (.t 21))])))))
      (.seq (.seq (.draw [⟨(none, .mv 22 (.t 5)), [], []⟩,
           ⟨(none, .fieldAddr 23 (.t 2) 3), [], []⟩,
           ⟨(none, .load1 24 (.t 23)), [], []⟩,
           ⟨(none, .len 25 (.t 24)), [], []⟩,
           ⟨(none, .bin 26 .lss (.t 22) (.t 25)), [], []⟩,
           ⟨(none, .mv 27 (.t 26)), [], []⟩,
           ⟨(some (27, true), .fieldAddr 28 (.t 2) 3), [], []⟩,
           ⟨(some (27, true), .load1 29 (.t 28)), [], []⟩,
           ⟨(some (27, true), .mv 30 (.t 5)), [], []⟩,
           ⟨(some (27, true), .idxS 31 3 (.t 29) (.t 30)), [], []⟩,
           ⟨(some (27, true), .loadN 32 3 (.t 31)), [], []⟩,
           ⟨(some (27, true), .loadN 33 3 (.t 3)), [], []⟩,
           ⟨(some (27, true), .eqs 34 false 3 (.t 32) (.t 33)), [], []⟩,
           ⟨(none, .pick 35 (.t 27) (.t 34) (.c (.B false))), [], []⟩])
        (.cond (.t 35) (.seq (.ops [(none, .loadN 36 4 (.t 2)),
             (none, .call (some 37) F.spec_l2Own [(.t 36)]),
             (none, .store 4 (.t 4) (.t 37))])
          (.ret))
         (.skip)))
       (.seq (.draw [⟨(none, .loadN 38 4 (.t 2)), [], []⟩,
           ⟨(none, .fieldAddr 40 (.t 2) 3), [], []⟩,
           ⟨(none, .load1 41 (.t 40)), [], []⟩,
           ⟨(none, .mv 42 (.t 5)), [], []⟩,
           ⟨(none, .slS 43 3 (.t 41) none (some (.t 42))), [], []⟩,
           ⟨(none, .loadN 45 3 (.t 3)), [], []⟩,
           ⟨(none, .fieldAddr 48 (.t 2) 3), [], []⟩,
           ⟨(none, .load1 49 (.t 48)), [], []⟩,
           ⟨(none, .mv 50 (.t 5)), [], []⟩,
           ⟨(none, .slS 51 3 (.t 49) (some (.t 50)) none), [], []⟩,
           ⟨(none, .buildSl 39 0 3 [] []), [], []⟩,
           ⟨(none, .buildSl 46 1 3 [(.I 0), (.I 0), (.I 0)] [(0, 3, (.t 45))]), [], []⟩,
           ⟨(none, .append 44 3 24 (.t 39) (.t 43)), [11], [0, 5, 6, 7, 8, 9]⟩,
           ⟨(none, .append 47 3 24 (.t 44) (.t 46)), [], [0, 6, 7, 8, 9]⟩,
           ⟨(none, .append 52 3 24 (.t 47) (.t 51)), [], [0]⟩,
           ⟨(none, .call (some 53) F.spec_l2Made [(.t 38), (.t 52)]), [], []⟩,
           ⟨(none, .store 4 (.t 4) (.t 53)), [], []⟩])
        (.ret)))))⟩
end Go.Ab.C

/- That the program has this code. -/
namespace Go.Ab.K
open Go Go.Ab
theorem spec_l2Own : prepF Go.Proofs.Try.prog F.spec_l2Own = some C.spec_l2Own := by kernel_rfl
theorem spec_l2With : prepF Go.Proofs.Try.prog F.spec_l2With = some C.spec_l2With := by kernel_rfl
end Go.Ab.K

/- The abstract code of some functions (written by a program of mine from the translation, by way of prepF). -/
namespace Go.Ab.C
open Go.Ab
def spec_l2Empty : AFn :=
  ⟨3, 12, [.cellN 6 4],
    .seq (.ops [(none, .alloc 6 [(.I 0), (.I 0), (.I 0), .nil])])
    (.seq (.ops [(none, .mv 7 (.t 0)),
        (none, .mv 8 (.t 1)),
        (none, .mv 9 (.t 2)),
        (none, .buildSl 10 0 3 [] []),
        (none, .build 11 [(.I 0), (.I 0), (.I 0), .nil] [(0, 1, (.t 7)), (1, 1, (.t 8)), (2, 1, (.t 9)), (3, 1, (.t 10))]),
        (none, .store 4 (.t 6) (.t 11))])
     (.ret))⟩
def spec_l2All : AFn :=
  ⟨1, 34, [.tmp 2],
    .seq (.ops [(none, .box 1 (.t 0)),
       (none, .mv 2 (.c .nil))])
    (.seq (.ops [(none, .buildSl 7 0 3 [] []),
        (none, .mv 3 (.t 7))])
     (.seq (.seq (.ops [(none, .mv 4 (.c (.I 0)))])
       (.block 0 (.loop (.seq (.seq (.ops [(none, .mv 8 (.t 4)),
              (none, .fieldAddr 9 (.t 1) 0),
              (none, .load1 10 (.t 9)),
              (none, .bin 11 .lss (.t 8) (.t 10))])
           (.cond (.t 11) (.skip)
            (.exit 0)))
          (.seq (.block 1 (.seq (.ops [(none, .mv 5 (.c (.I 0)))])
             (.block 2 (.loop (.seq (.seq (.ops [(none, .mv 14 (.t 5)),
                    (none, .fieldAddr 15 (.t 1) 1),
                    (none, .load1 16 (.t 15)),
                    (none, .bin 17 .lss (.t 14) (.t 16))])
                 (.cond (.t 17) (.skip)
                  (.exit 2)))
                (.seq (.block 3 (.seq (.ops [(none, .mv 6 (.c (.I 0)))])
                   (.block 4 (.loop (.seq (.seq (.ops [(none, .mv 20 (.t 6)),
                          (none, .fieldAddr 21 (.t 1) 2),
                          (none, .load1 22 (.t 21)),
                          (none, .bin 23 .lss (.t 20) (.t 22))])
                       (.cond (.t 23) (.skip)
                        (.exit 4)))
                      (.seq (.block 5 (.ops [(none, .mv 26 (.t 3)),
                           (none, .mv 27 (.t 4)),
                           (none, .mv 28 (.t 5)),
                           (none, .mv 29 (.t 6)),
                           (none, .build 30 [(.I 0), (.I 0), (.I 0)] [(0, 1, (.t 27)), (1, 1, (.t 28)), (2, 1, (.t 29))]),
                           (none, .buildSl 31 1 3 [(.I 0), (.I 0), (.I 0)] [(0, 3, (.t 30))]),
                           (none, .append 32 3 24 (.t 26) (.t 31)),
                           (none, .mv 3 (.t 32))]))
                       (.ops [(none, .mv 24 (.t 6)),
                          (none, .bin 25 .add (.t 24) (.c (.I 1))),
                          (none, .mv 6 (.t 25))])))))))
                 (.ops [(none, .mv 18 (.t 5)),
                    (none, .bin 19 .add (.t 18) (.c (.I 1))),
                    (none, .mv 5 (.t 19))])))))))
           (.ops [(none, .mv 12 (.t 4)),
              (none, .bin 13 .add (.t 12) (.c (.I 1))),
              (none, .mv 4 (.t 13))]))))))
      (.seq (.ops [(none, .mv 33 (.t 3)),
          (none, .mv 2 (.t 33))])
       (.ret))))⟩
def spec_l2Has : AFn :=
  ⟨2, 20, [.tmp 4],
    .seq (.ops [(none, .box 2 (.t 0)),
       (none, .box 3 (.t 1)),
       (none, .mv 4 (.c (.B false)))])
    (.seq (.seq (.ops [(none, .mv 5 (.c (.I 0)))])
      (.block 0 (.loop (.seq (.seq (.ops [(none, .mv 6 (.t 5)),
             (none, .fieldAddr 7 (.t 2) 3),
             (none, .load1 8 (.t 7)),
             (none, .len 9 (.t 8)),
             (none, .bin 10 .lss (.t 6) (.t 9))])
          (.cond (.t 10) (.skip)
           (.exit 0)))
         (.seq (.block 1 (.seq (.draw [⟨(none, .fieldAddr 13 (.t 2) 3), [], []⟩,
               ⟨(none, .load1 14 (.t 13)), [], []⟩,
               ⟨(none, .mv 15 (.t 5)), [], []⟩,
               ⟨(none, .idxS 16 3 (.t 14) (.t 15)), [], []⟩,
               ⟨(none, .loadN 17 3 (.t 16)), [], []⟩,
               ⟨(none, .loadN 18 3 (.t 3)), [], []⟩,
               ⟨(none, .eqs 19 false 3 (.t 17) (.t 18)), [], []⟩])
            (.cond (.t 19) (.seq (.ops [(none, .mv 4 (.c (.B true)))])
              (.ret))
             (.skip))))
          (.ops [(none, .mv 11 (.t 5)),
             (none, .bin 12 .add (.t 11) (.c (.I 1))),
             (none, .mv 5 (.t 12))]))))))
     (.seq (.ops [(none, .mv 4 (.c (.B false)))])
      (.ret)))⟩
def spec_l2Made : AFn :=
  ⟨2, 13, [.cellN 4 4],
    .seq (.ops [(none, .box 2 (.t 0)),
       (none, .alloc 4 [(.I 0), (.I 0), (.I 0), .nil])])
    (.seq (.ops [(none, .fieldAddr 5 (.t 2) 0),
        (none, .load1 6 (.t 5)),
        (none, .fieldAddr 7 (.t 2) 1),
        (none, .load1 8 (.t 7)),
        (none, .fieldAddr 9 (.t 2) 2),
        (none, .load1 10 (.t 9)),
        (none, .mv 11 (.t 1)),
        (none, .build 12 [(.I 0), (.I 0), (.I 0), .nil] [(0, 1, (.t 6)), (1, 1, (.t 8)), (2, 1, (.t 10)), (3, 1, (.t 11))]),
        (none, .store 4 (.t 4) (.t 12))])
     (.ret))⟩
def spec_l2Without : AFn :=
  ⟨2, 39, [.cellN 4 4],
    .seq (.ops [(none, .box 2 (.t 0)),
       (none, .box 3 (.t 1)),
       (none, .alloc 4 [(.I 0), (.I 0), (.I 0), .nil])])
    (.seq (.ops [(none, .fieldAddr 7 (.t 2) 0),
        (none, .load1 8 (.t 7)),
        (none, .fieldAddr 9 (.t 2) 1),
        (none, .load1 10 (.t 9)),
        (none, .fieldAddr 11 (.t 2) 2),
        (none, .load1 12 (.t 11)),
        (none, .call (some 13) F.spec_l2Empty [(.t 8), (.t 10), (.t 12)]),
        (none, .alloc 5 [(.I 0), (.I 0), (.I 0), .nil]),
        (none, .store 4 (.t 5) (.t 13))])
     (.seq (.seq (.ops [(none, .mv 6 (.c (.I 0)))])
       (.block 0 (.loop (.seq (.seq (.ops [(none, .mv 14 (.t 6)),
              (none, .fieldAddr 15 (.t 2) 3),
              (none, .load1 16 (.t 15)),
              (none, .len 17 (.t 16)),
              (none, .bin 18 .lss (.t 14) (.t 17))])
           (.cond (.t 18) (.skip)
            (.exit 0)))
          (.seq (.block 1 (.seq (.draw [⟨(none, .fieldAddr 21 (.t 2) 3), [], []⟩,
                ⟨(none, .load1 22 (.t 21)), [], []⟩,
                ⟨(none, .mv 23 (.t 6)), [], []⟩,
                ⟨(none, .idxS 24 3 (.t 22) (.t 23)), [], []⟩,
                ⟨(none, .loadN 25 3 (.t 24)), [], []⟩,
                ⟨(none, .loadN 26 3 (.t 3)), [], []⟩,
                ⟨(none, .eqs 27 true 3 (.t 25) (.t 26)), [], []⟩])
             (.cond (.t 27) (.draw [⟨(none, .fieldAddr 28 (.t 5) 3), [], []⟩,
                 ⟨(none, .load1 29 (.t 28)), [], []⟩,
                 ⟨(none, .fieldAddr 30 (.t 2) 3), [], []⟩,
                 ⟨(none, .load1 31 (.t 30)), [], []⟩,
                 ⟨(none, .mv 32 (.t 6)), [], []⟩,
                 ⟨(none, .idxS 33 3 (.t 31) (.t 32)), [], []⟩,
                 ⟨(none, .loadN 34 3 (.t 33)), [], []⟩,
                 ⟨(none, .buildSl 35 1 3 [(.I 0), (.I 0), (.I 0)] [(0, 3, (.t 34))]), [], []⟩,
                 ⟨(none, .append 36 3 24 (.t 29) (.t 35)), [], []⟩,
                 ⟨(none, .fieldAddr 37 (.t 5) 3), [], []⟩,
                 ⟨(none, .store 1 (.t 37) (.t 36)), [], []⟩])
              (.skip))))
           (.ops [(none, .mv 19 (.t 6)),
              (none, .bin 20 .add (.t 19) (.c (.I 1))),
              (none, .mv 6 (.t 20))]))))))
      (.seq (.ops [(none, .loadN 38 4 (.t 5)),
          (none, .store 4 (.t 4) (.t 38))])
       (.ret))))⟩
def spec_l2Near : AFn :=
  ⟨2, 32, [.tmp 4],
    .seq (.ops [(none, .box 2 (.t 0)),
       (none, .box 3 (.t 1)),
       (none, .mv 4 (.c .nil))])
    (.seq (.ops [(none, .buildSl 7 0 3 [] []),
        (none, .mv 5 (.t 7))])
     (.seq (.seq (.ops [(none, .mv 6 (.c (.I 0)))])
       (.block 0 (.loop (.seq (.seq (.ops [(none, .mv 8 (.t 6)),
              (none, .fieldAddr 9 (.t 2) 3),
              (none, .load1 10 (.t 9)),
              (none, .len 11 (.t 10)),
              (none, .bin 12 .lss (.t 8) (.t 11))])
           (.cond (.t 12) (.skip)
            (.exit 0)))
          (.seq (.block 1 (.seq (.draw [⟨(none, .fieldAddr 15 (.t 2) 3), [], []⟩,
                ⟨(none, .load1 16 (.t 15)), [], []⟩,
                ⟨(none, .mv 17 (.t 6)), [], []⟩,
                ⟨(none, .idxS 18 3 (.t 16) (.t 17)), [], []⟩,
                ⟨(none, .loadN 19 3 (.t 18)), [], []⟩,
                ⟨(none, .loadN 20 3 (.t 3)), [], []⟩,
                ⟨(none, .call (some 21) F.spec_l2Apart [(.t 19), (.t 20)]), [], []⟩,
                ⟨(none, .bin 22 .eql (.t 21) (.c (.I 1))), [], []⟩])
             (.cond (.t 22) (.ops [(none, .mv 23 (.t 5)),
                 (none, .fieldAddr 24 (.t 2) 3),
                 (none, .load1 25 (.t 24)),
                 (none, .mv 26 (.t 6)),
                 (none, .idxS 27 3 (.t 25) (.t 26)),
                 (none, .loadN 28 3 (.t 27)),
                 (none, .buildSl 29 1 3 [(.I 0), (.I 0), (.I 0)] [(0, 3, (.t 28))]),
                 (none, .append 30 3 24 (.t 23) (.t 29)),
                 (none, .mv 5 (.t 30))])
              (.skip))))
           (.ops [(none, .mv 13 (.t 6)),
              (none, .bin 14 .add (.t 13) (.c (.I 1))),
              (none, .mv 6 (.t 14))]))))))
      (.seq (.ops [(none, .mv 31 (.t 5)),
          (none, .mv 4 (.t 31))])
       (.ret))))⟩
end Go.Ab.C

/- That the program has this code. -/
namespace Go.Ab.K
open Go Go.Ab
theorem spec_l2Empty : prepF Go.Proofs.Try.prog F.spec_l2Empty = some C.spec_l2Empty := by kernel_rfl
theorem spec_l2All : prepF Go.Proofs.Try.prog F.spec_l2All = some C.spec_l2All := by kernel_rfl
theorem spec_l2Has : prepF Go.Proofs.Try.prog F.spec_l2Has = some C.spec_l2Has := by kernel_rfl
theorem spec_l2Made : prepF Go.Proofs.Try.prog F.spec_l2Made = some C.spec_l2Made := by kernel_rfl
theorem spec_l2Without : prepF Go.Proofs.Try.prog F.spec_l2Without = some C.spec_l2Without := by kernel_rfl
theorem spec_l2Near : prepF Go.Proofs.Try.prog F.spec_l2Near = some C.spec_l2Near := by kernel_rfl
end Go.Ab.K

/- The abstract code of some functions (written by a program of mine from the translation, by way of prepF). -/
namespace Go.Ab.C
open Go.Ab
def spec_l2Apart : AFn :=
  ⟨2, 29, [.tmp 4],
    .seq (.ops [(none, .box 2 (.t 0)),
       (none, .box 3 (.t 1)),
       (none, .mv 4 (.c (.I 0)))])
    (.seq (.ops [(none, .mv 5 (.c (.I 0)))])
     (.seq (.seq (.ops [(none, .mv 6 (.c (.I 0)))])
       (.block 0 (.loop (.seq (.seq (.ops [(none, .mv 7 (.t 6)),
              (none, .bin 8 .lss (.t 7) (.c (.I 3)))])
           (.cond (.t 8) (.skip)
            (.exit 0)))
          (.seq (.block 1 (.draw [⟨(none, .mv 11 (.t 5)), [], []⟩,
               ⟨(none, .mv 12 (.t 6)), [], []⟩,
               ⟨(none, .idxA 13 3 1 (.t 2) (.t 12)), [], []⟩,
               ⟨(none, .load1 14 (.t 13)), [], []⟩,
               ⟨(none, .mv 15 (.t 6)), [], []⟩,
               ⟨(none, .idxA 16 3 1 (.t 3) (.t 15)), [], []⟩,
               ⟨(none, .load1 17 (.t 16)), [], []⟩,
               ⟨(none, .bin 18 .sub (.t 14) (.t 17)), [], []⟩,
               ⟨(none, .mv 19 (.t 6)), [], []⟩,
               ⟨(none, .idxA 20 3 1 (.t 3) (.t 19)), [], []⟩,
               ⟨(none, .load1 21 (.t 20)), [], []⟩,
               ⟨(none, .mv 22 (.t 6)), [], []⟩,
               ⟨(none, .idxA 23 3 1 (.t 2) (.t 22)), [], []⟩,
               ⟨(none, .load1 24 (.t 23)), [], []⟩,
               ⟨(none, .bin 25 .sub (.t 21) (.t 24)), [], []⟩,
               ⟨(none, .call (some 26) F.spec_l1Most [(.t 18), (.t 25)]), [], [0]⟩,
               ⟨(none, .bin 27 .add (.t 11) (.t 26)), [], []⟩,
               ⟨(none, .mv 5 (.t 27)), [], []⟩]))
           (.ops [(none, .mv 9 (.t 6)),
              (none, .bin 10 .add (.t 9) (.c (.I 1))),
              (none, .mv 6 (.t 10))]))))))
      (.seq (.ops [(none, .mv 28 (.t 5)),
          (none, .mv 4 (.t 28))])
       (.ret))))⟩
end Go.Ab.C

/- That the program has this code. -/
namespace Go.Ab.K
open Go Go.Ab
theorem spec_l2Apart : prepF Go.Proofs.Try.prog F.spec_l2Apart = some C.spec_l2Apart := by kernel_rfl
end Go.Ab.K

/- The abstract code of some functions (written by a program of mine from the translation, by way of prepF). -/
namespace Go.Ab.C
open Go.Ab
def spec_l2Heap : AFn :=
  ⟨1, 46, [.tmp 2],
    .seq (.ops [(none, .box 1 (.t 0)),
       (none, .mv 2 (.c (.B false)))])
    (.seq (.seq (.ops [(none, .fieldAddr 4 (.t 1) 0),
         (none, .load1 5 (.t 4)),
         (none, .fieldAddr 6 (.t 1) 1),
         (none, .load1 7 (.t 6)),
         (none, .fieldAddr 8 (.t 1) 2),
         (none, .load1 9 (.t 8)),
         (none, .call (some 10) F.spec_l2Sides [(.t 5), (.t 7), (.t 9)]),
         (none, .un 11 .not (.t 10))])
      (.cond (.t 11) (.seq (.ops [(none, .mv 2 (.c (.B false)))])
        (.ret))
       (.skip)))
     (.seq (.seq (.ops [(none, .mv 3 (.c (.I 0)))])
       (.block 0 (.loop (.seq (.seq (.ops [(none, .mv 12 (.t 3)),
              (none, .fieldAddr 13 (.t 1) 3),
              (none, .load1 14 (.t 13)),
              (none, .len 15 (.t 14)),
              (none, .bin 16 .lss (.t 12) (.t 15))])
           (.cond (.t 16) (.skip)
            (.exit 0)))
          (.seq (.block 1 (.seq (.draw [⟨(none, .loadN 19 4 (.t 1)), [], []⟩,
                ⟨(none, .fieldAddr 20 (.t 1) 3), [], []⟩,
                ⟨(none, .load1 21 (.t 20)), [], []⟩,
                ⟨(none, .mv 22 (.t 3)), [], []⟩,
                ⟨(none, .idxS 23 3 (.t 21) (.t 22)), [], []⟩,
                ⟨(none, .loadN 24 3 (.t 23)), [], []⟩,
                ⟨(none, .call (some 25) F.spec_l2In [(.t 19), (.t 24)]), [], []⟩,
                ⟨(none, .un 26 .not (.t 25)), [], []⟩,
                ⟨(none, .mv 27 (.t 26)), [], []⟩,
                ⟨(some (27, false), .mv 28 (.t 3)), [], []⟩,
                ⟨(some (27, false), .bin 29 .gtr (.t 28) (.c (.I 0))), [], []⟩,
                ⟨(some (27, false), .mv 30 (.t 29)), [], []⟩,
                ⟨(some (30, true), .fieldAddr 31 (.t 1) 3), [], []⟩,
                ⟨(some (30, true), .load1 32 (.t 31)), [], []⟩,
                ⟨(some (30, true), .mv 33 (.t 3)), [], []⟩,
                ⟨(some (30, true), .bin 34 .sub (.t 33) (.c (.I 1))), [], []⟩,
                ⟨(some (30, true), .idxS 35 3 (.t 32) (.t 34)), [], []⟩,
                ⟨(some (30, true), .loadN 36 3 (.t 35)), [], []⟩,
                ⟨(some (30, true), .fieldAddr 37 (.t 1) 3), [], []⟩,
                ⟨(some (30, true), .load1 38 (.t 37)), [], []⟩,
                ⟨(some (30, true), .mv 39 (.t 3)), [], []⟩,
                ⟨(some (30, true), .idxS 40 3 (.t 38) (.t 39)), [], []⟩,
                ⟨(some (30, true), .loadN 41 3 (.t 40)), [], []⟩,
                ⟨(some (30, true), .call (some 42) F.spec_l2Before [(.t 36), (.t 41)]), [], []⟩,
                ⟨(some (30, true), .un 43 .not (.t 42)), [], []⟩,
                ⟨(some (27, false), .pick 44 (.t 30) (.t 43) (.c (.B false))), [], []⟩,
                ⟨(none, .pick 45 (.t 27) (.c (.B true)) (.t 44)), [], []⟩])
             (.cond (.t 45) (.seq (.ops [(none, .mv 2 (.c (.B false)))])
               (.ret))
              (.skip))))
           (.ops [(none, .mv 17 (.t 3)),
              (none, .bin 18 .add (.t 17) (.c (.I 1))),
              (none, .mv 3 (.t 18))]))))))
      (.seq (.ops [(none, .mv 2 (.c (.B true)))])
       (.ret))))⟩
end Go.Ab.C

/- That the program has this code. -/
namespace Go.Ab.K
open Go Go.Ab
theorem spec_l2Heap : prepF Go.Proofs.Try.prog F.spec_l2Heap = some C.spec_l2Heap := by kernel_rfl
end Go.Ab.K

/- The abstract code of some functions (written by a program of mine from the translation, by way of prepF). -/
namespace Go.Ab.C
open Go.Ab
def spec_l1In : AFn :=
  ⟨3, 15, [.tmp 6],
    .seq (.ops [(none, .mv 6 (.c (.B false)))])
    (.seq (.ops [(none, .mv 7 (.t 0)),
        (none, .mv 8 (.t 1)),
        (none, .bin 9 .geq (.t 7) (.t 8)),
        (none, .mv 10 (.t 9)),
        (some (10, true), .mv 11 (.t 0)),
        (some (10, true), .mv 12 (.t 2)),
        (some (10, true), .bin 13 .leq (.t 11) (.t 12)),
        (none, .pick 14 (.t 10) (.t 13) (.c (.B false))),
        (none, .mv 6 (.t 14))])
     (.ret))⟩
def spec_l1Most : AFn :=
  ⟨2, 10, [.tmp 4],
    .seq (.ops [(none, .mv 4 (.c (.I 0)))])
    (.seq (.seq (.ops [(none, .mv 5 (.t 0)),
         (none, .mv 6 (.t 1)),
         (none, .bin 7 .gtr (.t 5) (.t 6))])
      (.cond (.t 7) (.seq (.ops [(none, .mv 8 (.t 0)),
           (none, .mv 4 (.t 8))])
        (.ret))
       (.skip)))
     (.seq (.ops [(none, .mv 9 (.t 1)),
         (none, .mv 4 (.t 9))])
      (.ret)))⟩
def spec_l2Sides : AFn :=
  ⟨3, 17, [.tmp 6],
    .seq (.ops [(none, .mv 6 (.c (.B false)))])
    (.seq (.ops [(none, .mv 7 (.t 0)),
        (none, .call (some 8) F.spec_l1In [(.t 7), (.c (.I 1)), (.c (.I 4))]),
        (none, .mv 9 (.t 8)),
        (some (9, true), .mv 10 (.t 1)),
        (some (9, true), .call (some 11) F.spec_l1In [(.t 10), (.c (.I 1)), (.c (.I 4))]),
        (none, .pick 12 (.t 9) (.t 11) (.c (.B false))),
        (none, .mv 13 (.t 12)),
        (some (13, true), .mv 14 (.t 2)),
        (some (13, true), .call (some 15) F.spec_l1In [(.t 14), (.c (.I 1)), (.c (.I 4))]),
        (none, .pick 16 (.t 13) (.t 15) (.c (.B false))),
        (none, .mv 6 (.t 16))])
     (.ret))⟩
def spec_l2Before : AFn :=
  ⟨2, 24, [.tmp 4],
    .seq (.ops [(none, .box 2 (.t 0)),
       (none, .box 3 (.t 1)),
       (none, .mv 4 (.c (.B false)))])
    (.seq (.seq (.ops [(none, .mv 5 (.c (.I 0)))])
      (.block 0 (.loop (.seq (.seq (.ops [(none, .mv 6 (.t 5)),
             (none, .bin 7 .lss (.t 6) (.c (.I 3)))])
          (.cond (.t 7) (.skip)
           (.exit 0)))
         (.seq (.block 1 (.seq (.draw [⟨(none, .mv 10 (.t 5)), [], []⟩,
               ⟨(none, .idxA 11 3 1 (.t 2) (.t 10)), [], []⟩,
               ⟨(none, .load1 12 (.t 11)), [], []⟩,
               ⟨(none, .mv 13 (.t 5)), [], []⟩,
               ⟨(none, .idxA 14 3 1 (.t 3) (.t 13)), [], []⟩,
               ⟨(none, .load1 15 (.t 14)), [], []⟩,
               ⟨(none, .bin 16 .neq (.t 12) (.t 15)), [], []⟩])
            (.cond (.t 16) (.seq (.draw [⟨(none, .mv 17 (.t 5)), [], []⟩,
                 ⟨(none, .idxA 18 3 1 (.t 2) (.t 17)), [], []⟩,
                 ⟨(none, .load1 19 (.t 18)), [], []⟩,
                 ⟨(none, .mv 20 (.t 5)), [], []⟩,
                 ⟨(none, .idxA 21 3 1 (.t 3) (.t 20)), [], []⟩,
                 ⟨(none, .load1 22 (.t 21)), [], []⟩,
                 ⟨(none, .bin 23 .lss (.t 19) (.t 22)), [], []⟩,
                 ⟨(none, .mv 4 (.t 23)), [], []⟩])
              (.ret))
             (.skip))))
          (.ops [(none, .mv 8 (.t 5)),
             (none, .bin 9 .add (.t 8) (.c (.I 1))),
             (none, .mv 5 (.t 9))]))))))
     (.seq (.ops [(none, .mv 4 (.c (.B false)))])
      (.ret)))⟩
def spec_l2In : AFn :=
  ⟨2, 27, [.tmp 4],
    .seq (.ops [(none, .box 2 (.t 0)),
       (none, .box 3 (.t 1)),
       (none, .mv 4 (.c (.B false)))])
    (.seq (.ops [(none, .idxA 5 3 1 (.t 3) (.c (.I 0))),
        (none, .load1 6 (.t 5)),
        (none, .fieldAddr 7 (.t 2) 0),
        (none, .load1 8 (.t 7)),
        (none, .bin 9 .sub (.t 8) (.c (.I 1))),
        (none, .call (some 10) F.spec_l1In [(.t 6), (.c (.I 0)), (.t 9)]),
        (none, .mv 11 (.t 10)),
        (some (11, true), .idxA 12 3 1 (.t 3) (.c (.I 1))),
        (some (11, true), .load1 13 (.t 12)),
        (some (11, true), .fieldAddr 14 (.t 2) 1),
        (some (11, true), .load1 15 (.t 14)),
        (some (11, true), .bin 16 .sub (.t 15) (.c (.I 1))),
        (some (11, true), .call (some 17) F.spec_l1In [(.t 13), (.c (.I 0)), (.t 16)]),
        (none, .pick 18 (.t 11) (.t 17) (.c (.B false))),
        (none, .mv 19 (.t 18)),
        (some (19, true), .idxA 20 3 1 (.t 3) (.c (.I 2))),
        (some (19, true), .load1 21 (.t 20)),
        (some (19, true), .fieldAddr 22 (.t 2) 2),
        (some (19, true), .load1 23 (.t 22)),
        (some (19, true), .bin 24 .sub (.t 23) (.c (.I 1))),
        (some (19, true), .call (some 25) F.spec_l1In [(.t 21), (.c (.I 0)), (.t 24)]),
        (none, .pick 26 (.t 19) (.t 25) (.c (.B false))),
        (none, .mv 4 (.t 26))])
     (.ret))⟩
end Go.Ab.C

/- That the program has this code. -/
namespace Go.Ab.K
open Go Go.Ab
theorem spec_l1In : prepF Go.Proofs.Try.prog F.spec_l1In = some C.spec_l1In := by kernel_rfl
theorem spec_l1Most : prepF Go.Proofs.Try.prog F.spec_l1Most = some C.spec_l1Most := by kernel_rfl
theorem spec_l2Sides : prepF Go.Proofs.Try.prog F.spec_l2Sides = some C.spec_l2Sides := by kernel_rfl
theorem spec_l2Before : prepF Go.Proofs.Try.prog F.spec_l2Before = some C.spec_l2Before := by kernel_rfl
theorem spec_l2In : prepF Go.Proofs.Try.prog F.spec_l2In = some C.spec_l2In := by kernel_rfl
end Go.Ab.K

/- Contracts: the reference's heaps and columns. -/
namespace Go.Ab
open Go
set_option linter.unusedSimpArgs false
set_option linter.unusedVariables false

theorem pick_b {t : Bool} {b : Bool} : (if t then LV.val (Value.bool b) else LV.val (Value.bool false)) = LV.val (Value.bool (t && b)) := by cases t <;> rfl

theorem h_l1In {n lo hi : Int} {M : Mem} : CallsTo PG F.spec_l1In [.I n, .I lo, .I hi] M (.B (decide (lo ≤ n ∧ n ≤ hi))) M := by
  refine calls_run K.spec_l1In rfl ?_
  simp (disch := omega) only [C.spec_l1In, ↓SXd, SXu, slBounds, ↓sop, ↓aop, ↓reduceIte, LV.cells, AOp.dst, LV.I, LV.B, LV.U, LV.S, LV.nil, Nat.reduceEqDiff, Nat.reduceAdd, Nat.reduceMul, Nat.reduceSub, Nat.reduceLeDiff, Nat.reduceBEq, Nat.reduceDiv, Nat.reduceMod, Int.reduceToNat, Int.reduceLT, Int.reduceLE, Int.reduceAdd, Int.reduceSub, Int.reduceMul, Int.reduceEq, Int.reduceNeg, reduceCtorEq, resV, resAll, ARes.ev, LV.flat, ite_true, ite_false, exists_eq_left', exists_eq_left, keyOf, implies_true, fillC, capOf]
  by_cases h1 : lo ≤ n
  · simp (disch := omega) only [h1, ↓SXd, SXu, slBounds, ↓sop, ↓aop, ↓reduceIte, LV.cells, AOp.dst, LV.I, LV.B, LV.U, LV.S, LV.nil, Nat.reduceEqDiff, Nat.reduceAdd, Nat.reduceMul, Nat.reduceSub, Nat.reduceLeDiff, Nat.reduceBEq, Nat.reduceDiv, Nat.reduceMod, Int.reduceToNat, Int.reduceLT, Int.reduceLE, Int.reduceAdd, Int.reduceSub, Int.reduceMul, Int.reduceEq, Int.reduceNeg, reduceCtorEq, resV, resAll, ARes.ev, LV.flat, ite_true, ite_false, exists_eq_left', exists_eq_left, keyOf, implies_true, fillC, capOf]
    exact cmp_drop0 rfl
  · simp (disch := omega) only [h1, ↓SXd, SXu, slBounds, ↓sop, ↓aop, ↓reduceIte, LV.cells, AOp.dst, LV.I, LV.B, LV.U, LV.S, LV.nil, Nat.reduceEqDiff, Nat.reduceAdd, Nat.reduceMul, Nat.reduceSub, Nat.reduceLeDiff, Nat.reduceBEq, Nat.reduceDiv, Nat.reduceMod, Int.reduceToNat, Int.reduceLT, Int.reduceLE, Int.reduceAdd, Int.reduceSub, Int.reduceMul, Int.reduceEq, Int.reduceNeg, reduceCtorEq, resV, resAll, ARes.ev, LV.flat, ite_true, ite_false, exists_eq_left', exists_eq_left, keyOf, implies_true, fillC, capOf]
    exact cmp_drop0 rfl

theorem h_l1Most {a b : Int} {M : Mem} : CallsTo PG F.spec_l1Most [.I a, .I b] M (.I (max a b)) M := by
  refine calls_run K.spec_l1Most rfl ?_
  simp (disch := omega) only [C.spec_l1Most, ↓SXd, SXu, slBounds, ↓sop, ↓aop, ↓reduceIte, LV.cells, AOp.dst, LV.I, LV.B, LV.U, LV.S, LV.nil, Nat.reduceEqDiff, Nat.reduceAdd, Nat.reduceMul, Nat.reduceSub, Nat.reduceLeDiff, Nat.reduceBEq, Nat.reduceDiv, Nat.reduceMod, Int.reduceToNat, Int.reduceLT, Int.reduceLE, Int.reduceAdd, Int.reduceSub, Int.reduceMul, Int.reduceEq, Int.reduceNeg, reduceCtorEq, resV, resAll, ARes.ev, LV.flat, ite_true, ite_false, exists_eq_left', exists_eq_left, keyOf, implies_true, fillC, capOf]
  refine condC_dec (fun h => ?_) (fun h => ?_) <;> simp (disch := omega) only [↓SXd, SXu, slBounds, ↓sop, ↓aop, ↓reduceIte, LV.cells, AOp.dst, LV.I, LV.B, LV.U, LV.S, LV.nil, Nat.reduceEqDiff, Nat.reduceAdd, Nat.reduceMul, Nat.reduceSub, Nat.reduceLeDiff, Nat.reduceBEq, Nat.reduceDiv, Nat.reduceMod, Int.reduceToNat, Int.reduceLT, Int.reduceLE, Int.reduceAdd, Int.reduceSub, Int.reduceMul, Int.reduceEq, Int.reduceNeg, reduceCtorEq, resV, resAll, ARes.ev, LV.flat, ite_true, ite_false, exists_eq_left', exists_eq_left, keyOf, implies_true, fillC, capOf]
  · rw [show max a b = a by omega]; exact cmp_drop0 rfl
  · rw [show max a b = b by omega]; exact cmp_drop0 rfl

theorem h_l2Sides {x y z : Int} {M : Mem} : CallsTo PG F.spec_l2Sides [.I x, .I y, .I z] M (.B (decide (Sides x y z))) M := by
  refine calls_run K.spec_l2Sides rfl ?_
  simp (disch := omega) only [C.spec_l2Sides, ↓SXd, SXu, slBounds, ↓sop, ↓aop, ↓reduceIte, LV.cells, AOp.dst, LV.I, LV.B, LV.U, LV.S, LV.nil, Nat.reduceEqDiff, Nat.reduceAdd, Nat.reduceMul, Nat.reduceSub, Nat.reduceLeDiff, Nat.reduceBEq, Nat.reduceDiv, Nat.reduceMod, Int.reduceToNat, Int.reduceLT, Int.reduceLE, Int.reduceAdd, Int.reduceSub, Int.reduceMul, Int.reduceEq, Int.reduceNeg, reduceCtorEq, resV, resAll, ARes.ev, LV.flat, ite_true, ite_false, exists_eq_left', exists_eq_left, keyOf, implies_true, fillC, capOf]
  refine callK_of h_l1In ?_
  simp (disch := omega) only [↓SXd, SXu, slBounds, ↓sop, ↓aop, ↓reduceIte, LV.cells, AOp.dst, LV.I, LV.B, LV.U, LV.S, LV.nil, Nat.reduceEqDiff, Nat.reduceAdd, Nat.reduceMul, Nat.reduceSub, Nat.reduceLeDiff, Nat.reduceBEq, Nat.reduceDiv, Nat.reduceMod, Int.reduceToNat, Int.reduceLT, Int.reduceLE, Int.reduceAdd, Int.reduceSub, Int.reduceMul, Int.reduceEq, Int.reduceNeg, reduceCtorEq, resV, resAll, ARes.ev, LV.flat, ite_true, ite_false, exists_eq_left', exists_eq_left, keyOf, implies_true, fillC, capOf]
  unfold Sides
  by_cases h1 : 1 ≤ x ∧ x ≤ 4
  · simp (disch := omega) only [h1, ↓SXd, SXu, slBounds, ↓sop, ↓aop, ↓reduceIte, LV.cells, AOp.dst, LV.I, LV.B, LV.U, LV.S, LV.nil, Nat.reduceEqDiff, Nat.reduceAdd, Nat.reduceMul, Nat.reduceSub, Nat.reduceLeDiff, Nat.reduceBEq, Nat.reduceDiv, Nat.reduceMod, Int.reduceToNat, Int.reduceLT, Int.reduceLE, Int.reduceAdd, Int.reduceSub, Int.reduceMul, Int.reduceEq, Int.reduceNeg, reduceCtorEq, resV, resAll, ARes.ev, LV.flat, ite_true, ite_false, exists_eq_left', exists_eq_left, keyOf, implies_true, fillC, capOf]
    refine callK_of h_l1In ?_
    simp (disch := omega) only [↓SXd, SXu, slBounds, ↓sop, ↓aop, ↓reduceIte, LV.cells, AOp.dst, LV.I, LV.B, LV.U, LV.S, LV.nil, Nat.reduceEqDiff, Nat.reduceAdd, Nat.reduceMul, Nat.reduceSub, Nat.reduceLeDiff, Nat.reduceBEq, Nat.reduceDiv, Nat.reduceMod, Int.reduceToNat, Int.reduceLT, Int.reduceLE, Int.reduceAdd, Int.reduceSub, Int.reduceMul, Int.reduceEq, Int.reduceNeg, reduceCtorEq, resV, resAll, ARes.ev, LV.flat, ite_true, ite_false, exists_eq_left', exists_eq_left, keyOf, implies_true, fillC, capOf]
    by_cases h2 : 1 ≤ y ∧ y ≤ 4
    · simp (disch := omega) only [h2, ↓SXd, SXu, slBounds, ↓sop, ↓aop, ↓reduceIte, LV.cells, AOp.dst, LV.I, LV.B, LV.U, LV.S, LV.nil, Nat.reduceEqDiff, Nat.reduceAdd, Nat.reduceMul, Nat.reduceSub, Nat.reduceLeDiff, Nat.reduceBEq, Nat.reduceDiv, Nat.reduceMod, Int.reduceToNat, Int.reduceLT, Int.reduceLE, Int.reduceAdd, Int.reduceSub, Int.reduceMul, Int.reduceEq, Int.reduceNeg, reduceCtorEq, resV, resAll, ARes.ev, LV.flat, ite_true, ite_false, exists_eq_left', exists_eq_left, keyOf, implies_true, fillC, capOf]
      refine callK_of h_l1In ?_
      simp (disch := omega) only [↓SXd, SXu, slBounds, ↓sop, ↓aop, ↓reduceIte, LV.cells, AOp.dst, LV.I, LV.B, LV.U, LV.S, LV.nil, Nat.reduceEqDiff, Nat.reduceAdd, Nat.reduceMul, Nat.reduceSub, Nat.reduceLeDiff, Nat.reduceBEq, Nat.reduceDiv, Nat.reduceMod, Int.reduceToNat, Int.reduceLT, Int.reduceLE, Int.reduceAdd, Int.reduceSub, Int.reduceMul, Int.reduceEq, Int.reduceNeg, reduceCtorEq, resV, resAll, ARes.ev, LV.flat, ite_true, ite_false, exists_eq_left', exists_eq_left, keyOf, implies_true, fillC, capOf]
      exact cmp_drop0 rfl
    · simp (disch := omega) only [h2, false_and, ↓SXd, SXu, slBounds, ↓sop, ↓aop, ↓reduceIte, LV.cells, AOp.dst, LV.I, LV.B, LV.U, LV.S, LV.nil, Nat.reduceEqDiff, Nat.reduceAdd, Nat.reduceMul, Nat.reduceSub, Nat.reduceLeDiff, Nat.reduceBEq, Nat.reduceDiv, Nat.reduceMod, Int.reduceToNat, Int.reduceLT, Int.reduceLE, Int.reduceAdd, Int.reduceSub, Int.reduceMul, Int.reduceEq, Int.reduceNeg, reduceCtorEq, resV, resAll, ARes.ev, LV.flat, ite_true, ite_false, exists_eq_left', exists_eq_left, keyOf, implies_true, fillC, capOf]
      exact cmp_drop0 rfl
  · simp (disch := omega) only [h1, false_and, ↓SXd, SXu, slBounds, ↓sop, ↓aop, ↓reduceIte, LV.cells, AOp.dst, LV.I, LV.B, LV.U, LV.S, LV.nil, Nat.reduceEqDiff, Nat.reduceAdd, Nat.reduceMul, Nat.reduceSub, Nat.reduceLeDiff, Nat.reduceBEq, Nat.reduceDiv, Nat.reduceMod, Int.reduceToNat, Int.reduceLT, Int.reduceLE, Int.reduceAdd, Int.reduceSub, Int.reduceMul, Int.reduceEq, Int.reduceNeg, reduceCtorEq, resV, resAll, ARes.ev, LV.flat, ite_true, ite_false, exists_eq_left', exists_eq_left, keyOf, implies_true, fillC, capOf]
    exact cmp_drop0 rfl

theorem h_l2Before {a b c a' b' c' : Int} {M : Mem} : CallsTo PG F.spec_l2Before [.agg [.I a, .I b, .I c], .agg [.I a', .I b', .I c']] M (.B (decide (Cell.lt ⟨a, b, c⟩ ⟨a', b', c'⟩))) M := by
  refine calls_run K.spec_l2Before rfl ?_
  simp (disch := omega) only [C.spec_l2Before, ↓SXd, SXu, slBounds, ↓sop, ↓aop, ↓reduceIte, LV.cells, AOp.dst, LV.I, LV.B, LV.U, LV.S, LV.nil, Nat.reduceEqDiff, Nat.reduceAdd, Nat.reduceMul, Nat.reduceSub, Nat.reduceLeDiff, Nat.reduceBEq, Nat.reduceDiv, Nat.reduceMod, Int.reduceToNat, Int.reduceLT, Int.reduceLE, Int.reduceAdd, Int.reduceSub, Int.reduceMul, Int.reduceEq, Int.reduceNeg, reduceCtorEq, resV, resAll, ARes.ev, LV.flat, ite_true, ite_false, exists_eq_left', exists_eq_left, keyOf, implies_true, fillC, capOf]
  refine ev_loop (fun m fr M' => ∃ k : Nat, k + m = 3 ∧ M' = M ++ [some (Blk.row [.I a, .I b, .I c] true 0), some (Blk.row [.I a', .I b', .I c'] true 0)] ∧ fr 2 = .ptr M.length 0 ∧ fr 3 = .ptr (M.length + 1) 0 ∧ fr 5 = .I k ∧
    (0 < k → a = a') ∧ (1 < k → b = b') ∧ (2 < k → c = c')) 3 ⟨0, rfl, rfl, rfl, rfl, rfl, by omega, by omega, by omega⟩ ?_
  rintro m fr M' ⟨k, hk, rfl, h2, h3, h5, ha, hb, hc⟩
  simp (disch := omega) only [h2, h3, h5, ↓SXd, SXu, slBounds, ↓sop, ↓aop, ↓reduceIte, LV.cells, AOp.dst, LV.I, LV.B, LV.U, LV.S, LV.nil, Nat.reduceEqDiff, Nat.reduceAdd, Nat.reduceMul, Nat.reduceSub, Nat.reduceLeDiff, Nat.reduceBEq, Nat.reduceDiv, Nat.reduceMod, Int.reduceToNat, Int.reduceLT, Int.reduceLE, Int.reduceAdd, Int.reduceSub, Int.reduceMul, Int.reduceEq, Int.reduceNeg, reduceCtorEq, resV, resAll, ARes.ev, LV.flat, ite_true, ite_false, exists_eq_left', exists_eq_left, keyOf, implies_true, fillC, capOf]
  refine condC_dec (fun hlt => ?_) (fun hlt => ?_)
  · have hk3 : k = 0 ∨ k = 1 ∨ k = 2 := by omega
    rcases hk3 with rfl | rfl | rfl
    all_goals
      simp (disch := omega) only [h2, h3, h5, ↓SXd, SXu, slBounds, ↓sop, ↓aop, ↓reduceIte, LV.cells, AOp.dst, LV.I, LV.B, LV.U, LV.S, LV.nil, Nat.reduceEqDiff, Nat.reduceAdd, Nat.reduceMul, Nat.reduceSub, Nat.reduceLeDiff, Nat.reduceBEq, Nat.reduceDiv, Nat.reduceMod, Int.reduceToNat, Int.reduceLT, Int.reduceLE, Int.reduceAdd, Int.reduceSub, Int.reduceMul, Int.reduceEq, Int.reduceNeg, reduceCtorEq, resV, resAll, ARes.ev, LV.flat, ite_true, ite_false, exists_eq_left', exists_eq_left, keyOf, implies_true, fillC, capOf]
      refine condC_dec (fun he => ?_) (fun he => ?_)
      · simp (disch := omega) only [h2, h3, h5, ↓SXd, SXu, slBounds, ↓sop, ↓aop, ↓reduceIte, LV.cells, AOp.dst, LV.I, LV.B, LV.U, LV.S, LV.nil, Nat.reduceEqDiff, Nat.reduceAdd, Nat.reduceMul, Nat.reduceSub, Nat.reduceLeDiff, Nat.reduceBEq, Nat.reduceDiv, Nat.reduceMod, Int.reduceToNat, Int.reduceLT, Int.reduceLE, Int.reduceAdd, Int.reduceSub, Int.reduceMul, Int.reduceEq, Int.reduceNeg, reduceCtorEq, resV, resAll, ARes.ev, LV.flat, ite_true, ite_false, exists_eq_left', exists_eq_left, keyOf, implies_true, fillC, capOf]
        exact ⟨m - 1, by omega, _, by omega, rfl, h2, h3, eqI (natI _), by omega, by omega, by omega⟩
      · simp (disch := omega) only [h2, h3, h5, ↓SXd, SXu, slBounds, ↓sop, ↓aop, ↓reduceIte, LV.cells, AOp.dst, LV.I, LV.B, LV.U, LV.S, LV.nil, Nat.reduceEqDiff, Nat.reduceAdd, Nat.reduceMul, Nat.reduceSub, Nat.reduceLeDiff, Nat.reduceBEq, Nat.reduceDiv, Nat.reduceMod, Int.reduceToNat, Int.reduceLT, Int.reduceLE, Int.reduceAdd, Int.reduceSub, Int.reduceMul, Int.reduceEq, Int.reduceNeg, reduceCtorEq, resV, resAll, ARes.ev, LV.flat, ite_true, ite_false, exists_eq_left', exists_eq_left, keyOf, implies_true, fillC, capOf]
        exact cmp_dropB (by simp only [Cell.lt]; omega)
  · simp (disch := omega) only [h2, h3, h5, ↓SXd, SXu, slBounds, ↓sop, ↓aop, ↓reduceIte, LV.cells, AOp.dst, LV.I, LV.B, LV.U, LV.S, LV.nil, Nat.reduceEqDiff, Nat.reduceAdd, Nat.reduceMul, Nat.reduceSub, Nat.reduceLeDiff, Nat.reduceBEq, Nat.reduceDiv, Nat.reduceMod, Int.reduceToNat, Int.reduceLT, Int.reduceLE, Int.reduceAdd, Int.reduceSub, Int.reduceMul, Int.reduceEq, Int.reduceNeg, reduceCtorEq, resV, resAll, ARes.ev, LV.flat, ite_true, ite_false, exists_eq_left', exists_eq_left, keyOf, implies_true, fillC, capOf]
    exact cmp_dropF (by simp only [Cell.lt]; omega)

theorem h_l2In {x y z a b c : Int} {v : LV} {M : Mem} (hS : Sides x y z) : CallsTo PG F.spec_l2In [.agg [.I x, .I y, .I z, v], .agg [.I a, .I b, .I c]] M (.B (decide (Cell.inBox x y z ⟨a, b, c⟩))) M := by
  obtain ⟨hx, hy, hz⟩ := hS
  refine calls_run K.spec_l2In rfl ?_
  simp (disch := omega) only [C.spec_l2In, ↓SXd, SXu, slBounds, ↓sop, ↓aop, ↓reduceIte, LV.cells, AOp.dst, LV.I, LV.B, LV.U, LV.S, LV.nil, Nat.reduceEqDiff, Nat.reduceAdd, Nat.reduceMul, Nat.reduceSub, Nat.reduceLeDiff, Nat.reduceBEq, Nat.reduceDiv, Nat.reduceMod, Int.reduceToNat, Int.reduceLT, Int.reduceLE, Int.reduceAdd, Int.reduceSub, Int.reduceMul, Int.reduceEq, Int.reduceNeg, reduceCtorEq, resV, resAll, ARes.ev, LV.flat, ite_true, ite_false, exists_eq_left', exists_eq_left, keyOf, implies_true, fillC, capOf]
  refine callK_of h_l1In ?_
  simp (disch := omega) only [↓SXd, SXu, slBounds, ↓sop, ↓aop, ↓reduceIte, LV.cells, AOp.dst, LV.I, LV.B, LV.U, LV.S, LV.nil, Nat.reduceEqDiff, Nat.reduceAdd, Nat.reduceMul, Nat.reduceSub, Nat.reduceLeDiff, Nat.reduceBEq, Nat.reduceDiv, Nat.reduceMod, Int.reduceToNat, Int.reduceLT, Int.reduceLE, Int.reduceAdd, Int.reduceSub, Int.reduceMul, Int.reduceEq, Int.reduceNeg, reduceCtorEq, resV, resAll, ARes.ev, LV.flat, ite_true, ite_false, exists_eq_left', exists_eq_left, keyOf, implies_true, fillC, capOf]
  unfold Cell.inBox
  by_cases h1 : 0 ≤ a ∧ a ≤ x - 1
  · simp (disch := omega) only [h1, ↓SXd, SXu, slBounds, ↓sop, ↓aop, ↓reduceIte, LV.cells, AOp.dst, LV.I, LV.B, LV.U, LV.S, LV.nil, Nat.reduceEqDiff, Nat.reduceAdd, Nat.reduceMul, Nat.reduceSub, Nat.reduceLeDiff, Nat.reduceBEq, Nat.reduceDiv, Nat.reduceMod, Int.reduceToNat, Int.reduceLT, Int.reduceLE, Int.reduceAdd, Int.reduceSub, Int.reduceMul, Int.reduceEq, Int.reduceNeg, reduceCtorEq, resV, resAll, ARes.ev, LV.flat, ite_true, ite_false, exists_eq_left', exists_eq_left, keyOf, implies_true, fillC, capOf]
    refine callK_of h_l1In ?_
    simp (disch := omega) only [↓SXd, SXu, slBounds, ↓sop, ↓aop, ↓reduceIte, LV.cells, AOp.dst, LV.I, LV.B, LV.U, LV.S, LV.nil, Nat.reduceEqDiff, Nat.reduceAdd, Nat.reduceMul, Nat.reduceSub, Nat.reduceLeDiff, Nat.reduceBEq, Nat.reduceDiv, Nat.reduceMod, Int.reduceToNat, Int.reduceLT, Int.reduceLE, Int.reduceAdd, Int.reduceSub, Int.reduceMul, Int.reduceEq, Int.reduceNeg, reduceCtorEq, resV, resAll, ARes.ev, LV.flat, ite_true, ite_false, exists_eq_left', exists_eq_left, keyOf, implies_true, fillC, capOf]
    by_cases h2 : 0 ≤ b ∧ b ≤ y - 1
    · simp (disch := omega) only [h2, ↓SXd, SXu, slBounds, ↓sop, ↓aop, ↓reduceIte, LV.cells, AOp.dst, LV.I, LV.B, LV.U, LV.S, LV.nil, Nat.reduceEqDiff, Nat.reduceAdd, Nat.reduceMul, Nat.reduceSub, Nat.reduceLeDiff, Nat.reduceBEq, Nat.reduceDiv, Nat.reduceMod, Int.reduceToNat, Int.reduceLT, Int.reduceLE, Int.reduceAdd, Int.reduceSub, Int.reduceMul, Int.reduceEq, Int.reduceNeg, reduceCtorEq, resV, resAll, ARes.ev, LV.flat, ite_true, ite_false, exists_eq_left', exists_eq_left, keyOf, implies_true, fillC, capOf]
      refine callK_of h_l1In ?_
      simp (disch := omega) only [↓SXd, SXu, slBounds, ↓sop, ↓aop, ↓reduceIte, LV.cells, AOp.dst, LV.I, LV.B, LV.U, LV.S, LV.nil, Nat.reduceEqDiff, Nat.reduceAdd, Nat.reduceMul, Nat.reduceSub, Nat.reduceLeDiff, Nat.reduceBEq, Nat.reduceDiv, Nat.reduceMod, Int.reduceToNat, Int.reduceLT, Int.reduceLE, Int.reduceAdd, Int.reduceSub, Int.reduceMul, Int.reduceEq, Int.reduceNeg, reduceCtorEq, resV, resAll, ARes.ev, LV.flat, ite_true, ite_false, exists_eq_left', exists_eq_left, keyOf, implies_true, fillC, capOf]
      exact cmp_drop rfl
    · simp (disch := omega) only [h2, false_and, ↓SXd, SXu, slBounds, ↓sop, ↓aop, ↓reduceIte, LV.cells, AOp.dst, LV.I, LV.B, LV.U, LV.S, LV.nil, Nat.reduceEqDiff, Nat.reduceAdd, Nat.reduceMul, Nat.reduceSub, Nat.reduceLeDiff, Nat.reduceBEq, Nat.reduceDiv, Nat.reduceMod, Int.reduceToNat, Int.reduceLT, Int.reduceLE, Int.reduceAdd, Int.reduceSub, Int.reduceMul, Int.reduceEq, Int.reduceNeg, reduceCtorEq, resV, resAll, ARes.ev, LV.flat, ite_true, ite_false, exists_eq_left', exists_eq_left, keyOf, implies_true, fillC, capOf]
      exact cmp_drop rfl
  · simp (disch := omega) only [h1, false_and, ↓SXd, SXu, slBounds, ↓sop, ↓aop, ↓reduceIte, LV.cells, AOp.dst, LV.I, LV.B, LV.U, LV.S, LV.nil, Nat.reduceEqDiff, Nat.reduceAdd, Nat.reduceMul, Nat.reduceSub, Nat.reduceLeDiff, Nat.reduceBEq, Nat.reduceDiv, Nat.reduceMod, Int.reduceToNat, Int.reduceLT, Int.reduceLE, Int.reduceAdd, Int.reduceSub, Int.reduceMul, Int.reduceEq, Int.reduceNeg, reduceCtorEq, resV, resAll, ARes.ev, LV.flat, ite_true, ite_false, exists_eq_left', exists_eq_left, keyOf, implies_true, fillC, capOf]
    exact cmp_drop rfl
end Go.Ab

/- Contracts: the reference's valid heaps, heights, columns. -/
namespace Go.Ab
open Go
set_option linter.unusedSimpArgs false
set_option linter.unusedVariables false

theorem h_l2Heap {x y z : Int} {t o : Nat} {cs : List Cell} {M : Mem} (h : Tri M t o cs) (hn : cs.length ≤ 1000000000) :
    CallsTo PG F.spec_l2Heap [.agg [.I x, .I y, .I z, .ref t o cs.length]] M (.B (decide (HeapOK x y z cs))) M := by
  refine calls_run K.spec_l2Heap rfl ?_
  simp (disch := omega) only [C.spec_l2Heap, ↓SXd, SXu, slBounds, ↓sop, ↓aop, ↓reduceIte, LV.cells, AOp.dst, LV.I, LV.B, LV.U, LV.S, LV.nil, Nat.reduceEqDiff, Nat.reduceAdd, Nat.reduceMul, Nat.reduceSub, Nat.reduceLeDiff, Nat.reduceBEq, Nat.reduceDiv, Nat.reduceMod, Int.reduceToNat, Int.reduceLT, Int.reduceLE, Int.reduceAdd, Int.reduceSub, Int.reduceMul, Int.reduceEq, Int.reduceNeg, reduceCtorEq, resV, resAll, ARes.ev, LV.flat, ite_true, ite_false, exists_eq_left', exists_eq_left, keyOf, implies_true, fillC, capOf]
  refine callK_of h_l2Sides ?_
  simp (disch := omega) only [↓SXd, SXu, slBounds, ↓sop, ↓aop, ↓reduceIte, LV.cells, AOp.dst, LV.I, LV.B, LV.U, LV.S, LV.nil, Nat.reduceEqDiff, Nat.reduceAdd, Nat.reduceMul, Nat.reduceSub, Nat.reduceLeDiff, Nat.reduceBEq, Nat.reduceDiv, Nat.reduceMod, Int.reduceToNat, Int.reduceLT, Int.reduceLE, Int.reduceAdd, Int.reduceSub, Int.reduceMul, Int.reduceEq, Int.reduceNeg, reduceCtorEq, resV, resAll, ARes.ev, LV.flat, ite_true, ite_false, exists_eq_left', exists_eq_left, keyOf, implies_true, fillC, capOf]
  by_cases hS : Sides x y z
  · simp (disch := omega) only [hS, ↓SXd, SXu, slBounds, ↓sop, ↓aop, ↓reduceIte, LV.cells, AOp.dst, LV.I, LV.B, LV.U, LV.S, LV.nil, Nat.reduceEqDiff, Nat.reduceAdd, Nat.reduceMul, Nat.reduceSub, Nat.reduceLeDiff, Nat.reduceBEq, Nat.reduceDiv, Nat.reduceMod, Int.reduceToNat, Int.reduceLT, Int.reduceLE, Int.reduceAdd, Int.reduceSub, Int.reduceMul, Int.reduceEq, Int.reduceNeg, reduceCtorEq, resV, resAll, ARes.ev, LV.flat, ite_true, ite_false, exists_eq_left', exists_eq_left, keyOf, implies_true, fillC, capOf]
    refine ev_loop (fun m fr M' => ∃ k : Nat, k + m = cs.length ∧ M' = M ++ [some (Blk.row [.I x, .I y, .I z, .ref t o cs.length] true 0)] ∧ fr 1 = .ptr M.length 0 ∧ fr 3 = .I k ∧
      ∀ j, j < k → (cs.getD j default).inBox x y z ∧ (0 < j → (cs.getD (j - 1) default).lt (cs.getD j default))) cs.length ⟨0, by omega, rfl, rfl, rfl, by omega⟩ ?_
    rintro m fr M' ⟨k, hk, rfl, h1, h3, hj⟩
    have ht := h.lt
    simp (disch := omega) only [h1, h3, ↓SXd, SXu, slBounds, ↓sop, ↓aop, ↓reduceIte, LV.cells, AOp.dst, LV.I, LV.B, LV.U, LV.S, LV.nil, Nat.reduceEqDiff, Nat.reduceAdd, Nat.reduceMul, Nat.reduceSub, Nat.reduceLeDiff, Nat.reduceBEq, Nat.reduceDiv, Nat.reduceMod, Int.reduceToNat, Int.reduceLT, Int.reduceLE, Int.reduceAdd, Int.reduceSub, Int.reduceMul, Int.reduceEq, Int.reduceNeg, reduceCtorEq, resV, resAll, ARes.ev, LV.flat, ite_true, ite_false, exists_eq_left', exists_eq_left, keyOf, implies_true, fillC, capOf]
    refine condC_dec (fun hlt => ?_) (fun hlt => ?_)
    · simp (disch := omega) only [h1, h3, getCells_app, h.get, Cell.row, ↓SXd, SXu, slBounds, ↓sop, ↓aop, ↓reduceIte, LV.cells, AOp.dst, LV.I, LV.B, LV.U, LV.S, LV.nil, Nat.reduceEqDiff, Nat.reduceAdd, Nat.reduceMul, Nat.reduceSub, Nat.reduceLeDiff, Nat.reduceBEq, Nat.reduceDiv, Nat.reduceMod, Int.reduceToNat, Int.reduceLT, Int.reduceLE, Int.reduceAdd, Int.reduceSub, Int.reduceMul, Int.reduceEq, Int.reduceNeg, reduceCtorEq, resV, resAll, ARes.ev, LV.flat, ite_true, ite_false, exists_eq_left', exists_eq_left, keyOf, implies_true, fillC, capOf]
      refine callK_of (h_l2In hS) ?_
      simp (disch := omega) only [h1, h3, getCells_app, h.get, Cell.row, cell_eta, ↓SXd, SXu, slBounds, ↓sop, ↓aop, ↓reduceIte, LV.cells, AOp.dst, LV.I, LV.B, LV.U, LV.S, LV.nil, Nat.reduceEqDiff, Nat.reduceAdd, Nat.reduceMul, Nat.reduceSub, Nat.reduceLeDiff, Nat.reduceBEq, Nat.reduceDiv, Nat.reduceMod, Int.reduceToNat, Int.reduceLT, Int.reduceLE, Int.reduceAdd, Int.reduceSub, Int.reduceMul, Int.reduceEq, Int.reduceNeg, reduceCtorEq, resV, resAll, ARes.ev, LV.flat, ite_true, ite_false, exists_eq_left', exists_eq_left, keyOf, implies_true, fillC, capOf]
      by_cases hin : (cs.getD k default).inBox x y z
      · simp (disch := omega) only [hin, h1, h3, getCells_app, h.get, Cell.row, cell_eta, ↓SXd, SXu, slBounds, ↓sop, ↓aop, ↓reduceIte, LV.cells, AOp.dst, LV.I, LV.B, LV.U, LV.S, LV.nil, Nat.reduceEqDiff, Nat.reduceAdd, Nat.reduceMul, Nat.reduceSub, Nat.reduceLeDiff, Nat.reduceBEq, Nat.reduceDiv, Nat.reduceMod, Int.reduceToNat, Int.reduceLT, Int.reduceLE, Int.reduceAdd, Int.reduceSub, Int.reduceMul, Int.reduceEq, Int.reduceNeg, reduceCtorEq, resV, resAll, ARes.ev, LV.flat, ite_true, ite_false, exists_eq_left', exists_eq_left, keyOf, implies_true, fillC, capOf]
        by_cases hk0 : k = 0
        · subst hk0
          simp (disch := omega) only [h1, h3, getCells_app, h.get, Cell.row, cell_eta, Int.natCast_zero, gt_iff_lt, Int.lt_irrefl, ↓SXd, SXu, slBounds, ↓sop, ↓aop, ↓reduceIte, LV.cells, AOp.dst, LV.I, LV.B, LV.U, LV.S, LV.nil, Nat.reduceEqDiff, Nat.reduceAdd, Nat.reduceMul, Nat.reduceSub, Nat.reduceLeDiff, Nat.reduceBEq, Nat.reduceDiv, Nat.reduceMod, Int.reduceToNat, Int.reduceLT, Int.reduceLE, Int.reduceAdd, Int.reduceSub, Int.reduceMul, Int.reduceEq, Int.reduceNeg, reduceCtorEq, resV, resAll, ARes.ev, LV.flat, ite_true, ite_false, exists_eq_left', exists_eq_left, keyOf, implies_true, fillC, capOf]
          exact ⟨m - 1, by omega, 1, by omega, rfl, h1, rfl, fun j hj1 => by
            have : j = 0 := by omega
            subst this
            exact ⟨hin, by omega⟩⟩
        · have e1 : ((k : Int) - 1).toNat = k - 1 := by omega
          have e2 : (0 : Int) < k := by omega
          simp (disch := omega) only [h1, h3, getCells_app, h.get, Cell.row, cell_eta, e1, e2, ↓SXd, SXu, slBounds, ↓sop, ↓aop, ↓reduceIte, LV.cells, AOp.dst, LV.I, LV.B, LV.U, LV.S, LV.nil, Nat.reduceEqDiff, Nat.reduceAdd, Nat.reduceMul, Nat.reduceSub, Nat.reduceLeDiff, Nat.reduceBEq, Nat.reduceDiv, Nat.reduceMod, Int.reduceToNat, Int.reduceLT, Int.reduceLE, Int.reduceAdd, Int.reduceSub, Int.reduceMul, Int.reduceEq, Int.reduceNeg, reduceCtorEq, resV, resAll, ARes.ev, LV.flat, ite_true, ite_false, exists_eq_left', exists_eq_left, keyOf, implies_true, fillC, capOf]
          refine callK_of h_l2Before ?_
          simp (disch := omega) only [h1, h3, cell_eta, ↓SXd, SXu, slBounds, ↓sop, ↓aop, ↓reduceIte, LV.cells, AOp.dst, LV.I, LV.B, LV.U, LV.S, LV.nil, Nat.reduceEqDiff, Nat.reduceAdd, Nat.reduceMul, Nat.reduceSub, Nat.reduceLeDiff, Nat.reduceBEq, Nat.reduceDiv, Nat.reduceMod, Int.reduceToNat, Int.reduceLT, Int.reduceLE, Int.reduceAdd, Int.reduceSub, Int.reduceMul, Int.reduceEq, Int.reduceNeg, reduceCtorEq, resV, resAll, ARes.ev, LV.flat, ite_true, ite_false, exists_eq_left', exists_eq_left, keyOf, implies_true, fillC, capOf]
          by_cases hb : (cs.getD (k - 1) default).lt (cs.getD k default)
          · simp (disch := omega) only [hb, h1, h3, ↓SXd, SXu, slBounds, ↓sop, ↓aop, ↓reduceIte, LV.cells, AOp.dst, LV.I, LV.B, LV.U, LV.S, LV.nil, Nat.reduceEqDiff, Nat.reduceAdd, Nat.reduceMul, Nat.reduceSub, Nat.reduceLeDiff, Nat.reduceBEq, Nat.reduceDiv, Nat.reduceMod, Int.reduceToNat, Int.reduceLT, Int.reduceLE, Int.reduceAdd, Int.reduceSub, Int.reduceMul, Int.reduceEq, Int.reduceNeg, reduceCtorEq, resV, resAll, ARes.ev, LV.flat, ite_true, ite_false, exists_eq_left', exists_eq_left, keyOf, implies_true, fillC, capOf]
            exact ⟨m - 1, by omega, k + 1, by omega, rfl, h1, eqI (natI _), fun j hj1 => by
              by_cases hjk : j = k
              · subst hjk; exact ⟨hin, fun _ => hb⟩
              · exact hj j (by omega)⟩
          · simp (disch := omega) only [hb, h1, h3, ↓SXd, SXu, slBounds, ↓sop, ↓aop, ↓reduceIte, LV.cells, AOp.dst, LV.I, LV.B, LV.U, LV.S, LV.nil, Nat.reduceEqDiff, Nat.reduceAdd, Nat.reduceMul, Nat.reduceSub, Nat.reduceLeDiff, Nat.reduceBEq, Nat.reduceDiv, Nat.reduceMod, Int.reduceToNat, Int.reduceLT, Int.reduceLE, Int.reduceAdd, Int.reduceSub, Int.reduceMul, Int.reduceEq, Int.reduceNeg, reduceCtorEq, resV, resAll, ARes.ev, LV.flat, ite_true, ite_false, exists_eq_left', exists_eq_left, keyOf, implies_true, fillC, capOf]
            exact cmp_dropF fun hh => hb ((hh.2 k (by omega)).2 (by omega))
      · simp (disch := omega) only [hin, h1, h3, ↓SXd, SXu, slBounds, ↓sop, ↓aop, ↓reduceIte, LV.cells, AOp.dst, LV.I, LV.B, LV.U, LV.S, LV.nil, Nat.reduceEqDiff, Nat.reduceAdd, Nat.reduceMul, Nat.reduceSub, Nat.reduceLeDiff, Nat.reduceBEq, Nat.reduceDiv, Nat.reduceMod, Int.reduceToNat, Int.reduceLT, Int.reduceLE, Int.reduceAdd, Int.reduceSub, Int.reduceMul, Int.reduceEq, Int.reduceNeg, reduceCtorEq, resV, resAll, ARes.ev, LV.flat, ite_true, ite_false, exists_eq_left', exists_eq_left, keyOf, implies_true, fillC, capOf]
        exact cmp_dropF fun hh => hin (hh.2 k (by omega)).1
    · simp (disch := omega) only [h1, h3, ↓SXd, SXu, slBounds, ↓sop, ↓aop, ↓reduceIte, LV.cells, AOp.dst, LV.I, LV.B, LV.U, LV.S, LV.nil, Nat.reduceEqDiff, Nat.reduceAdd, Nat.reduceMul, Nat.reduceSub, Nat.reduceLeDiff, Nat.reduceBEq, Nat.reduceDiv, Nat.reduceMod, Int.reduceToNat, Int.reduceLT, Int.reduceLE, Int.reduceAdd, Int.reduceSub, Int.reduceMul, Int.reduceEq, Int.reduceNeg, reduceCtorEq, resV, resAll, ARes.ev, LV.flat, ite_true, ite_false, exists_eq_left', exists_eq_left, keyOf, implies_true, fillC, capOf]
      exact cmp_dropT ⟨hS, fun j hj1 => hj j (by omega)⟩
  · simp (disch := omega) only [hS, ↓SXd, SXu, slBounds, ↓sop, ↓aop, ↓reduceIte, LV.cells, AOp.dst, LV.I, LV.B, LV.U, LV.S, LV.nil, Nat.reduceEqDiff, Nat.reduceAdd, Nat.reduceMul, Nat.reduceSub, Nat.reduceLeDiff, Nat.reduceBEq, Nat.reduceDiv, Nat.reduceMod, Int.reduceToNat, Int.reduceLT, Int.reduceLE, Int.reduceAdd, Int.reduceSub, Int.reduceMul, Int.reduceEq, Int.reduceNeg, reduceCtorEq, resV, resAll, ARes.ev, LV.flat, ite_true, ite_false, exists_eq_left', exists_eq_left, keyOf, implies_true, fillC, capOf]
    exact cmp_dropF fun hh => hS hh.1

end Go.Ab

/- Contracts: distances of cells. -/
namespace Go.Ab
open Go
set_option linter.unusedSimpArgs false
set_option linter.unusedVariables false

theorem h_l2Apart {a b c a' b' c' : Int} {M : Mem} (h1 : 0 ≤ a ∧ a ≤ 100) (h2 : 0 ≤ b ∧ b ≤ 100) (h3 : 0 ≤ c ∧ c ≤ 100) (h1' : 0 ≤ a' ∧ a' ≤ 100) (h2' : 0 ≤ b' ∧ b' ≤ 100) (h3' : 0 ≤ c' ∧ c' ≤ 100) :
    CallsTo PG F.spec_l2Apart [.agg [.I a, .I b, .I c], .agg [.I a', .I b', .I c']] M (.I (apart ⟨a, b, c⟩ ⟨a', b', c'⟩)) M := by
  refine calls_run K.spec_l2Apart rfl ?_
  simp (disch := omega) only [C.spec_l2Apart, ↓SXd, SXu, slBounds, ↓sop, ↓aop, ↓reduceIte, LV.cells, AOp.dst, LV.I, LV.B, LV.U, LV.S, LV.nil, Nat.reduceEqDiff, Nat.reduceAdd, Nat.reduceMul, Nat.reduceSub, Nat.reduceLeDiff, Nat.reduceBEq, Nat.reduceDiv, Nat.reduceMod, Int.reduceToNat, Int.reduceLT, Int.reduceLE, Int.reduceAdd, Int.reduceSub, Int.reduceMul, Int.reduceEq, Int.reduceNeg, reduceCtorEq, resV, resAll, ARes.ev, LV.flat, ite_true, ite_false, exists_eq_left', exists_eq_left, keyOf, implies_true, fillC, capOf]
  refine ev_loop (fun m fr M' => ∃ (k : Nat) (s : Int), k + m = 3 ∧ M' = M ++ [some (Blk.row [.I a, .I b, .I c] true 0), some (Blk.row [.I a', .I b', .I c'] true 0)] ∧ fr 2 = .ptr M.length 0 ∧ fr 3 = .ptr (M.length + 1) 0 ∧ fr 6 = .I k ∧ fr 5 = .I s ∧
    (k = 0 → s = 0) ∧ (k = 1 → s = max (a - a') (a' - a)) ∧ (k = 2 → s = max (a - a') (a' - a) + max (b - b') (b' - b)) ∧ (k = 3 → s = apart ⟨a, b, c⟩ ⟨a', b', c'⟩)) 3
    ⟨0, 0, rfl, rfl, rfl, rfl, rfl, rfl, by omega, by omega, by omega, by omega⟩ ?_
  rintro m fr M' ⟨k, s, hk, rfl, g2, g3, g6, g5, s0, s1, s2, s3⟩
  simp (disch := omega) only [g2, g3, g5, g6, ↓SXd, SXu, slBounds, ↓sop, ↓aop, ↓reduceIte, LV.cells, AOp.dst, LV.I, LV.B, LV.U, LV.S, LV.nil, Nat.reduceEqDiff, Nat.reduceAdd, Nat.reduceMul, Nat.reduceSub, Nat.reduceLeDiff, Nat.reduceBEq, Nat.reduceDiv, Nat.reduceMod, Int.reduceToNat, Int.reduceLT, Int.reduceLE, Int.reduceAdd, Int.reduceSub, Int.reduceMul, Int.reduceEq, Int.reduceNeg, reduceCtorEq, resV, resAll, ARes.ev, LV.flat, ite_true, ite_false, exists_eq_left', exists_eq_left, keyOf, implies_true, fillC, capOf]
  refine condC_dec (fun hlt => ?_) (fun hlt => ?_)
  · have hk3 : k = 0 ∨ k = 1 ∨ k = 2 := by omega
    rcases hk3 with rfl | rfl | rfl
    · have := s0 rfl; subst this
      simp (disch := omega) only [g2, g3, g5, g6, ↓SXd, SXu, slBounds, ↓sop, ↓aop, ↓reduceIte, LV.cells, AOp.dst, LV.I, LV.B, LV.U, LV.S, LV.nil, Nat.reduceEqDiff, Nat.reduceAdd, Nat.reduceMul, Nat.reduceSub, Nat.reduceLeDiff, Nat.reduceBEq, Nat.reduceDiv, Nat.reduceMod, Int.reduceToNat, Int.reduceLT, Int.reduceLE, Int.reduceAdd, Int.reduceSub, Int.reduceMul, Int.reduceEq, Int.reduceNeg, reduceCtorEq, resV, resAll, ARes.ev, LV.flat, ite_true, ite_false, exists_eq_left', exists_eq_left, keyOf, implies_true, fillC, capOf]
      refine callK_of h_l1Most ?_
      simp (disch := omega) only [g2, g3, g5, g6, ↓SXd, SXu, slBounds, ↓sop, ↓aop, ↓reduceIte, LV.cells, AOp.dst, LV.I, LV.B, LV.U, LV.S, LV.nil, Nat.reduceEqDiff, Nat.reduceAdd, Nat.reduceMul, Nat.reduceSub, Nat.reduceLeDiff, Nat.reduceBEq, Nat.reduceDiv, Nat.reduceMod, Int.reduceToNat, Int.reduceLT, Int.reduceLE, Int.reduceAdd, Int.reduceSub, Int.reduceMul, Int.reduceEq, Int.reduceNeg, reduceCtorEq, resV, resAll, ARes.ev, LV.flat, ite_true, ite_false, exists_eq_left', exists_eq_left, keyOf, implies_true, fillC, capOf]
      exact ⟨m - 1, by omega, 1, _, by omega, rfl, g2, g3, rfl, rfl, by omega, by omega, by omega, by omega⟩
    · have := s1 rfl; subst this
      simp (disch := omega) only [g2, g3, g5, g6, ↓SXd, SXu, slBounds, ↓sop, ↓aop, ↓reduceIte, LV.cells, AOp.dst, LV.I, LV.B, LV.U, LV.S, LV.nil, Nat.reduceEqDiff, Nat.reduceAdd, Nat.reduceMul, Nat.reduceSub, Nat.reduceLeDiff, Nat.reduceBEq, Nat.reduceDiv, Nat.reduceMod, Int.reduceToNat, Int.reduceLT, Int.reduceLE, Int.reduceAdd, Int.reduceSub, Int.reduceMul, Int.reduceEq, Int.reduceNeg, reduceCtorEq, resV, resAll, ARes.ev, LV.flat, ite_true, ite_false, exists_eq_left', exists_eq_left, keyOf, implies_true, fillC, capOf]
      refine callK_of h_l1Most ?_
      simp (disch := omega) only [g2, g3, g5, g6, ↓SXd, SXu, slBounds, ↓sop, ↓aop, ↓reduceIte, LV.cells, AOp.dst, LV.I, LV.B, LV.U, LV.S, LV.nil, Nat.reduceEqDiff, Nat.reduceAdd, Nat.reduceMul, Nat.reduceSub, Nat.reduceLeDiff, Nat.reduceBEq, Nat.reduceDiv, Nat.reduceMod, Int.reduceToNat, Int.reduceLT, Int.reduceLE, Int.reduceAdd, Int.reduceSub, Int.reduceMul, Int.reduceEq, Int.reduceNeg, reduceCtorEq, resV, resAll, ARes.ev, LV.flat, ite_true, ite_false, exists_eq_left', exists_eq_left, keyOf, implies_true, fillC, capOf]
      exact ⟨m - 1, by omega, 2, _, by omega, rfl, g2, g3, rfl, rfl, by omega, by omega, by omega, by omega⟩
    · have := s2 rfl; subst this
      simp (disch := omega) only [g2, g3, g5, g6, ↓SXd, SXu, slBounds, ↓sop, ↓aop, ↓reduceIte, LV.cells, AOp.dst, LV.I, LV.B, LV.U, LV.S, LV.nil, Nat.reduceEqDiff, Nat.reduceAdd, Nat.reduceMul, Nat.reduceSub, Nat.reduceLeDiff, Nat.reduceBEq, Nat.reduceDiv, Nat.reduceMod, Int.reduceToNat, Int.reduceLT, Int.reduceLE, Int.reduceAdd, Int.reduceSub, Int.reduceMul, Int.reduceEq, Int.reduceNeg, reduceCtorEq, resV, resAll, ARes.ev, LV.flat, ite_true, ite_false, exists_eq_left', exists_eq_left, keyOf, implies_true, fillC, capOf]
      refine callK_of h_l1Most ?_
      simp (disch := omega) only [g2, g3, g5, g6, ↓SXd, SXu, slBounds, ↓sop, ↓aop, ↓reduceIte, LV.cells, AOp.dst, LV.I, LV.B, LV.U, LV.S, LV.nil, Nat.reduceEqDiff, Nat.reduceAdd, Nat.reduceMul, Nat.reduceSub, Nat.reduceLeDiff, Nat.reduceBEq, Nat.reduceDiv, Nat.reduceMod, Int.reduceToNat, Int.reduceLT, Int.reduceLE, Int.reduceAdd, Int.reduceSub, Int.reduceMul, Int.reduceEq, Int.reduceNeg, reduceCtorEq, resV, resAll, ARes.ev, LV.flat, ite_true, ite_false, exists_eq_left', exists_eq_left, keyOf, implies_true, fillC, capOf]
      exact ⟨m - 1, by omega, 3, _, by omega, rfl, g2, g3, rfl, rfl, by omega, by omega, by omega, fun _ => rfl⟩
  · simp (disch := omega) only [g2, g3, g5, g6, ↓SXd, SXu, slBounds, ↓sop, ↓aop, ↓reduceIte, LV.cells, AOp.dst, LV.I, LV.B, LV.U, LV.S, LV.nil, Nat.reduceEqDiff, Nat.reduceAdd, Nat.reduceMul, Nat.reduceSub, Nat.reduceLeDiff, Nat.reduceBEq, Nat.reduceDiv, Nat.reduceMod, Int.reduceToNat, Int.reduceLT, Int.reduceLE, Int.reduceAdd, Int.reduceSub, Int.reduceMul, Int.reduceEq, Int.reduceNeg, reduceCtorEq, resV, resAll, ARes.ev, LV.flat, ite_true, ite_false, exists_eq_left', exists_eq_left, keyOf, implies_true, fillC, capOf]
    rw [s3 (by omega)]
    exact cmp_drop rfl

end Go.Ab

/- Contracts: the reference's heaps. -/
namespace Go.Ab
open Go
set_option linter.unusedSimpArgs false
set_option linter.unusedVariables false

theorem h_l2Empty {x y z : Int} {M : Mem} : CallsTo PG F.spec_l2Empty [.I x, .I y, .I z] M (.agg [.I x, .I y, .I z, .ref M.length 0 0]) (M ++ [some (.row [] true 3)]) := by
  refine calls_run K.spec_l2Empty rfl ?_
  simp (disch := omega) only [C.spec_l2Empty, splice, ↓SXd, SXu, slBounds, ↓sop, ↓aop, ↓reduceIte, LV.cells, AOp.dst, LV.I, LV.B, LV.U, LV.S, LV.nil, Nat.reduceEqDiff, Nat.reduceAdd, Nat.reduceMul, Nat.reduceSub, Nat.reduceLeDiff, Nat.reduceBEq, Nat.reduceDiv, Nat.reduceMod, Int.reduceToNat, Int.reduceLT, Int.reduceLE, Int.reduceAdd, Int.reduceSub, Int.reduceMul, Int.reduceEq, Int.reduceNeg, reduceCtorEq, resV, resAll, ARes.ev, LV.flat, ite_true, ite_false, exists_eq_left', exists_eq_left, keyOf, implies_true, fillC, capOf]
  exact cmp_keep1 (j := 1) rfl rfl (by simp [rn, rn0, rn1, keepR_n])

theorem h_l2Made {x y z : Int} {v : LV} {t o n : Nat} {M : Mem} (ht : t < M.length) : CallsTo PG F.spec_l2Made [.agg [.I x, .I y, .I z, v], .ref t o n] M (.agg [.I x, .I y, .I z, .ref t o n]) M := by
  refine calls_run K.spec_l2Made rfl ?_
  simp (disch := omega) only [C.spec_l2Made, splice, ↓SXd, SXu, slBounds, ↓sop, ↓aop, ↓reduceIte, LV.cells, AOp.dst, LV.I, LV.B, LV.U, LV.S, LV.nil, Nat.reduceEqDiff, Nat.reduceAdd, Nat.reduceMul, Nat.reduceSub, Nat.reduceLeDiff, Nat.reduceBEq, Nat.reduceDiv, Nat.reduceMod, Int.reduceToNat, Int.reduceLT, Int.reduceLE, Int.reduceAdd, Int.reduceSub, Int.reduceMul, Int.reduceEq, Int.reduceNeg, reduceCtorEq, resV, resAll, ARes.ev, LV.flat, ite_true, ite_false, exists_eq_left', exists_eq_left, keyOf, implies_true, fillC, capOf]
  exact cmp_drop (by simp [LV.lo, LV.lo1, ht])

theorem h_l2Has {x y z a b c : Int} {t o : Nat} {cs : List Cell} {M : Mem} (h : Tri M t o cs) (hn : cs.length ≤ 1000000000) :
    CallsTo PG F.spec_l2Has [.agg [.I x, .I y, .I z, .ref t o cs.length], .agg [.I a, .I b, .I c]] M (.B (decide ((⟨a, b, c⟩ : Cell) ∈ cs))) M := by
  refine calls_run K.spec_l2Has rfl ?_
  simp (disch := omega) only [C.spec_l2Has, ↓SXd, SXu, slBounds, ↓sop, ↓aop, ↓reduceIte, LV.cells, AOp.dst, LV.I, LV.B, LV.U, LV.S, LV.nil, Nat.reduceEqDiff, Nat.reduceAdd, Nat.reduceMul, Nat.reduceSub, Nat.reduceLeDiff, Nat.reduceBEq, Nat.reduceDiv, Nat.reduceMod, Int.reduceToNat, Int.reduceLT, Int.reduceLE, Int.reduceAdd, Int.reduceSub, Int.reduceMul, Int.reduceEq, Int.reduceNeg, reduceCtorEq, resV, resAll, ARes.ev, LV.flat, ite_true, ite_false, exists_eq_left', exists_eq_left, keyOf, implies_true, fillC, capOf]
  refine ev_loop (fun m fr M' => ∃ k : Nat, k + m = cs.length ∧ M' = M ++ [some (Blk.row [.I x, .I y, .I z, .ref t o cs.length] true 0), some (Blk.row [.I a, .I b, .I c] true 0)] ∧ fr 2 = .ptr M.length 0 ∧ fr 3 = .ptr (M.length + 1) 0 ∧ fr 5 = .I k ∧ (⟨a, b, c⟩ : Cell) ∉ cs.take k) cs.length
    ⟨0, by omega, rfl, rfl, rfl, rfl, by simp⟩ ?_
  rintro m fr M' ⟨k, hk, rfl, f2, f3, f5, hno⟩
  have ht := h.lt
  simp (disch := omega) only [f2, f3, f5, ↓SXd, SXu, slBounds, ↓sop, ↓aop, ↓reduceIte, LV.cells, AOp.dst, LV.I, LV.B, LV.U, LV.S, LV.nil, Nat.reduceEqDiff, Nat.reduceAdd, Nat.reduceMul, Nat.reduceSub, Nat.reduceLeDiff, Nat.reduceBEq, Nat.reduceDiv, Nat.reduceMod, Int.reduceToNat, Int.reduceLT, Int.reduceLE, Int.reduceAdd, Int.reduceSub, Int.reduceMul, Int.reduceEq, Int.reduceNeg, reduceCtorEq, resV, resAll, ARes.ev, LV.flat, ite_true, ite_false, exists_eq_left', exists_eq_left, keyOf, implies_true, fillC, capOf]
  refine condC_dec (fun hlt => ?_) (fun hlt => ?_)
  · have hkl : k < cs.length := by omega
    have htd := take_dec (cs := cs) (k := k) (c := ⟨a, b, c⟩) hkl
    rw [decide_eq_false hno, Bool.false_or] at htd
    simp (disch := omega) only [f2, f3, f5, getCells_app, (Tri.get h (k := k) (by omega)), Cell.row, eqV, eqC, if_true, ite_true, Bool.and_true, ↓SXd, SXu, slBounds, ↓sop, ↓aop, ↓reduceIte, LV.cells, AOp.dst, LV.I, LV.B, LV.U, LV.S, LV.nil, Nat.reduceEqDiff, Nat.reduceAdd, Nat.reduceMul, Nat.reduceSub, Nat.reduceLeDiff, Nat.reduceBEq, Nat.reduceDiv, Nat.reduceMod, Int.reduceToNat, Int.reduceLT, Int.reduceLE, Int.reduceAdd, Int.reduceSub, Int.reduceMul, Int.reduceEq, Int.reduceNeg, reduceCtorEq, resV, resAll, ARes.ev, LV.flat, ite_true, ite_false, exists_eq_left', exists_eq_left, keyOf, implies_true, fillC, capOf]
    by_cases he : (⟨a, b, c⟩ : Cell) = cs.getD k default
    · obtain ⟨e1, e2, e3⟩ := cell_eq.1 he
      simp only at e1 e2 e3
      simp (disch := omega) only [f2, f3, f5, ← e1, ← e2, ← e3, Bool.and_self, ↓SXd, SXu, slBounds, ↓sop, ↓aop, ↓reduceIte, LV.cells, AOp.dst, LV.I, LV.B, LV.U, LV.S, LV.nil, Nat.reduceEqDiff, Nat.reduceAdd, Nat.reduceMul, Nat.reduceSub, Nat.reduceLeDiff, Nat.reduceBEq, Nat.reduceDiv, Nat.reduceMod, Int.reduceToNat, Int.reduceLT, Int.reduceLE, Int.reduceAdd, Int.reduceSub, Int.reduceMul, Int.reduceEq, Int.reduceNeg, reduceCtorEq, resV, resAll, ARes.ev, LV.flat, ite_true, ite_false, exists_eq_left', exists_eq_left, keyOf, implies_true, fillC, capOf]
      exact cmp_dropT (List.mem_of_mem_take (of_decide_eq_true (htd ▸ decide_eq_true he)))
    · rw [decide_eq_false he] at htd
      have hf : ((cs.getD k default).a == a && ((cs.getD k default).b == b && (cs.getD k default).c == c)) = false := by
        rw [Bool.eq_false_iff]
        intro e
        simp only [Bool.and_eq_true, beq_iff_eq] at e
        exact he (cell_eq.2 ⟨e.1.symm, e.2.1.symm, e.2.2.symm⟩)
      simp (disch := omega) only [f2, f3, f5, hf, ↓SXd, SXu, slBounds, ↓sop, ↓aop, ↓reduceIte, LV.cells, AOp.dst, LV.I, LV.B, LV.U, LV.S, LV.nil, Nat.reduceEqDiff, Nat.reduceAdd, Nat.reduceMul, Nat.reduceSub, Nat.reduceLeDiff, Nat.reduceBEq, Nat.reduceDiv, Nat.reduceMod, Int.reduceToNat, Int.reduceLT, Int.reduceLE, Int.reduceAdd, Int.reduceSub, Int.reduceMul, Int.reduceEq, Int.reduceNeg, reduceCtorEq, resV, resAll, ARes.ev, LV.flat, ite_true, ite_false, exists_eq_left', exists_eq_left, keyOf, implies_true, fillC, capOf]
      exact ⟨m - 1, by omega, k + 1, by omega, rfl, f2, f3, eqI (natI _), of_decide_eq_false htd.symm⟩
  · simp (disch := omega) only [f2, f3, f5, ↓SXd, SXu, slBounds, ↓sop, ↓aop, ↓reduceIte, LV.cells, AOp.dst, LV.I, LV.B, LV.U, LV.S, LV.nil, Nat.reduceEqDiff, Nat.reduceAdd, Nat.reduceMul, Nat.reduceSub, Nat.reduceLeDiff, Nat.reduceBEq, Nat.reduceDiv, Nat.reduceMod, Int.reduceToNat, Int.reduceLT, Int.reduceLE, Int.reduceAdd, Int.reduceSub, Int.reduceMul, Int.reduceEq, Int.reduceNeg, reduceCtorEq, resV, resAll, ARes.ev, LV.flat, ite_true, ite_false, exists_eq_left', exists_eq_left, keyOf, implies_true, fillC, capOf]
    have : k = cs.length := by omega
    subst this
    rw [List.take_length] at hno
    exact cmp_dropF hno

theorem h_l2All {x y z : Int} {v : LV} {M : Mem} (hS : Sides x y z) : CallsTo PG F.spec_l2All [.agg [.I x, .I y, .I z, v]] M (.ref M.length 0 (cellsOf x y z).length) (M ++ [some (.row (triL (cellsOf x y z)) true 3)]) := by
  obtain ⟨hx, hy, hz⟩ := id hS
  have hv := vol_cast hS
  have hlen : (cellsOf x y z).length = vol x y z := by simp [cellsOf]
  refine calls_run K.spec_l2All rfl ?_
  simp (disch := omega) only [C.spec_l2All, ↓SXd, SXu, slBounds, ↓sop, ↓aop, ↓reduceIte, LV.cells, AOp.dst, LV.I, LV.B, LV.U, LV.S, LV.nil, Nat.reduceEqDiff, Nat.reduceAdd, Nat.reduceMul, Nat.reduceSub, Nat.reduceLeDiff, Nat.reduceBEq, Nat.reduceDiv, Nat.reduceMod, Int.reduceToNat, Int.reduceLT, Int.reduceLE, Int.reduceAdd, Int.reduceSub, Int.reduceMul, Int.reduceEq, Int.reduceNeg, reduceCtorEq, resV, resAll, ARes.ev, LV.flat, ite_true, ite_false, exists_eq_left', exists_eq_left, keyOf, implies_true, fillC, capOf]
  refine ev_loop (fun m fr M' => ∃ (a u : Nat) (acc : List Cell), (a : Int) + m = x ∧ acc = (cellsOf x y z).take (idx y z ⟨a, 0, 0⟩).toNat ∧ Pre M M' ∧ Live M' M.length (.row [.I x, .I y, .I z, v] true 0) ∧ M.length + 1 ≤ u ∧ Live M' u (.row (triL acc) true 3) ∧
    fr 1 = .ptr M.length 0 ∧ fr 3 = .ref u 0 acc.length ∧ fr 4 = .I a) x.toNat
    ⟨0, M.length + 1, [], by omega, by simp [idx], Pre.app _ _, Live.new, by omega, Live.newj rfl, rfl, rfl, rfl⟩ ?_
  rintro m fr M' ⟨a, u, acc, ha, hacc, hpre, hbox, hu, hout, f1, f3, f4⟩
  simp (disch := omega) only [f1, f3, f4, hbox.cell, ↓SXd, SXu, slBounds, ↓sop, ↓aop, ↓reduceIte, LV.cells, AOp.dst, LV.I, LV.B, LV.U, LV.S, LV.nil, Nat.reduceEqDiff, Nat.reduceAdd, Nat.reduceMul, Nat.reduceSub, Nat.reduceLeDiff, Nat.reduceBEq, Nat.reduceDiv, Nat.reduceMod, Int.reduceToNat, Int.reduceLT, Int.reduceLE, Int.reduceAdd, Int.reduceSub, Int.reduceMul, Int.reduceEq, Int.reduceNeg, reduceCtorEq, resV, resAll, ARes.ev, LV.flat, ite_true, ite_false, exists_eq_left', exists_eq_left, keyOf, implies_true, fillC, capOf]
  refine condC_dec (fun hlt => ?_) (fun hlt => ?_)
  rotate_left
  · simp (disch := omega) only [f1, f3, f4, ↓SXd, SXu, slBounds, ↓sop, ↓aop, ↓reduceIte, LV.cells, AOp.dst, LV.I, LV.B, LV.U, LV.S, LV.nil, Nat.reduceEqDiff, Nat.reduceAdd, Nat.reduceMul, Nat.reduceSub, Nat.reduceLeDiff, Nat.reduceBEq, Nat.reduceDiv, Nat.reduceMod, Int.reduceToNat, Int.reduceLT, Int.reduceLE, Int.reduceAdd, Int.reduceSub, Int.reduceMul, Int.reduceEq, Int.reduceNeg, reduceCtorEq, resV, resAll, ARes.ev, LV.flat, ite_true, ite_false, exists_eq_left', exists_eq_left, keyOf, implies_true, fillC, capOf]
    have hax : (a : Int) = x := by omega
    have e : cellsOf x y z = acc := by
      rw [hacc, hax, List.take_of_length_le]
      unfold idx
      simp only [Int.add_zero]
      rw [hlen]; unfold vol; omega
    rw [e]
    exact cmp_keepL hpre (by omega) hout (triL_lo acc) (by simp [rn, rn0, rn1])
  · simp (disch := omega) only [f1, f3, f4, ↓SXd, SXu, slBounds, ↓sop, ↓aop, ↓reduceIte, LV.cells, AOp.dst, LV.I, LV.B, LV.U, LV.S, LV.nil, Nat.reduceEqDiff, Nat.reduceAdd, Nat.reduceMul, Nat.reduceSub, Nat.reduceLeDiff, Nat.reduceBEq, Nat.reduceDiv, Nat.reduceMod, Int.reduceToNat, Int.reduceLT, Int.reduceLE, Int.reduceAdd, Int.reduceSub, Int.reduceMul, Int.reduceEq, Int.reduceNeg, reduceCtorEq, resV, resAll, ARes.ev, LV.flat, ite_true, ite_false, exists_eq_left', exists_eq_left, keyOf, implies_true, fillC, capOf]
    refine ev_loop (fun m2 fr N => ∃ (b u : Nat) (acc : List Cell), (b : Int) + m2 = y ∧ acc = (cellsOf x y z).take (idx y z ⟨a, b, 0⟩).toNat ∧ Pre M N ∧ Live N M.length (.row [.I x, .I y, .I z, v] true 0) ∧ M.length + 1 ≤ u ∧ Live N u (.row (triL acc) true 3) ∧
      fr 1 = .ptr M.length 0 ∧ fr 3 = .ref u 0 acc.length ∧ fr 4 = .I a ∧ fr 5 = .I b) y.toNat
      ⟨0, u, acc, by omega, hacc, hpre, hbox, hu, hout, f1, f3, f4, rfl⟩ ?_
    clear f1 f3 f4 hpre hbox hu hout hacc
    rintro m2 fr N ⟨b, u, acc, hb, hacc, hpre, hbox, hu, hout, f1, f3, f4, f5⟩
    simp (disch := omega) only [f1, f3, f4, f5, hbox.cell, ↓SXd, SXu, slBounds, ↓sop, ↓aop, ↓reduceIte, LV.cells, AOp.dst, LV.I, LV.B, LV.U, LV.S, LV.nil, Nat.reduceEqDiff, Nat.reduceAdd, Nat.reduceMul, Nat.reduceSub, Nat.reduceLeDiff, Nat.reduceBEq, Nat.reduceDiv, Nat.reduceMod, Int.reduceToNat, Int.reduceLT, Int.reduceLE, Int.reduceAdd, Int.reduceSub, Int.reduceMul, Int.reduceEq, Int.reduceNeg, reduceCtorEq, resV, resAll, ARes.ev, LV.flat, ite_true, ite_false, exists_eq_left', exists_eq_left, keyOf, implies_true, fillC, capOf]
    refine condC_dec (fun hlt2 => ?_) (fun hlt2 => ?_)
    rotate_left
    · simp (disch := omega) only [f1, f3, f4, f5, ↓SXd, SXu, slBounds, ↓sop, ↓aop, ↓reduceIte, LV.cells, AOp.dst, LV.I, LV.B, LV.U, LV.S, LV.nil, Nat.reduceEqDiff, Nat.reduceAdd, Nat.reduceMul, Nat.reduceSub, Nat.reduceLeDiff, Nat.reduceBEq, Nat.reduceDiv, Nat.reduceMod, Int.reduceToNat, Int.reduceLT, Int.reduceLE, Int.reduceAdd, Int.reduceSub, Int.reduceMul, Int.reduceEq, Int.reduceNeg, reduceCtorEq, resV, resAll, ARes.ev, LV.flat, ite_true, ite_false, exists_eq_left', exists_eq_left, keyOf, implies_true, fillC, capOf]
      have hby : (b : Int) = y := by omega
      refine ⟨m - 1, by omega, a + 1, u, acc, by omega, ?_, hpre, hbox, hu, hout, f1, f3, eqI (natI _)⟩
      rw [hacc, hby]
      unfold idx
      simp only [Int.natCast_add, Int.natCast_one, Int.add_mul, Int.one_mul, Int.add_zero]
    · simp (disch := omega) only [f1, f3, f4, f5, ↓SXd, SXu, slBounds, ↓sop, ↓aop, ↓reduceIte, LV.cells, AOp.dst, LV.I, LV.B, LV.U, LV.S, LV.nil, Nat.reduceEqDiff, Nat.reduceAdd, Nat.reduceMul, Nat.reduceSub, Nat.reduceLeDiff, Nat.reduceBEq, Nat.reduceDiv, Nat.reduceMod, Int.reduceToNat, Int.reduceLT, Int.reduceLE, Int.reduceAdd, Int.reduceSub, Int.reduceMul, Int.reduceEq, Int.reduceNeg, reduceCtorEq, resV, resAll, ARes.ev, LV.flat, ite_true, ite_false, exists_eq_left', exists_eq_left, keyOf, implies_true, fillC, capOf]
      refine ev_loop (fun m3 fr N => ∃ (c u : Nat) (acc : List Cell), (c : Int) + m3 = z ∧ acc = (cellsOf x y z).take (idx y z ⟨a, b, c⟩).toNat ∧ Pre M N ∧ Live N M.length (.row [.I x, .I y, .I z, v] true 0) ∧ M.length + 1 ≤ u ∧ Live N u (.row (triL acc) true 3) ∧
        fr 1 = .ptr M.length 0 ∧ fr 3 = .ref u 0 acc.length ∧ fr 4 = .I a ∧ fr 5 = .I b ∧ fr 6 = .I c) z.toNat
        ⟨0, u, acc, by omega, hacc, hpre, hbox, hu, hout, f1, f3, f4, f5, rfl⟩ ?_
      clear f1 f3 f4 f5 hpre hbox hu hout hacc
      rintro m3 fr N ⟨c, u, acc, hc, hacc, hpre, hbox, hu, hout, f1, f3, f4, f5, f6⟩
      simp (disch := omega) only [f1, f3, f4, f5, f6, hbox.cell, ↓SXd, SXu, slBounds, ↓sop, ↓aop, ↓reduceIte, LV.cells, AOp.dst, LV.I, LV.B, LV.U, LV.S, LV.nil, Nat.reduceEqDiff, Nat.reduceAdd, Nat.reduceMul, Nat.reduceSub, Nat.reduceLeDiff, Nat.reduceBEq, Nat.reduceDiv, Nat.reduceMod, Int.reduceToNat, Int.reduceLT, Int.reduceLE, Int.reduceAdd, Int.reduceSub, Int.reduceMul, Int.reduceEq, Int.reduceNeg, reduceCtorEq, resV, resAll, ARes.ev, LV.flat, ite_true, ite_false, exists_eq_left', exists_eq_left, keyOf, implies_true, fillC, capOf]
      refine condC_dec (fun hlt3 => ?_) (fun hlt3 => ?_)
      rotate_left
      · simp (disch := omega) only [f1, f3, f4, f5, f6, ↓SXd, SXu, slBounds, ↓sop, ↓aop, ↓reduceIte, LV.cells, AOp.dst, LV.I, LV.B, LV.U, LV.S, LV.nil, Nat.reduceEqDiff, Nat.reduceAdd, Nat.reduceMul, Nat.reduceSub, Nat.reduceLeDiff, Nat.reduceBEq, Nat.reduceDiv, Nat.reduceMod, Int.reduceToNat, Int.reduceLT, Int.reduceLE, Int.reduceAdd, Int.reduceSub, Int.reduceMul, Int.reduceEq, Int.reduceNeg, reduceCtorEq, resV, resAll, ARes.ev, LV.flat, ite_true, ite_false, exists_eq_left', exists_eq_left, keyOf, implies_true, fillC, capOf]
        have hcz : (c : Int) = z := by omega
        refine ⟨m2 - 1, by omega, b + 1, u, acc, by omega, ?_, hpre, hbox, hu, hout, f1, f3, f4, eqI (natI _)⟩
        rw [hacc, hcz]
        unfold idx
        simp only [Int.natCast_add, Int.natCast_one, Int.add_mul, Int.one_mul, Int.add_zero, Int.add_assoc]
      · have hin : (⟨a, b, c⟩ : Cell).inBox x y z := ⟨⟨by simp only; omega, by simp only; omega⟩, ⟨by simp only; omega, by simp only; omega⟩, ⟨by simp only; omega, by simp only; omega⟩⟩
        obtain ⟨i1, i2, i3⟩ := idx_in hS hin
        have hal : acc.length ≤ 64 := by
          have := List.length_take_le (idx y z ⟨a, b, c⟩).toNat (cellsOf x y z)
          rw [hacc]; omega
        simp (disch := omega) only [f1, f3, f4, f5, f6, splice, ↓SXd, SXu, slBounds, ↓sop, ↓aop, ↓reduceIte, LV.cells, AOp.dst, LV.I, LV.B, LV.U, LV.S, LV.nil, Nat.reduceEqDiff, Nat.reduceAdd, Nat.reduceMul, Nat.reduceSub, Nat.reduceLeDiff, Nat.reduceBEq, Nat.reduceDiv, Nat.reduceMod, Int.reduceToNat, Int.reduceLT, Int.reduceLE, Int.reduceAdd, Int.reduceSub, Int.reduceMul, Int.reduceEq, Int.reduceNeg, reduceCtorEq, resV, resAll, ARes.ev, LV.flat, ite_true, ite_false, exists_eq_left', exists_eq_left, keyOf, implies_true, fillC, capOf]
        refine appendK_cell hout (by omega) fun N' l1 l2 l3 => ?_
        simp (disch := omega) only [f1, f3, f4, f5, f6, ↓SXd, SXu, slBounds, ↓sop, ↓aop, ↓reduceIte, LV.cells, AOp.dst, LV.I, LV.B, LV.U, LV.S, LV.nil, Nat.reduceEqDiff, Nat.reduceAdd, Nat.reduceMul, Nat.reduceSub, Nat.reduceLeDiff, Nat.reduceBEq, Nat.reduceDiv, Nat.reduceMod, Int.reduceToNat, Int.reduceLT, Int.reduceLE, Int.reduceAdd, Int.reduceSub, Int.reduceMul, Int.reduceEq, Int.reduceNeg, reduceCtorEq, resV, resAll, ARes.ev, LV.flat, ite_true, ite_false, exists_eq_left', exists_eq_left, keyOf, implies_true, fillC, capOf]
        refine ⟨m3 - 1, by omega, c + 1, _, acc ++ [⟨a, b, c⟩], by omega, ?_, pre_step hpre (by omega) l1 l3, live_step hbox (by omega) l3, by have := hpre.1; omega, l2, f1, rfl, f4, f5, eqI (natI _)⟩
        have e1 : (idx y z ⟨a, b, ((c + 1 : Nat) : Int)⟩).toNat = (idx y z ⟨a, b, c⟩).toNat + 1 := by unfold idx at i1 ⊢; simp only at i1 ⊢; omega
        have hlt' : (idx y z ⟨a, b, c⟩).toNat < (cellsOf x y z).length := by omega
        rw [e1, List.take_succ, ← hacc, List.getElem?_eq_getElem hlt']
        congr 1
        simp only [Option.toList, cellsOf, List.getElem_map, List.getElem_range]
        rw [Int.toNat_of_nonneg i1, i3]

theorem h_l2Near {x y z : Int} {c : Cell} {t o : Nat} {cs : List Cell} {M : Mem} (h : Tri M t o cs) (hn : cs.length ≤ 1000000000) (hin : ∀ d ∈ cs, d.inBox 4 4 4) (hc : c.inBox 4 4 4) :
    CallsTo PG F.spec_l2Near [.agg [.I x, .I y, .I z, .ref t o cs.length], .agg [.I c.a, .I c.b, .I c.c]] M (.ref M.length 0 (cs.filter fun d => decide (apart d c = 1)).length) (M ++ [some (.row (triL (cs.filter fun d => decide (apart d c = 1))) true 3)]) := by
  obtain ⟨c1, c2, c3⟩ := hc
  refine calls_run K.spec_l2Near rfl ?_
  simp (disch := omega) only [C.spec_l2Near, ↓SXd, SXu, slBounds, ↓sop, ↓aop, ↓reduceIte, LV.cells, AOp.dst, LV.I, LV.B, LV.U, LV.S, LV.nil, Nat.reduceEqDiff, Nat.reduceAdd, Nat.reduceMul, Nat.reduceSub, Nat.reduceLeDiff, Nat.reduceBEq, Nat.reduceDiv, Nat.reduceMod, Int.reduceToNat, Int.reduceLT, Int.reduceLE, Int.reduceAdd, Int.reduceSub, Int.reduceMul, Int.reduceEq, Int.reduceNeg, reduceCtorEq, resV, resAll, ARes.ev, LV.flat, ite_true, ite_false, exists_eq_left', exists_eq_left, keyOf, implies_true, fillC, capOf]
  refine ev_loop (fun m fr M' => ∃ (k u : Nat) (acc : List Cell), k + m = cs.length ∧ acc = (cs.take k).filter (fun d => decide (apart d c = 1)) ∧ Pre M M' ∧ Live M' M.length (.row [.I x, .I y, .I z, .ref t o cs.length] true 0) ∧ Live M' (M.length + 1) (.row [.I c.a, .I c.b, .I c.c] true 0) ∧ M.length + 2 ≤ u ∧ Live M' u (.row (triL acc) true 3) ∧
    fr 2 = .ptr M.length 0 ∧ fr 3 = .ptr (M.length + 1) 0 ∧ fr 5 = .ref u 0 acc.length ∧ fr 6 = .I k) cs.length
    ⟨0, M.length + 2, [], by omega, rfl, Pre.app _ _, Live.new, Live.newj rfl, by omega, Live.newj rfl, rfl, rfl, rfl, rfl⟩ ?_
  rintro m fr M' ⟨k, u, acc, hk, hacc, hpre, hbox, hcell, hu, hout, f2, f3, f5, f6⟩
  have ht := h.pre hpre
  have hal : acc.length ≤ 1000000000 := by
    have h1 := List.length_filter_le (fun d => decide (apart d c = 1)) (cs.take k)
    have h2 := List.length_take_le k cs
    rw [hacc]; omega
  simp (disch := omega) only [f2, f3, f5, f6, hbox.cell, ↓SXd, SXu, slBounds, ↓sop, ↓aop, ↓reduceIte, LV.cells, AOp.dst, LV.I, LV.B, LV.U, LV.S, LV.nil, Nat.reduceEqDiff, Nat.reduceAdd, Nat.reduceMul, Nat.reduceSub, Nat.reduceLeDiff, Nat.reduceBEq, Nat.reduceDiv, Nat.reduceMod, Int.reduceToNat, Int.reduceLT, Int.reduceLE, Int.reduceAdd, Int.reduceSub, Int.reduceMul, Int.reduceEq, Int.reduceNeg, reduceCtorEq, resV, resAll, ARes.ev, LV.flat, ite_true, ite_false, exists_eq_left', exists_eq_left, keyOf, implies_true, fillC, capOf]
  refine condC_dec (fun hlt => ?_) (fun hlt => ?_)
  · have hkl : k < cs.length := by omega
    obtain ⟨d1, d2, d3⟩ := hin (cs.getD k default) (getD_mem' hkl)
    have hts : cs.take (k + 1) = cs.take k ++ [cs.getD k default] := by
      rw [List.take_succ, List.getElem?_eq_getElem hkl]; simp [hkl]
    simp (disch := omega) only [f2, f3, f5, f6, hbox.cell, hcell.cells, (Tri.get ht (k := k) (by omega)), Cell.row, ↓SXd, SXu, slBounds, ↓sop, ↓aop, ↓reduceIte, LV.cells, AOp.dst, LV.I, LV.B, LV.U, LV.S, LV.nil, Nat.reduceEqDiff, Nat.reduceAdd, Nat.reduceMul, Nat.reduceSub, Nat.reduceLeDiff, Nat.reduceBEq, Nat.reduceDiv, Nat.reduceMod, Int.reduceToNat, Int.reduceLT, Int.reduceLE, Int.reduceAdd, Int.reduceSub, Int.reduceMul, Int.reduceEq, Int.reduceNeg, reduceCtorEq, resV, resAll, ARes.ev, LV.flat, ite_true, ite_false, exists_eq_left', exists_eq_left, keyOf, implies_true, fillC, capOf]
    refine callK_of (h_l2Apart (by omega) (by omega) (by omega) (by omega) (by omega) (by omega)) ?_
    simp (disch := omega) only [f2, f3, f5, f6, cell_eta, ↓SXd, SXu, slBounds, ↓sop, ↓aop, ↓reduceIte, LV.cells, AOp.dst, LV.I, LV.B, LV.U, LV.S, LV.nil, Nat.reduceEqDiff, Nat.reduceAdd, Nat.reduceMul, Nat.reduceSub, Nat.reduceLeDiff, Nat.reduceBEq, Nat.reduceDiv, Nat.reduceMod, Int.reduceToNat, Int.reduceLT, Int.reduceLE, Int.reduceAdd, Int.reduceSub, Int.reduceMul, Int.reduceEq, Int.reduceNeg, reduceCtorEq, resV, resAll, ARes.ev, LV.flat, ite_true, ite_false, exists_eq_left', exists_eq_left, keyOf, implies_true, fillC, capOf]
    refine condC_dec (fun he => ?_) (fun he => ?_)
    · simp (disch := omega) only [f2, f3, f5, f6, hbox.cell, (Tri.get ht (k := k) (by omega)), Cell.row, splice, ↓SXd, SXu, slBounds, ↓sop, ↓aop, ↓reduceIte, LV.cells, AOp.dst, LV.I, LV.B, LV.U, LV.S, LV.nil, Nat.reduceEqDiff, Nat.reduceAdd, Nat.reduceMul, Nat.reduceSub, Nat.reduceLeDiff, Nat.reduceBEq, Nat.reduceDiv, Nat.reduceMod, Int.reduceToNat, Int.reduceLT, Int.reduceLE, Int.reduceAdd, Int.reduceSub, Int.reduceMul, Int.reduceEq, Int.reduceNeg, reduceCtorEq, resV, resAll, ARes.ev, LV.flat, ite_true, ite_false, exists_eq_left', exists_eq_left, keyOf, implies_true, fillC, capOf]
      refine appendK_cell hout hal fun N' l1 l2 l3 => ?_
      simp (disch := omega) only [f2, f3, f5, f6, ↓SXd, SXu, slBounds, ↓sop, ↓aop, ↓reduceIte, LV.cells, AOp.dst, LV.I, LV.B, LV.U, LV.S, LV.nil, Nat.reduceEqDiff, Nat.reduceAdd, Nat.reduceMul, Nat.reduceSub, Nat.reduceLeDiff, Nat.reduceBEq, Nat.reduceDiv, Nat.reduceMod, Int.reduceToNat, Int.reduceLT, Int.reduceLE, Int.reduceAdd, Int.reduceSub, Int.reduceMul, Int.reduceEq, Int.reduceNeg, reduceCtorEq, resV, resAll, ARes.ev, LV.flat, ite_true, ite_false, exists_eq_left', exists_eq_left, keyOf, implies_true, fillC, capOf]
      refine ⟨m - 1, by omega, k + 1, _, _, by omega, ?_, pre_step hpre (by omega) l1 l3, live_step hbox (by omega) l3, live_step hcell (by omega) l3, by have := hcell.lt; omega, l2, f2, f3, rfl, eqI (natI _)⟩
      rw [hts, List.filter_append, ← hacc, List.filter_cons_of_pos (by simpa using he)]; rfl
    · simp (disch := omega) only [f2, f3, f5, f6, ↓SXd, SXu, slBounds, ↓sop, ↓aop, ↓reduceIte, LV.cells, AOp.dst, LV.I, LV.B, LV.U, LV.S, LV.nil, Nat.reduceEqDiff, Nat.reduceAdd, Nat.reduceMul, Nat.reduceSub, Nat.reduceLeDiff, Nat.reduceBEq, Nat.reduceDiv, Nat.reduceMod, Int.reduceToNat, Int.reduceLT, Int.reduceLE, Int.reduceAdd, Int.reduceSub, Int.reduceMul, Int.reduceEq, Int.reduceNeg, reduceCtorEq, resV, resAll, ARes.ev, LV.flat, ite_true, ite_false, exists_eq_left', exists_eq_left, keyOf, implies_true, fillC, capOf]
      refine ⟨m - 1, by omega, k + 1, u, acc, by omega, ?_, hpre, hbox, hcell, hu, hout, f2, f3, f5, eqI (natI _)⟩
      rw [hts, List.filter_append, ← hacc, List.filter_cons_of_neg (by simpa using he)]; simp
  · simp (disch := omega) only [f2, f3, f5, f6, ↓SXd, SXu, slBounds, ↓sop, ↓aop, ↓reduceIte, LV.cells, AOp.dst, LV.I, LV.B, LV.U, LV.S, LV.nil, Nat.reduceEqDiff, Nat.reduceAdd, Nat.reduceMul, Nat.reduceSub, Nat.reduceLeDiff, Nat.reduceBEq, Nat.reduceDiv, Nat.reduceMod, Int.reduceToNat, Int.reduceLT, Int.reduceLE, Int.reduceAdd, Int.reduceSub, Int.reduceMul, Int.reduceEq, Int.reduceNeg, reduceCtorEq, resV, resAll, ARes.ev, LV.flat, ite_true, ite_false, exists_eq_left', exists_eq_left, keyOf, implies_true, fillC, capOf]
    have : k = cs.length := by omega
    subst this
    rw [List.take_length] at hacc
    rw [← hacc]
    exact cmp_keepL hpre (by omega) hout (triL_lo acc) (by simp [rn, rn0, rn1])

theorem h_l2Without {x y z a b c : Int} {t o : Nat} {cs : List Cell} {M : Mem} (h : Tri M t o cs) (hn : cs.length ≤ 1000000000) :
    CallsTo PG F.spec_l2Without [.agg [.I x, .I y, .I z, .ref t o cs.length], .agg [.I a, .I b, .I c]] M (.agg [.I x, .I y, .I z, .ref M.length 0 (cs.filter fun d => !decide (d = ⟨a, b, c⟩)).length]) (M ++ [some (.row (triL (cs.filter fun d => !decide (d = ⟨a, b, c⟩))) true 3)]) := by
  refine calls_run K.spec_l2Without rfl ?_
  simp (disch := omega) only [C.spec_l2Without, ↓SXd, SXu, slBounds, ↓sop, ↓aop, ↓reduceIte, LV.cells, AOp.dst, LV.I, LV.B, LV.U, LV.S, LV.nil, Nat.reduceEqDiff, Nat.reduceAdd, Nat.reduceMul, Nat.reduceSub, Nat.reduceLeDiff, Nat.reduceBEq, Nat.reduceDiv, Nat.reduceMod, Int.reduceToNat, Int.reduceLT, Int.reduceLE, Int.reduceAdd, Int.reduceSub, Int.reduceMul, Int.reduceEq, Int.reduceNeg, reduceCtorEq, resV, resAll, ARes.ev, LV.flat, ite_true, ite_false, exists_eq_left', exists_eq_left, keyOf, implies_true, fillC, capOf]
  refine callK_of (h_l2Empty) ?_
  simp (disch := omega) only [splice, ↓SXd, SXu, slBounds, ↓sop, ↓aop, ↓reduceIte, LV.cells, AOp.dst, LV.I, LV.B, LV.U, LV.S, LV.nil, Nat.reduceEqDiff, Nat.reduceAdd, Nat.reduceMul, Nat.reduceSub, Nat.reduceLeDiff, Nat.reduceBEq, Nat.reduceDiv, Nat.reduceMod, Int.reduceToNat, Int.reduceLT, Int.reduceLE, Int.reduceAdd, Int.reduceSub, Int.reduceMul, Int.reduceEq, Int.reduceNeg, reduceCtorEq, resV, resAll, ARes.ev, LV.flat, ite_true, ite_false, exists_eq_left', exists_eq_left, keyOf, implies_true, fillC, capOf]
  refine ev_loop (fun m fr M' => ∃ (k u : Nat) (acc : List Cell), k + m = cs.length ∧ acc = (cs.take k).filter (fun d => !decide (d = ⟨a, b, c⟩)) ∧ Pre M M' ∧ Live M' M.length (.row [.I x, .I y, .I z, .ref t o cs.length] true 0) ∧ Live M' (M.length + 1) (.row [.I a, .I b, .I c] true 0) ∧
    Live M' (M.length + 4) (.row [.I x, .I y, .I z, .ref u 0 acc.length] true 0) ∧ (u = M.length + 3 ∨ M.length + 4 < u) ∧ Live M' u (.row (triL acc) true 3) ∧ fr 2 = .ptr M.length 0 ∧ fr 3 = .ptr (M.length + 1) 0 ∧ Live M' (M.length + 2) (.row [.I 0, .I 0, .I 0, .nil] true 0) ∧ fr 4 = .ptr (M.length + 2) 0 ∧ fr 5 = .ptr (M.length + 4) 0 ∧ fr 6 = .I k) cs.length
    ⟨0, M.length + 3, [], by omega, rfl, Pre.app _ _, Live.new, Live.newj rfl, Live.newj rfl, by omega, Live.newj rfl, rfl, rfl, Live.newj rfl, rfl, rfl, rfl⟩ ?_
  rintro m fr M' ⟨k, u, acc, hk, hacc, hpre, hbox, hcell, hres, hu, hout, f2, f3, hret, f4, f5, f6⟩
  have ht := h.pre hpre
  have hal : acc.length ≤ 1000000000 := by
    have h1 := List.length_filter_le (fun d => !decide (d = ⟨a, b, c⟩)) (cs.take k)
    have h2 := List.length_take_le k cs
    rw [hacc]; omega
  simp (disch := omega) only [f2, f3, f4, f5, f6, hbox.cell, ↓SXd, SXu, slBounds, ↓sop, ↓aop, ↓reduceIte, LV.cells, AOp.dst, LV.I, LV.B, LV.U, LV.S, LV.nil, Nat.reduceEqDiff, Nat.reduceAdd, Nat.reduceMul, Nat.reduceSub, Nat.reduceLeDiff, Nat.reduceBEq, Nat.reduceDiv, Nat.reduceMod, Int.reduceToNat, Int.reduceLT, Int.reduceLE, Int.reduceAdd, Int.reduceSub, Int.reduceMul, Int.reduceEq, Int.reduceNeg, reduceCtorEq, resV, resAll, ARes.ev, LV.flat, ite_true, ite_false, exists_eq_left', exists_eq_left, keyOf, implies_true, fillC, capOf]
  refine condC_dec (fun hlt => ?_) (fun hlt => ?_)
  · have hkl : k < cs.length := by omega
    have hts : cs.take (k + 1) = cs.take k ++ [cs.getD k default] := by
      rw [List.take_succ, List.getElem?_eq_getElem hkl]; simp [hkl]
    simp (disch := omega) only [f2, f3, f4, f5, f6, hbox.cell, hcell.cells, (Tri.get ht (k := k) (by omega)), Cell.row, eqV, eqC, if_true, ite_true, Bool.and_true, ↓SXd, SXu, slBounds, ↓sop, ↓aop, ↓reduceIte, LV.cells, AOp.dst, LV.I, LV.B, LV.U, LV.S, LV.nil, Nat.reduceEqDiff, Nat.reduceAdd, Nat.reduceMul, Nat.reduceSub, Nat.reduceLeDiff, Nat.reduceBEq, Nat.reduceDiv, Nat.reduceMod, Int.reduceToNat, Int.reduceLT, Int.reduceLE, Int.reduceAdd, Int.reduceSub, Int.reduceMul, Int.reduceEq, Int.reduceNeg, reduceCtorEq, resV, resAll, ARes.ev, LV.flat, ite_true, ite_false, exists_eq_left', exists_eq_left, keyOf, implies_true, fillC, capOf]
    by_cases he : cs.getD k default = ⟨a, b, c⟩
    · obtain ⟨e1, e2, e3⟩ := cell_eq.1 he
      simp only at e1 e2 e3
      simp (disch := omega) only [f2, f3, f4, f5, f6, e1, e2, e3, Bool.and_self, ↓SXd, SXu, slBounds, ↓sop, ↓aop, ↓reduceIte, LV.cells, AOp.dst, LV.I, LV.B, LV.U, LV.S, LV.nil, Nat.reduceEqDiff, Nat.reduceAdd, Nat.reduceMul, Nat.reduceSub, Nat.reduceLeDiff, Nat.reduceBEq, Nat.reduceDiv, Nat.reduceMod, Int.reduceToNat, Int.reduceLT, Int.reduceLE, Int.reduceAdd, Int.reduceSub, Int.reduceMul, Int.reduceEq, Int.reduceNeg, reduceCtorEq, resV, resAll, ARes.ev, LV.flat, ite_true, ite_false, exists_eq_left', exists_eq_left, keyOf, implies_true, fillC, capOf]
      refine ⟨m - 1, by omega, k + 1, u, acc, by omega, ?_, hpre, hbox, hcell, hres, hu, hout, f2, f3, hret, f4, f5, eqI (natI _)⟩
      rw [hts, List.filter_append, ← hacc, List.filter_cons_of_neg (by simp only [he]; simp)]; simp
    · have hf : ((cs.getD k default).a == a && ((cs.getD k default).b == b && (cs.getD k default).c == c)) = false := by
        rw [Bool.eq_false_iff]
        intro e
        simp only [Bool.and_eq_true, beq_iff_eq] at e
        exact he (cell_eq.2 ⟨e.1, e.2.1, e.2.2⟩)
      simp (disch := omega) only [f2, f3, f4, f5, f6, hf, hres.cell, hbox.cell, (Tri.get ht (k := k) (by omega)), Cell.row, splice, ↓SXd, SXu, slBounds, ↓sop, ↓aop, ↓reduceIte, LV.cells, AOp.dst, LV.I, LV.B, LV.U, LV.S, LV.nil, Nat.reduceEqDiff, Nat.reduceAdd, Nat.reduceMul, Nat.reduceSub, Nat.reduceLeDiff, Nat.reduceBEq, Nat.reduceDiv, Nat.reduceMod, Int.reduceToNat, Int.reduceLT, Int.reduceLE, Int.reduceAdd, Int.reduceSub, Int.reduceMul, Int.reduceEq, Int.reduceNeg, reduceCtorEq, resV, resAll, ARes.ev, LV.flat, ite_true, ite_false, exists_eq_left', exists_eq_left, keyOf, implies_true, fillC, capOf]
      refine appendK_cell hout hal fun N' l1 l2 l3 => ?_
      have hres' := live_step hres (by omega) l3
      have hlr := hres.lt
      simp (disch := omega) only [f2, f3, f4, f5, f6, hres'.setC, memK, splice, ↓SXd, SXu, slBounds, ↓sop, ↓aop, ↓reduceIte, LV.cells, AOp.dst, LV.I, LV.B, LV.U, LV.S, LV.nil, Nat.reduceEqDiff, Nat.reduceAdd, Nat.reduceMul, Nat.reduceSub, Nat.reduceLeDiff, Nat.reduceBEq, Nat.reduceDiv, Nat.reduceMod, Int.reduceToNat, Int.reduceLT, Int.reduceLE, Int.reduceAdd, Int.reduceSub, Int.reduceMul, Int.reduceEq, Int.reduceNeg, reduceCtorEq, resV, resAll, ARes.ev, LV.flat, ite_true, ite_false, exists_eq_left', exists_eq_left, keyOf, implies_true, fillC, capOf]
      refine ⟨m - 1, by omega, k + 1, M'.length + 1, _, by omega, ?_, Pre.set (pre_step hpre (by omega) l1 l3) (by omega), (live_step hbox (by omega) l3).set_ne (by omega), (live_step hcell (by omega) l3).set_ne (by omega), hres'.set_eq, by omega, l2.set_ne (by omega), f2, f3, (live_step hret (by omega) l3).set_ne (by omega), f4, f5, eqI (natI _)⟩
      rw [hts, List.filter_append, ← hacc, List.filter_cons_of_pos (by simp only [decide_eq_false he]; rfl)]; rfl
  · simp (disch := omega) only [f2, f3, f4, f5, f6, hres.cells, ↓SXd, SXu, slBounds, ↓sop, ↓aop, ↓reduceIte, LV.cells, AOp.dst, LV.I, LV.B, LV.U, LV.S, LV.nil, Nat.reduceEqDiff, Nat.reduceAdd, Nat.reduceMul, Nat.reduceSub, Nat.reduceLeDiff, Nat.reduceBEq, Nat.reduceDiv, Nat.reduceMod, Int.reduceToNat, Int.reduceLT, Int.reduceLE, Int.reduceAdd, Int.reduceSub, Int.reduceMul, Int.reduceEq, Int.reduceNeg, reduceCtorEq, resV, resAll, ARes.ev, LV.flat, ite_true, ite_false, exists_eq_left', exists_eq_left, keyOf, implies_true, fillC, capOf]
    have : k = cs.length := by omega
    subst this
    rw [List.take_length] at hacc
    have hlr := hres.lt
    have hret' := hret.set_eq (b' := .row [.I x, .I y, .I z, .ref u 0 acc.length] true 0)
    rw [← hacc, hret.setC, if_pos (by simp)]
    simp (disch := omega) only [memK, splice, f2, f3, f4, f5, f6, hret'.cells, ↓SXd, SXu, slBounds, ↓sop, ↓aop, ↓reduceIte, LV.cells, AOp.dst, LV.I, LV.B, LV.U, LV.S, LV.nil, Nat.reduceEqDiff, Nat.reduceAdd, Nat.reduceMul, Nat.reduceSub, Nat.reduceLeDiff, Nat.reduceBEq, Nat.reduceDiv, Nat.reduceMod, Int.reduceToNat, Int.reduceLT, Int.reduceLE, Int.reduceAdd, Int.reduceSub, Int.reduceMul, Int.reduceEq, Int.reduceNeg, reduceCtorEq, resV, resAll, ARes.ev, LV.flat, ite_true, ite_false, exists_eq_left', exists_eq_left, keyOf, implies_true, fillC, capOf]
    exact cmp_keepL (Pre.set hpre (by omega)) (by omega) (hout.set_ne (by omega)) (triL_lo acc) (by simp [rn, rn0, rn1])
end Go.Ab
