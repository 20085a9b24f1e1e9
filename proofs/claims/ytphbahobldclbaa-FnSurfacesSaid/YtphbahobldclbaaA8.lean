/- Parts of the proof of FnSurfacesSaid: Nc Pb Oe Pc Pd Pe C_Wb K_Wb Va Wa C_Uk K_Uk C_Uj K_Uj C_Ui K_Ui Ui Uj Uk Wb C_Hh0 K_Hh0 Hh0 Hh C_Tl K_Tl C_Tk K_Tk C_Tj K_Tj Tj Tk Tl Tt Hi C_Tr K_Tr C_Tp K_Tp C_Tn K_Tn C_Tm K_Tm Tm Tn Tp Tr C_Tq K_Tq Tq C_Tz K_Tz Tz Hk C_Jp K_Jp C_Vd K_Vd C_Vc K_Vc C_Um K_Um C_Ul K_Ul Ul. -/
import Derived.Test.YtphbahobldclbaaA7
import Derived.Test.YtphbahobldclbaaA4
import Derived.Test.YtphbahobldclbaaA5
import Derived.Test.YtphbahobldclbaaA6
import Derived.Test.YtphbahobldclbaaA3
import Derived.Test.YtphbahobldclbaaProg
import Derived.KernelRfl
set_option linter.all false
/- Contracts: neighbours; what grows. -/
namespace Go.Ab
open Go
set_option linter.unusedSimpArgs false
set_option linter.unusedVariables false

/-- The first k neighbours of a cell. -/
def nbrK (c : Cell) (k : Nat) (e : Cell) : Bool := decide (e ∈ (nbrs c).take k)
theorem nbrK_step {c : Cell} {k : Nat} (hk : k < 6) (e : Cell) : nbrK c (k + 1) e = (nbrK c k e || decide (e = (nbrs c).getD k default)) := (take_dec (cs := nbrs c) (by simpa [nbrs] using hk)).symm

section
variable {x y z : Int} (hS : Sides x y z)
include hS
theorem g_nearSet {c : Cell} {M : Mem} (hc : c.inBox x y z) : CallsTo PG F.impl_box_near [.agg [.I x, .I y, .I z], .agg [.I c.a, .I c.b, .I c.c]] M (.W (bs x y z fun d => decide (apart c d = 1))) M := by
  obtain ⟨h1, h2, h3⟩ := id hc
  obtain ⟨hx, hy, hz⟩ := id hS
  refine calls_run K.impl_box_near rfl ?_
  simp (disch := omega) only [C.impl_box_near, ↓SXd, SXu, slBounds, ↓sop, ↓aop, ↓reduceIte, LV.cells, AOp.dst, LV.I, LV.B, LV.U, LV.S, LV.nil, Nat.reduceEqDiff, Nat.reduceAdd, Nat.reduceMul, Nat.reduceSub, Nat.reduceLeDiff, Nat.reduceBEq, Nat.reduceDiv, Nat.reduceMod, Int.reduceToNat, Int.reduceLT, Int.reduceLE, Int.reduceAdd, Int.reduceSub, Int.reduceMul, Int.reduceEq, Int.reduceNeg, reduceCtorEq, resV, resAll, ARes.ev, LV.flat, ite_true, ite_false, exists_eq_left', exists_eq_left, keyOf, implies_true, fillC, capOf]
  refine ev_loop (fun m fr M' => ∃ d : Nat, d + m = 3 ∧ Pre M M' ∧ Live M' M.length (.row [.I x, .I y, .I z] true 0) ∧ Live M' (M.length + 1) (.row [.I c.a, .I c.b, .I c.c] true 0) ∧
    fr 2 = .ptr M.length 0 ∧ fr 3 = .ptr (M.length + 1) 0 ∧ fr 5 = .W (bs x y z (nbrK c (2 * d))) ∧ fr 10 = .I d) 3
    ⟨0, rfl, Pre.app _ _, Live.new, Live.newj rfl, rfl, rfl, by rw [show bs x y z (nbrK c (2 * 0)) = 0#64 from (bs_zero hS).2 fun e _ => decide_eq_false (by simp)]; rfl, rfl⟩ ?_
  rintro m fr M' ⟨d, hd, hpre, hbox, hcell, f2, f3, f5, f10⟩
  simp (disch := omega) only [f2, f3, f5, f10, ↓SXd, SXu, slBounds, ↓sop, ↓aop, ↓reduceIte, LV.cells, AOp.dst, LV.I, LV.B, LV.U, LV.S, LV.nil, Nat.reduceEqDiff, Nat.reduceAdd, Nat.reduceMul, Nat.reduceSub, Nat.reduceLeDiff, Nat.reduceBEq, Nat.reduceDiv, Nat.reduceMod, Int.reduceToNat, Int.reduceLT, Int.reduceLE, Int.reduceAdd, Int.reduceSub, Int.reduceMul, Int.reduceEq, Int.reduceNeg, reduceCtorEq, resV, resAll, ARes.ev, LV.flat, ite_true, ite_false, exists_eq_left', exists_eq_left, keyOf, implies_true, fillC, capOf]
  refine condC_dec (fun hlt => ?_) (fun hlt => ?_)
  rotate_left
  · simp (disch := omega) only [f2, f3, f5, f10, ↓SXd, SXu, slBounds, ↓sop, ↓aop, ↓reduceIte, LV.cells, AOp.dst, LV.I, LV.B, LV.U, LV.S, LV.nil, Nat.reduceEqDiff, Nat.reduceAdd, Nat.reduceMul, Nat.reduceSub, Nat.reduceLeDiff, Nat.reduceBEq, Nat.reduceDiv, Nat.reduceMod, Int.reduceToNat, Int.reduceLT, Int.reduceLE, Int.reduceAdd, Int.reduceSub, Int.reduceMul, Int.reduceEq, Int.reduceNeg, reduceCtorEq, resV, resAll, ARes.ev, LV.flat, ite_true, ite_false, exists_eq_left', exists_eq_left, keyOf, implies_true, fillC, capOf]
    have : d = 3 := by omega
    subst this
    rw [show bs x y z (nbrK c (2 * 3)) = bs x y z fun d => decide (apart c d = 1) from (bs_eq hS).2 fun e _ => decide_eq_decide.2 (mem_nbrs (c := c) (d := e))]
    exact cmp_pre hpre rfl
  · simp (disch := omega) only [f2, f3, f5, f10, splice, ↓SXd, SXu, slBounds, ↓sop, ↓aop, ↓reduceIte, LV.cells, AOp.dst, LV.I, LV.B, LV.U, LV.S, LV.nil, Nat.reduceEqDiff, Nat.reduceAdd, Nat.reduceMul, Nat.reduceSub, Nat.reduceLeDiff, Nat.reduceBEq, Nat.reduceDiv, Nat.reduceMod, Int.reduceToNat, Int.reduceLT, Int.reduceLE, Int.reduceAdd, Int.reduceSub, Int.reduceMul, Int.reduceEq, Int.reduceNeg, reduceCtorEq, resV, resAll, ARes.ev, LV.flat, ite_true, ite_false, exists_eq_left', exists_eq_left, keyOf, implies_true, fillC, capOf]
    refine ev_loop (fun m2 fr N => ∃ j : Nat, j + m2 = 2 ∧ Pre M N ∧ Live N M.length (.row [.I x, .I y, .I z] true 0) ∧ Live N (M.length + 1) (.row [.I c.a, .I c.b, .I c.c] true 0) ∧
      fr 2 = .ptr M.length 0 ∧ fr 3 = .ptr (M.length + 1) 0 ∧ fr 5 = .W (bs x y z (nbrK c (2 * d + j))) ∧ fr 10 = .I d ∧ fr 6 = .I d ∧ fr 13 = .agg [.I (-1), .I 1] ∧ fr 14 = .I j) 2
      ⟨0, rfl, hpre, hbox, hcell, f2, f3, f5, f10, rfl, rfl, rfl⟩ ?_
    clear f2 f3 f5 f10 hpre hbox hcell
    rintro m2 fr N ⟨j, hj, hpre, hbox, hcell, f2, f3, f5, f10, f6, f13, f14⟩
    simp (disch := omega) only [f2, f3, f5, f10, f6, f13, f14, ↓SXd, SXu, slBounds, ↓sop, ↓aop, ↓reduceIte, LV.cells, AOp.dst, LV.I, LV.B, LV.U, LV.S, LV.nil, Nat.reduceEqDiff, Nat.reduceAdd, Nat.reduceMul, Nat.reduceSub, Nat.reduceLeDiff, Nat.reduceBEq, Nat.reduceDiv, Nat.reduceMod, Int.reduceToNat, Int.reduceLT, Int.reduceLE, Int.reduceAdd, Int.reduceSub, Int.reduceMul, Int.reduceEq, Int.reduceNeg, reduceCtorEq, resV, resAll, ARes.ev, LV.flat, ite_true, ite_false, exists_eq_left', exists_eq_left, keyOf, implies_true, fillC, capOf]
    refine condC_dec (fun hlt2 => ?_) (fun hlt2 => ?_)
    rotate_left
    · simp (disch := omega) only [f2, f3, f5, f10, f6, f13, f14, ↓SXd, SXu, slBounds, ↓sop, ↓aop, ↓reduceIte, LV.cells, AOp.dst, LV.I, LV.B, LV.U, LV.S, LV.nil, Nat.reduceEqDiff, Nat.reduceAdd, Nat.reduceMul, Nat.reduceSub, Nat.reduceLeDiff, Nat.reduceBEq, Nat.reduceDiv, Nat.reduceMod, Int.reduceToNat, Int.reduceLT, Int.reduceLE, Int.reduceAdd, Int.reduceSub, Int.reduceMul, Int.reduceEq, Int.reduceNeg, reduceCtorEq, resV, resAll, ARes.ev, LV.flat, ite_true, ite_false, exists_eq_left', exists_eq_left, keyOf, implies_true, fillC, capOf]
      have : j = 2 := by omega
      subst this
      exact ⟨m - 1, by omega, d + 1, by omega, hpre, hbox, hcell, f2, f3, f5, eqI (natI _)⟩
    · have hd3 : d = 0 ∨ d = 1 ∨ d = 2 := by omega
      have hj2 : j = 0 ∨ j = 1 := by omega
      have hlM := hcell.lt
      have key : ∀ e : Cell, (nbrs c).getD (2 * d + j) default = e → (e.inBox x y z → bs x y z (nbrK c (2 * d + j)) ||| 1#64 <<< (idx y z e).toNat = bs x y z (nbrK c (2 * d + (j + 1)))) ∧ (¬ e.inBox x y z → bs x y z (nbrK c (2 * d + j)) = bs x y z (nbrK c (2 * d + (j + 1)))) := by
        intro e he
        refine ⟨fun hin => ?_, fun hin => ?_⟩
        · rw [bs_one hS hin, bs_or hS]
          exact (bs_eq hS).2 fun f _ => by rw [show 2 * d + (j + 1) = 2 * d + j + 1 by omega, nbrK_step (by omega), he]
        · refine (bs_eq hS).2 fun f hf => ?_
          rw [show 2 * d + (j + 1) = 2 * d + j + 1 by omega, nbrK_step (by omega), he, decide_eq_false (fun h => hin (by rw [← h]; exact hf)), Bool.or_false]
      rcases hd3 with rfl | rfl | rfl <;> rcases hj2 with rfl | rfl
      all_goals
        simp only [Int.natCast_zero, Int.natCast_one, show (((2 : Nat)) : Int) = 2 from rfl] at f6 f10 f14
        obtain ⟨k1, k2⟩ := key _ rfl
        simp only [nbrs, List.getD_cons_zero, List.getD_cons_succ, Nat.reduceMul, Nat.reduceAdd] at k1 k2
        simp (disch := omega) only [f2, f3, f5, f10, f6, f13, f14, hcell.cells, hbox.cells, splice, hbox.app.cells, ↓SXd, SXu, slBounds, ↓sop, ↓aop, ↓reduceIte, LV.cells, AOp.dst, LV.I, LV.B, LV.U, LV.S, LV.nil, Nat.reduceEqDiff, Nat.reduceAdd, Nat.reduceMul, Nat.reduceSub, Nat.reduceLeDiff, Nat.reduceBEq, Nat.reduceDiv, Nat.reduceMod, Int.reduceToNat, Int.reduceLT, Int.reduceLE, Int.reduceAdd, Int.reduceSub, Int.reduceMul, Int.reduceEq, Int.reduceNeg, reduceCtorEq, resV, resAll, ARes.ev, LV.flat, ite_true, ite_false, exists_eq_left', exists_eq_left, keyOf, implies_true, fillC, capOf]
        refine callK_of (g_has hS) ?_
        simp (disch := omega) only [f2, f3, f5, f10, f6, f13, f14, hbox.app.cells, ↓SXd, SXu, slBounds, ↓sop, ↓aop, ↓reduceIte, LV.cells, AOp.dst, LV.I, LV.B, LV.U, LV.S, LV.nil, Nat.reduceEqDiff, Nat.reduceAdd, Nat.reduceMul, Nat.reduceSub, Nat.reduceLeDiff, Nat.reduceBEq, Nat.reduceDiv, Nat.reduceMod, Int.reduceToNat, Int.reduceLT, Int.reduceLE, Int.reduceAdd, Int.reduceSub, Int.reduceMul, Int.reduceEq, Int.reduceNeg, reduceCtorEq, resV, resAll, ARes.ev, LV.flat, ite_true, ite_false, exists_eq_left', exists_eq_left, keyOf, implies_true, fillC, capOf]
        refine condC_dec (fun hin => ?_) (fun hin => ?_)
        · have hix := (idx_in hS hin).1
          simp (disch := omega) only [f2, f3, f5, f10, f6, f13, f14, hbox.app.cells, ↓SXd, SXu, slBounds, ↓sop, ↓aop, ↓reduceIte, LV.cells, AOp.dst, LV.I, LV.B, LV.U, LV.S, LV.nil, Nat.reduceEqDiff, Nat.reduceAdd, Nat.reduceMul, Nat.reduceSub, Nat.reduceLeDiff, Nat.reduceBEq, Nat.reduceDiv, Nat.reduceMod, Int.reduceToNat, Int.reduceLT, Int.reduceLE, Int.reduceAdd, Int.reduceSub, Int.reduceMul, Int.reduceEq, Int.reduceNeg, reduceCtorEq, resV, resAll, ARes.ev, LV.flat, ite_true, ite_false, exists_eq_left', exists_eq_left, keyOf, implies_true, fillC, capOf]
          refine callK_of (g_index hS hin) ?_
          simp (disch := omega) only [f2, f3, f5, f10, f6, f13, f14, ↓SXd, SXu, slBounds, ↓sop, ↓aop, ↓reduceIte, LV.cells, AOp.dst, LV.I, LV.B, LV.U, LV.S, LV.nil, Nat.reduceEqDiff, Nat.reduceAdd, Nat.reduceMul, Nat.reduceSub, Nat.reduceLeDiff, Nat.reduceBEq, Nat.reduceDiv, Nat.reduceMod, Int.reduceToNat, Int.reduceLT, Int.reduceLE, Int.reduceAdd, Int.reduceSub, Int.reduceMul, Int.reduceEq, Int.reduceNeg, reduceCtorEq, resV, resAll, ARes.ev, LV.flat, ite_true, ite_false, exists_eq_left', exists_eq_left, keyOf, implies_true, fillC, capOf]
          rw [k1 hin]
          first
          | exact ⟨m2 - 1, by omega, 1, by omega, hpre.app', hbox.app, hcell.app, f2, f3, rfl, f10, f6, f13, rfl⟩
          | exact ⟨m2 - 1, by omega, 2, by omega, hpre.app', hbox.app, hcell.app, f2, f3, rfl, f10, f6, f13, rfl⟩
        · simp (disch := omega) only [f2, f3, f5, f10, f6, f13, f14, ↓SXd, SXu, slBounds, ↓sop, ↓aop, ↓reduceIte, LV.cells, AOp.dst, LV.I, LV.B, LV.U, LV.S, LV.nil, Nat.reduceEqDiff, Nat.reduceAdd, Nat.reduceMul, Nat.reduceSub, Nat.reduceLeDiff, Nat.reduceBEq, Nat.reduceDiv, Nat.reduceMod, Int.reduceToNat, Int.reduceLT, Int.reduceLE, Int.reduceAdd, Int.reduceSub, Int.reduceMul, Int.reduceEq, Int.reduceNeg, reduceCtorEq, resV, resAll, ARes.ev, LV.flat, ite_true, ite_false, exists_eq_left', exists_eq_left, keyOf, implies_true, fillC, capOf]
          rw [k2 hin] at f5
          first
          | exact ⟨m2 - 1, by omega, 1, by omega, hpre.app', hbox.app, hcell.app, f2, f3, f5, f10, f6, f13, rfl⟩
          | exact ⟨m2 - 1, by omega, 2, by omega, hpre.app', hbox.app, hcell.app, f2, f3, f5, f10, f6, f13, rfl⟩

theorem g_grown {p q : Cell → Bool} {M : Mem} : CallsTo PG F.impl_box_grown [.agg [.I x, .I y, .I z], .W (bs x y z p), .W (bs x y z q)] M (.W (bs x y z (reach x y z p q))) M := by
  have hv := vol_cast hS
  refine calls_run K.impl_box_grown rfl ?_
  simp (disch := omega) only [C.impl_box_grown, ↓SXd, SXu, slBounds, ↓sop, ↓aop, ↓reduceIte, LV.cells, AOp.dst, LV.I, LV.B, LV.U, LV.S, LV.nil, Nat.reduceEqDiff, Nat.reduceAdd, Nat.reduceMul, Nat.reduceSub, Nat.reduceLeDiff, Nat.reduceBEq, Nat.reduceDiv, Nat.reduceMod, Int.reduceToNat, Int.reduceLT, Int.reduceLE, Int.reduceAdd, Int.reduceSub, Int.reduceMul, Int.reduceEq, Int.reduceNeg, reduceCtorEq, resV, resAll, ARes.ev, LV.flat, ite_true, ite_false, exists_eq_left', exists_eq_left, keyOf, implies_true, fillC, capOf]
  refine ev_loop (fun m fr M' => ∃ r : Cell → Bool, rest x y z r = m ∧ (∀ c, c.inBox x y z → p c = true → r c = true) ∧ (∀ c, c.inBox x y z → r c = true → Reach x y z p q c) ∧ Pre M M' ∧ Live M' M.length (.row [.I x, .I y, .I z] true 0) ∧
    fr 1 = .W (bs x y z r) ∧ fr 2 = .W (bs x y z q) ∧ fr 3 = .ptr M.length 0) (rest x y z p)
    ⟨p, rfl, fun _ _ h => h, fun _ h1 h2 => .base h1 h2, Pre.app _ _, Live.new, rfl, rfl, rfl⟩ ?_
  rintro m fr M' ⟨r, hm, hr0, hr1, hpre, hbox, f1, f2, f3⟩
  simp (disch := omega) only [f1, f2, f3, hbox.cells, ↓SXd, SXu, slBounds, ↓sop, ↓aop, ↓reduceIte, LV.cells, AOp.dst, LV.I, LV.B, LV.U, LV.S, LV.nil, Nat.reduceEqDiff, Nat.reduceAdd, Nat.reduceMul, Nat.reduceSub, Nat.reduceLeDiff, Nat.reduceBEq, Nat.reduceDiv, Nat.reduceMod, Int.reduceToNat, Int.reduceLT, Int.reduceLE, Int.reduceAdd, Int.reduceSub, Int.reduceMul, Int.reduceEq, Int.reduceNeg, reduceCtorEq, resV, resAll, ARes.ev, LV.flat, ite_true, ite_false, exists_eq_left', exists_eq_left, keyOf, implies_true, fillC, capOf]
  refine callK_of (g_size hS) ?_
  simp (disch := omega) only [f1, f2, f3, ↓SXd, SXu, slBounds, ↓sop, ↓aop, ↓reduceIte, LV.cells, AOp.dst, LV.I, LV.B, LV.U, LV.S, LV.nil, Nat.reduceEqDiff, Nat.reduceAdd, Nat.reduceMul, Nat.reduceSub, Nat.reduceLeDiff, Nat.reduceBEq, Nat.reduceDiv, Nat.reduceMod, Int.reduceToNat, Int.reduceLT, Int.reduceLE, Int.reduceAdd, Int.reduceSub, Int.reduceMul, Int.reduceEq, Int.reduceNeg, reduceCtorEq, resV, resAll, ARes.ev, LV.flat, ite_true, ite_false, exists_eq_left', exists_eq_left, keyOf, implies_true, fillC, capOf]
  refine ev_loop (fun m2 fr N => ∃ k : Nat, k + m2 = vol x y z ∧ N = M' ∧ fr 1 = .W (bs x y z r) ∧ fr 2 = .W (bs x y z q) ∧ fr 3 = .ptr M.length 0 ∧ fr 7 = .W (bs x y z (growK y z r q k)) ∧ fr 11 = .I ((vol x y z : Nat) : Int) ∧ fr 12 = .I k) (vol x y z)
    ⟨0, by omega, rfl, f1, f2, f3, by rw [growK_zero]; rfl, rfl, rfl⟩ ?_
  clear f1 f2 f3
  rintro m2 fr N ⟨k, hk, rfl, f1, f2, f3, f7, f11, f12⟩
  simp (disch := omega) only [f1, f2, f3, f7, f11, f12, ↓SXd, SXu, slBounds, ↓sop, ↓aop, ↓reduceIte, LV.cells, AOp.dst, LV.I, LV.B, LV.U, LV.S, LV.nil, Nat.reduceEqDiff, Nat.reduceAdd, Nat.reduceMul, Nat.reduceSub, Nat.reduceLeDiff, Nat.reduceBEq, Nat.reduceDiv, Nat.reduceMod, Int.reduceToNat, Int.reduceLT, Int.reduceLE, Int.reduceAdd, Int.reduceSub, Int.reduceMul, Int.reduceEq, Int.reduceNeg, reduceCtorEq, resV, resAll, ARes.ev, LV.flat, ite_true, ite_false, exists_eq_left', exists_eq_left, keyOf, implies_true, fillC, capOf]
  refine condC_dec (fun hlt => ?_) (fun hlt => ?_)
  · simp (disch := omega) only [f1, f2, f3, f7, f11, f12, ↓SXd, SXu, slBounds, ↓sop, ↓aop, ↓reduceIte, LV.cells, AOp.dst, LV.I, LV.B, LV.U, LV.S, LV.nil, Nat.reduceEqDiff, Nat.reduceAdd, Nat.reduceMul, Nat.reduceSub, Nat.reduceLeDiff, Nat.reduceBEq, Nat.reduceDiv, Nat.reduceMod, Int.reduceToNat, Int.reduceLT, Int.reduceLE, Int.reduceAdd, Int.reduceSub, Int.reduceMul, Int.reduceEq, Int.reduceNeg, reduceCtorEq, resV, resAll, ARes.ev, LV.flat, ite_true, ite_false, exists_eq_left', exists_eq_left, keyOf, implies_true, fillC, capOf]
    refine callK_of (g_has_set (by omega)) ?_
    simp (disch := omega) only [f1, f2, f3, f7, f11, f12, ↓SXd, SXu, slBounds, ↓sop, ↓aop, ↓reduceIte, LV.cells, AOp.dst, LV.I, LV.B, LV.U, LV.S, LV.nil, Nat.reduceEqDiff, Nat.reduceAdd, Nat.reduceMul, Nat.reduceSub, Nat.reduceLeDiff, Nat.reduceBEq, Nat.reduceDiv, Nat.reduceMod, Int.reduceToNat, Int.reduceLT, Int.reduceLE, Int.reduceAdd, Int.reduceSub, Int.reduceMul, Int.reduceEq, Int.reduceNeg, reduceCtorEq, resV, resAll, ARes.ev, LV.flat, ite_true, ite_false, exists_eq_left', exists_eq_left, keyOf, implies_true, fillC, capOf]
    have hbit := bs_bit hS r k
    rw [decide_eq_true (show k < vol x y z by omega), Bool.true_and] at hbit
    rw [hbit]
    by_cases hp : r (cellAt y z k) = true
    · simp (disch := omega) only [f1, f2, f3, f7, f11, f12, hp, hbox.cells, ↓SXd, SXu, slBounds, ↓sop, ↓aop, ↓reduceIte, LV.cells, AOp.dst, LV.I, LV.B, LV.U, LV.S, LV.nil, Nat.reduceEqDiff, Nat.reduceAdd, Nat.reduceMul, Nat.reduceSub, Nat.reduceLeDiff, Nat.reduceBEq, Nat.reduceDiv, Nat.reduceMod, Int.reduceToNat, Int.reduceLT, Int.reduceLE, Int.reduceAdd, Int.reduceSub, Int.reduceMul, Int.reduceEq, Int.reduceNeg, reduceCtorEq, resV, resAll, ARes.ev, LV.flat, ite_true, ite_false, exists_eq_left', exists_eq_left, keyOf, implies_true, fillC, capOf]
      refine callK_of (g_cell hS (by omega) (by omega)) ?_
      simp (disch := omega) only [f1, f2, f3, f7, f11, f12, ↓SXd, SXu, slBounds, ↓sop, ↓aop, ↓reduceIte, LV.cells, AOp.dst, LV.I, LV.B, LV.U, LV.S, LV.nil, Nat.reduceEqDiff, Nat.reduceAdd, Nat.reduceMul, Nat.reduceSub, Nat.reduceLeDiff, Nat.reduceBEq, Nat.reduceDiv, Nat.reduceMod, Int.reduceToNat, Int.reduceLT, Int.reduceLE, Int.reduceAdd, Int.reduceSub, Int.reduceMul, Int.reduceEq, Int.reduceNeg, reduceCtorEq, resV, resAll, ARes.ev, LV.flat, ite_true, ite_false, exists_eq_left', exists_eq_left, keyOf, implies_true, fillC, capOf]
      refine callK_of (g_nearSet hS (c := cellAt y z k) (cellAt_in hS (by omega) (by omega)).1) ?_
      simp (disch := omega) only [f1, f2, f3, f7, f11, f12, ↓SXd, SXu, slBounds, ↓sop, ↓aop, ↓reduceIte, LV.cells, AOp.dst, LV.I, LV.B, LV.U, LV.S, LV.nil, Nat.reduceEqDiff, Nat.reduceAdd, Nat.reduceMul, Nat.reduceSub, Nat.reduceLeDiff, Nat.reduceBEq, Nat.reduceDiv, Nat.reduceMod, Int.reduceToNat, Int.reduceLT, Int.reduceLE, Int.reduceAdd, Int.reduceSub, Int.reduceMul, Int.reduceEq, Int.reduceNeg, reduceCtorEq, resV, resAll, ARes.ev, LV.flat, ite_true, ite_false, exists_eq_left', exists_eq_left, keyOf, implies_true, fillC, capOf]
      rw [bs_and hS, bs_or hS]
      exact ⟨m2 - 1, by omega, k + 1, by omega, rfl, f1, f2, f3, by rw [show bs x y z (growK y z r q (k + 1)) = _ from (bs_eq hS).2 fun c _ => growK_succ c]; simp only [hp, if_true]; rfl, f11, eqI (natI _)⟩
    · have hp' : r (cellAt y z k) = false := by simpa using hp
      simp (disch := omega) only [f1, f2, f3, f7, f11, f12, hp', ↓SXd, SXu, slBounds, ↓sop, ↓aop, ↓reduceIte, LV.cells, AOp.dst, LV.I, LV.B, LV.U, LV.S, LV.nil, Nat.reduceEqDiff, Nat.reduceAdd, Nat.reduceMul, Nat.reduceSub, Nat.reduceLeDiff, Nat.reduceBEq, Nat.reduceDiv, Nat.reduceMod, Int.reduceToNat, Int.reduceLT, Int.reduceLE, Int.reduceAdd, Int.reduceSub, Int.reduceMul, Int.reduceEq, Int.reduceNeg, reduceCtorEq, resV, resAll, ARes.ev, LV.flat, ite_true, ite_false, exists_eq_left', exists_eq_left, keyOf, implies_true, fillC, capOf]
      exact ⟨m2 - 1, by omega, k + 1, by omega, rfl, f1, f2, f3, by rw [show bs x y z (growK y z r q (k + 1)) = bs x y z (growK y z r q k) from (bs_eq hS).2 fun c _ => by rw [growK_succ c, hp', if_neg (by simp)]]; exact f7, f11, eqI (natI _)⟩
  · simp (disch := omega) only [f1, f2, f3, f7, f11, f12, ↓SXd, SXu, slBounds, ↓sop, ↓aop, ↓reduceIte, LV.cells, AOp.dst, LV.I, LV.B, LV.U, LV.S, LV.nil, Nat.reduceEqDiff, Nat.reduceAdd, Nat.reduceMul, Nat.reduceSub, Nat.reduceLeDiff, Nat.reduceBEq, Nat.reduceDiv, Nat.reduceMod, Int.reduceToNat, Int.reduceLT, Int.reduceLE, Int.reduceAdd, Int.reduceSub, Int.reduceMul, Int.reduceEq, Int.reduceNeg, reduceCtorEq, resV, resAll, ARes.ev, LV.flat, ite_true, ite_false, exists_eq_left', exists_eq_left, keyOf, implies_true, fillC, capOf]
    have : k = vol x y z := by omega
    subst this
    refine condC_dec (fun he => ?_) (fun he => ?_)
    · simp (disch := omega) only [f1, f2, f3, f7, f11, f12, ↓SXd, SXu, slBounds, ↓sop, ↓aop, ↓reduceIte, LV.cells, AOp.dst, LV.I, LV.B, LV.U, LV.S, LV.nil, Nat.reduceEqDiff, Nat.reduceAdd, Nat.reduceMul, Nat.reduceSub, Nat.reduceLeDiff, Nat.reduceBEq, Nat.reduceDiv, Nat.reduceMod, Int.reduceToNat, Int.reduceLT, Int.reduceLE, Int.reduceAdd, Int.reduceSub, Int.reduceMul, Int.reduceEq, Int.reduceNeg, reduceCtorEq, resV, resAll, ARes.ev, LV.flat, ite_true, ite_false, exists_eq_left', exists_eq_left, keyOf, implies_true, fillC, capOf]
      rw [show bs x y z (reach x y z p q) = bs x y z r from (bs_eq hS).2 fun c hc => (reach_of_fix hS hr0 hr1 ((bs_eq hS).1 he) c hc).symm]
      exact cmp_pre hpre rfl
    · simp (disch := omega) only [f1, f2, f3, f7, f11, f12, ↓SXd, SXu, slBounds, ↓sop, ↓aop, ↓reduceIte, LV.cells, AOp.dst, LV.I, LV.B, LV.U, LV.S, LV.nil, Nat.reduceEqDiff, Nat.reduceAdd, Nat.reduceMul, Nat.reduceSub, Nat.reduceLeDiff, Nat.reduceBEq, Nat.reduceDiv, Nat.reduceMod, Int.reduceToNat, Int.reduceLT, Int.reduceLE, Int.reduceAdd, Int.reduceSub, Int.reduceMul, Int.reduceEq, Int.reduceNeg, reduceCtorEq, resV, resAll, ARes.ev, LV.flat, ite_true, ite_false, exists_eq_left', exists_eq_left, keyOf, implies_true, fillC, capOf]
      refine ⟨rest x y z (growK y z r q (vol x y z)), ?_, growK y z r q (vol x y z), rfl, fun c hc h => (grow_iff hS).2 (.inl (hr0 c hc h)), fun c hc h => ?_, hpre, hbox, rfl, f2, f3⟩
      · rw [← hm]
        refine rest_lt hS (fun c hc h => (grow_iff hS).2 (.inl h)) ?_
        apply Classical.byContradiction
        intro hno
        apply he
        refine (bs_eq hS).2 fun c hc => ?_
        cases h1 : r c with
        | true => exact (grow_iff hS).2 (.inl h1)
        | false =>
          cases h2 : growK y z r q (vol x y z) c with
          | false => rfl
          | true => exact absurd ⟨c, hc, h1, h2⟩ hno
      · rcases (grow_iff hS).1 h with h | ⟨h1, d, h2, h3, h4⟩
        · exact hr1 c hc h
        · exact .step (hr1 d h2 h3) h4 hc h1
end
end Go.Ab

/- Contracts: counts of sets. -/
namespace Go.Ab
open Go
set_option linter.unusedSimpArgs false
set_option linter.unusedVariables false

theorem w_add {s u : BitVec 64} : binV .add (.val (.int .u64 ((s.toNat : Nat) : Int))) (.val (.int .u64 ((u.toNat : Nat) : Int))) = some (.val (.int .u64 (((s + u).toNat : Nat) : Int)), True) := by
  rw [bv_add, IntKind.wrap_u64, BitVec.toNat_add]
  congr 4
theorem w_andc {s : BitVec 64} {c : Nat} (hc : c < 18446744073709551616) : binV .and (.val (.int .u64 ((s.toNat : Nat) : Int))) (.val (.int .u64 (c : Int))) = some (.val (.int .u64 (((s &&& BitVec.ofNat 64 c).toNat : Nat) : Int)), True) := by
  have h := w_and (s := s) (u := BitVec.ofNat 64 c)
  rw [BitVec.toNat_ofNat, Nat.mod_eq_of_lt hc] at h; exact h
theorem w_m1 {s : BitVec 64} : binV .and (.val (.int .u64 ((s.toNat : Nat) : Int))) (.val (.int .u64 6148914691236517205)) = some (.val (.int .u64 (((s &&& 6148914691236517205#64).toNat : Nat) : Int)), True) := w_andc (c := 6148914691236517205) (by decide)
theorem w_m2 {s : BitVec 64} : binV .and (.val (.int .u64 ((s.toNat : Nat) : Int))) (.val (.int .u64 3689348814741910323)) = some (.val (.int .u64 (((s &&& 3689348814741910323#64).toNat : Nat) : Int)), True) := w_andc (c := 3689348814741910323) (by decide)
theorem w_m3 {s : BitVec 64} : binV .and (.val (.int .u64 ((s.toNat : Nat) : Int))) (.val (.int .u64 1085102592571150095)) = some (.val (.int .u64 (((s &&& 1085102592571150095#64).toNat : Nat) : Int)), True) := w_andc (c := 1085102592571150095) (by decide)

theorem conv_and {x : BitVec 64} : IntKind.i64.wrap (((BitVec.ofInt 64 (IntKind.i64.wrap ((x.toNat : Nat) : Int)) &&& BitVec.ofInt 64 127).toNat : Nat) : Int) = (((x &&& 127#64).toNat : Nat) : Int) := by
  have h1 : BitVec.ofInt 64 (IntKind.i64.wrap ((x.toNat : Nat) : Int)) = x := by
    apply BitVec.eq_of_toNat_eq
    have := x.isLt
    rw [BitVec.toNat_ofInt, IntKind.wrap_i64]
    omega
  have h2 : BitVec.ofInt 64 127 = 127#64 := rfl
  rw [h1, h2, IntKind.wrap_i64]
  have h3 : (x &&& 127#64).toNat ≤ 127 := by
    rw [BitVec.toNat_and]; exact Nat.and_le_right
  omega
theorem g_OnesCount64 {s : BitVec 64} {M : Mem} : CallsTo PG F.math_bits_OnesCount64 [.W s] M (.I (((swar s).toNat : Nat) : Int)) M := by
  refine calls_run K.math_bits_OnesCount64 rfl ?_
  simp (disch := omega) only [C.math_bits_OnesCount64, w_shr, w_m1, w_m2, w_m3, w_add, ↓SXd, SXu, slBounds, ↓sop, ↓aop, ↓reduceIte, LV.cells, AOp.dst, LV.I, LV.B, LV.U, LV.S, LV.nil, Nat.reduceEqDiff, Nat.reduceAdd, Nat.reduceMul, Nat.reduceSub, Nat.reduceLeDiff, Nat.reduceBEq, Nat.reduceDiv, Nat.reduceMod, Int.reduceToNat, Int.reduceLT, Int.reduceLE, Int.reduceAdd, Int.reduceSub, Int.reduceMul, Int.reduceEq, Int.reduceNeg, reduceCtorEq, resV, resAll, ARes.ev, LV.flat, ite_true, ite_false, exists_eq_left', exists_eq_left, keyOf, implies_true, fillC, capOf]
  rw [conv_and]
  exact cmp_pre (Pre.refl _) rfl
theorem g_count {s : BitVec 64} {M : Mem} : CallsTo PG F.impl_set_count [.W s] M (.I (((swar s).toNat : Nat) : Int)) M := by
  refine calls_run K.impl_set_count rfl ?_
  simp (disch := omega) only [C.impl_set_count, ↓SXd, SXu, slBounds, ↓sop, ↓aop, ↓reduceIte, LV.cells, AOp.dst, LV.I, LV.B, LV.U, LV.S, LV.nil, Nat.reduceEqDiff, Nat.reduceAdd, Nat.reduceMul, Nat.reduceSub, Nat.reduceLeDiff, Nat.reduceBEq, Nat.reduceDiv, Nat.reduceMod, Int.reduceToNat, Int.reduceLT, Int.reduceLE, Int.reduceAdd, Int.reduceSub, Int.reduceMul, Int.reduceEq, Int.reduceNeg, reduceCtorEq, resV, resAll, ARes.ev, LV.flat, ite_true, ite_false, exists_eq_left', exists_eq_left, keyOf, implies_true, fillC, capOf]
  refine callK_of (g_OnesCount64) ?_
  simp (disch := omega) only [↓SXd, SXu, slBounds, ↓sop, ↓aop, ↓reduceIte, LV.cells, AOp.dst, LV.I, LV.B, LV.U, LV.S, LV.nil, Nat.reduceEqDiff, Nat.reduceAdd, Nat.reduceMul, Nat.reduceSub, Nat.reduceLeDiff, Nat.reduceBEq, Nat.reduceDiv, Nat.reduceMod, Int.reduceToNat, Int.reduceLT, Int.reduceLE, Int.reduceAdd, Int.reduceSub, Int.reduceMul, Int.reduceEq, Int.reduceNeg, reduceCtorEq, resV, resAll, ARes.ev, LV.flat, ite_true, ite_false, exists_eq_left', exists_eq_left, keyOf, implies_true, fillC, capOf]
  exact cmp_pre (Pre.refl _) rfl

theorem onRim_iff {x y z : Int} {c : Cell} (hc : c.inBox x y z) : onRim x y z c = true ↔ ∃ d : Cell, apart c d = 1 ∧ ¬ d.inBox x y z := by
  obtain ⟨⟨h1, h2⟩, ⟨h3, h4⟩, ⟨h5, h6⟩⟩ := hc
  unfold onRim
  rw [decide_eq_true_iff]
  constructor
  · rintro (h | h | h | h | h | h)
    · exact ⟨⟨c.a - 1, c.b, c.c⟩, by unfold apart; simp only; omega, fun k => by have := k.1.1; simp only at this; omega⟩
    · exact ⟨⟨c.a, c.b - 1, c.c⟩, by unfold apart; simp only; omega, fun k => by have := k.2.1.1; simp only at this; omega⟩
    · exact ⟨⟨c.a, c.b, c.c - 1⟩, by unfold apart; simp only; omega, fun k => by have := k.2.2.1; simp only at this; omega⟩
    · exact ⟨⟨c.a + 1, c.b, c.c⟩, by unfold apart; simp only; omega, fun k => by have := k.1.2; simp only at this; omega⟩
    · exact ⟨⟨c.a, c.b + 1, c.c⟩, by unfold apart; simp only; omega, fun k => by have := k.2.1.2; simp only at this; omega⟩
    · exact ⟨⟨c.a, c.b, c.c + 1⟩, by unfold apart; simp only; omega, fun k => by have := k.2.2.2; simp only at this; omega⟩
  · rintro ⟨d, hd, hk⟩
    apply Classical.byContradiction
    intro hno
    refine hk ⟨⟨?_, ?_⟩, ⟨?_, ?_⟩, ⟨?_, ?_⟩⟩ <;> (unfold apart at hd; omega)

theorem rim_count {x y z : Int} (hS : Sides x y z) {c : Cell} (hc : c.inBox x y z) : decide ((((swar (bs x y z fun d => decide (apart c d = 1))).toNat : Nat) : Int) < 6) = onRim x y z c := by
  obtain ⟨⟨_, _⟩, ⟨_, _⟩, ⟨_, _⟩⟩ := id hS
  obtain ⟨k1, k2, k3⟩ := idx_in hS hc
  obtain ⟨X, hX, hX4⟩ : ∃ X : Nat, x = ((X + 1 : Nat) : Int) ∧ X < 4 := ⟨(x - 1).toNat, by omega, by omega⟩
  obtain ⟨Y, hY, hY4⟩ : ∃ Y : Nat, y = ((Y + 1 : Nat) : Int) ∧ Y < 4 := ⟨(y - 1).toNat, by omega, by omega⟩
  obtain ⟨Z, hZ, hZ4⟩ : ∃ Z : Nat, z = ((Z + 1 : Nat) : Int) ∧ Z < 4 := ⟨(z - 1).toNat, by omega, by omega⟩
  obtain ⟨i, hi⟩ : ∃ i : Nat, idx y z c = i := ⟨(idx y z c).toNat, by omega⟩
  have hv : i < (X + 1) * (Y + 1) * (Z + 1) := by
    have h : (i : Int) < ((X + 1 : Nat) : Int) * ((Y + 1 : Nat) : Int) * ((Z + 1 : Nat) : Int) := by rw [← hX, ← hY, ← hZ, ← hi]; exact k2
    rw [← Int.natCast_mul, ← Int.natCast_mul] at h
    omega
  have := rim_small X hX4 Y hY4 Z hZ4 i hv
  rw [← hX, ← hY, ← hZ, ← hi, k3] at this
  rw [← this]
  exact decide_eq_decide.2 (by omega)
end Go.Ab

/- Plain words: what stands and what hangs, by parts and by growing. -/
namespace Go.Ab

theorem Reach.symm {x y z : Int} {q : Cell → Bool} {c d : Cell} (hc : c.inBox x y z) (hqc : q c = true) (h : Reach x y z (fun e => decide (e = c)) q d) : Reach x y z (fun e => decide (e = d)) q c ∧ q d = true := by
  induction h with
  | base h1 h2 => rw [of_decide_eq_true h2]; exact ⟨.base hc (by simp), hqc⟩
  | @step a b h1 h2 h3 h4 ih =>
    refine ⟨?_, h4⟩
    have hb : Reach x y z (fun e => decide (e = b)) q b := .base h3 (by simp)
    have hba : Reach x y z (fun e => decide (e = b)) q a := .step hb (by rw [apart_comm]; exact h2) h1.inBox ih.2
    have htr : ∀ {u}, Reach x y z (fun e => decide (e = a)) q u → Reach x y z (fun e => decide (e = b)) q u := fun hu =>
      hu.mono (fun e _ he => by rw [of_decide_eq_true he]; exact hba) fun _ _ h => h
    exact htr ih.1
theorem Reach.trans {x y z : Int} {q p : Cell → Bool} {c d : Cell} (h : Reach x y z p q c) (k : Reach x y z (fun e => decide (e = c)) q d) : Reach x y z p q d :=
  k.mono (fun e _ he => by rw [of_decide_eq_true he]; exact h) fun _ _ h => h

section
variable {x y z : Int} (hS : Sides x y z)
include hS
/-- What stands of a set. -/
noncomputable def stand (x y z : Int) (q : Cell → Bool) : Cell → Bool := reach x y z (fun e => q e && decide (e.c = 0)) q
/-- The cells that stand, or those that hang. -/
noncomputable def parted (x y z : Int) (q : Cell → Bool) (hang : Bool) : Cell → Bool := fun d => q d && (stand x y z q d != hang)
end

def floorOf (l : List Cell) : Bool := l.any fun e => decide (e.c = 0)
/-- The cells of the first k lists, of those on the floor, or of the others. -/
def selK (L : List (List Cell)) (hang : Bool) (k : Nat) : Cell → Bool := fun d => (L.take k).any fun l => (floorOf l != hang) && decide (d ∈ l)
end Go.Ab

/- Contracts: what is enclosed; the program's FillCavities. -/
namespace Go.Ab
open Go
set_option linter.unusedSimpArgs false
set_option linter.unusedVariables false

/-- What is outside: reached from the rim, by way of cells without cubes. -/
noncomputable def outer (x y z : Int) (p : Cell → Bool) : Cell → Bool := reach x y z (fun c => !p c && onRim x y z c) fun c => !p c
noncomputable def closed (x y z : Int) (p : Cell → Bool) (c : Cell) : Bool := !p c && !outer x y z p c
noncomputable def fillOf (x y z : Int) (cs : List Cell) : Option Hp := by
  classical
  exact if HeapOK x y z cs then some ⟨x, y, z, pick x y z fun c => decide (c ∈ cs) || closed x y z (fun c => decide (c ∈ cs)) c⟩ else none
theorem g_enclosed_1 {x y z : Int} {c : Cell} {t : Nat} {M : Mem} (hS : Sides x y z) (hb : Live M t (.row [.I x, .I y, .I z] true 0)) (hc : c.inBox x y z) :
    CallsTo PG F.impl_Heap_enclosed_1 [.agg [.I c.a, .I c.b, .I c.c], .ptr t 0] M (.B (onRim x y z c)) M := by
  refine calls_run K.impl_Heap_enclosed_1 rfl ?_
  simp (disch := omega) only [C.impl_Heap_enclosed_1, hb.app.cells, ↓SXd, SXu, slBounds, ↓sop, ↓aop, ↓reduceIte, LV.cells, AOp.dst, LV.I, LV.B, LV.U, LV.S, LV.nil, Nat.reduceEqDiff, Nat.reduceAdd, Nat.reduceMul, Nat.reduceSub, Nat.reduceLeDiff, Nat.reduceBEq, Nat.reduceDiv, Nat.reduceMod, Int.reduceToNat, Int.reduceLT, Int.reduceLE, Int.reduceAdd, Int.reduceSub, Int.reduceMul, Int.reduceEq, Int.reduceNeg, reduceCtorEq, resV, resAll, ARes.ev, LV.flat, ite_true, ite_false, exists_eq_left', exists_eq_left, keyOf, implies_true, fillC, capOf]
  refine callK_of (g_nearSet hS hc) ?_
  simp (disch := omega) only [↓SXd, SXu, slBounds, ↓sop, ↓aop, ↓reduceIte, LV.cells, AOp.dst, LV.I, LV.B, LV.U, LV.S, LV.nil, Nat.reduceEqDiff, Nat.reduceAdd, Nat.reduceMul, Nat.reduceSub, Nat.reduceLeDiff, Nat.reduceBEq, Nat.reduceDiv, Nat.reduceMod, Int.reduceToNat, Int.reduceLT, Int.reduceLE, Int.reduceAdd, Int.reduceSub, Int.reduceMul, Int.reduceEq, Int.reduceNeg, reduceCtorEq, resV, resAll, ARes.ev, LV.flat, ite_true, ite_false, exists_eq_left', exists_eq_left, keyOf, implies_true, fillC, capOf]
  refine callK_of (g_count) ?_
  simp (disch := omega) only [↓SXd, SXu, slBounds, ↓sop, ↓aop, ↓reduceIte, LV.cells, AOp.dst, LV.I, LV.B, LV.U, LV.S, LV.nil, Nat.reduceEqDiff, Nat.reduceAdd, Nat.reduceMul, Nat.reduceSub, Nat.reduceLeDiff, Nat.reduceBEq, Nat.reduceDiv, Nat.reduceMod, Int.reduceToNat, Int.reduceLT, Int.reduceLE, Int.reduceAdd, Int.reduceSub, Int.reduceMul, Int.reduceEq, Int.reduceNeg, reduceCtorEq, resV, resAll, ARes.ev, LV.flat, ite_true, ite_false, exists_eq_left', exists_eq_left, keyOf, implies_true, fillC, capOf]
  have h := rim_count hS hc
  rw [h]
  exact cmp_drop rfl

theorem g_enclosed {x y z : Int} {t o : Nat} {cs : List Cell} {M : Mem} (h : Tri M t o cs) (hn : cs.length ≤ 1000000000) (hH : HeapOK x y z cs) :
    CallsTo PG F.impl_Heap_enclosed [.agg [.I x, .I y, .I z, .ref t o cs.length]] M (.W (bs x y z (closed x y z fun c => decide (c ∈ cs)))) M := by
  have hS := hH.1
  have hv := vol_cast hS
  refine calls_run K.impl_Heap_enclosed rfl ?_
  simp (disch := omega) only [C.impl_Heap_enclosed, ↓SXd, SXu, slBounds, ↓sop, ↓aop, ↓reduceIte, LV.cells, AOp.dst, LV.I, LV.B, LV.U, LV.S, LV.nil, Nat.reduceEqDiff, Nat.reduceAdd, Nat.reduceMul, Nat.reduceSub, Nat.reduceLeDiff, Nat.reduceBEq, Nat.reduceDiv, Nat.reduceMod, Int.reduceToNat, Int.reduceLT, Int.reduceLE, Int.reduceAdd, Int.reduceSub, Int.reduceMul, Int.reduceEq, Int.reduceNeg, reduceCtorEq, resV, resAll, ARes.ev, LV.flat, ite_true, ite_false, exists_eq_left', exists_eq_left, keyOf, implies_true, fillC, capOf]
  refine callK_of (g_box) ?_
  simp (disch := omega) only [↓SXd, SXu, slBounds, ↓sop, ↓aop, ↓reduceIte, LV.cells, AOp.dst, LV.I, LV.B, LV.U, LV.S, LV.nil, Nat.reduceEqDiff, Nat.reduceAdd, Nat.reduceMul, Nat.reduceSub, Nat.reduceLeDiff, Nat.reduceBEq, Nat.reduceDiv, Nat.reduceMod, Int.reduceToNat, Int.reduceLT, Int.reduceLE, Int.reduceAdd, Int.reduceSub, Int.reduceMul, Int.reduceEq, Int.reduceNeg, reduceCtorEq, resV, resAll, ARes.ev, LV.flat, ite_true, ite_false, exists_eq_left', exists_eq_left, keyOf, implies_true, fillC, capOf]
  refine callK_of (g_full hS) ?_
  simp (disch := omega) only [↓SXd, SXu, slBounds, ↓sop, ↓aop, ↓reduceIte, LV.cells, AOp.dst, LV.I, LV.B, LV.U, LV.S, LV.nil, Nat.reduceEqDiff, Nat.reduceAdd, Nat.reduceMul, Nat.reduceSub, Nat.reduceLeDiff, Nat.reduceBEq, Nat.reduceDiv, Nat.reduceMod, Int.reduceToNat, Int.reduceLT, Int.reduceLE, Int.reduceAdd, Int.reduceSub, Int.reduceMul, Int.reduceEq, Int.reduceNeg, reduceCtorEq, resV, resAll, ARes.ev, LV.flat, ite_true, ite_false, exists_eq_left', exists_eq_left, keyOf, implies_true, fillC, capOf]
  refine callK_of (g_cubes h.app hn hS (fun c hc => hH.mem hc)) ?_
  simp (disch := omega) only [↓SXd, SXu, slBounds, ↓sop, ↓aop, ↓reduceIte, LV.cells, AOp.dst, LV.I, LV.B, LV.U, LV.S, LV.nil, Nat.reduceEqDiff, Nat.reduceAdd, Nat.reduceMul, Nat.reduceSub, Nat.reduceLeDiff, Nat.reduceBEq, Nat.reduceDiv, Nat.reduceMod, Int.reduceToNat, Int.reduceLT, Int.reduceLE, Int.reduceAdd, Int.reduceSub, Int.reduceMul, Int.reduceEq, Int.reduceNeg, reduceCtorEq, resV, resAll, ARes.ev, LV.flat, ite_true, ite_false, exists_eq_left', exists_eq_left, keyOf, implies_true, fillC, capOf]
  rw [bs_diff hS]
  refine callK_of (g_those hS (p := onRim x y z) (f := F.impl_Heap_enclosed_1) (caps := [(M.length + 1, 0)]) fun M' hp i hi => ?_) ?_
  · exact g_enclosed_1 hS ((Live.newj rfl).pre hp) (cellAt_in hS (by omega) (by omega)).1
  simp (disch := omega) only [↓SXd, SXu, slBounds, ↓sop, ↓aop, ↓reduceIte, LV.cells, AOp.dst, LV.I, LV.B, LV.U, LV.S, LV.nil, Nat.reduceEqDiff, Nat.reduceAdd, Nat.reduceMul, Nat.reduceSub, Nat.reduceLeDiff, Nat.reduceBEq, Nat.reduceDiv, Nat.reduceMod, Int.reduceToNat, Int.reduceLT, Int.reduceLE, Int.reduceAdd, Int.reduceSub, Int.reduceMul, Int.reduceEq, Int.reduceNeg, reduceCtorEq, resV, resAll, ARes.ev, LV.flat, ite_true, ite_false, exists_eq_left', exists_eq_left, keyOf, implies_true, fillC, capOf]
  rw [bs_and hS]
  refine callK_of (g_grown hS) ?_
  simp (disch := omega) only [↓SXd, SXu, slBounds, ↓sop, ↓aop, ↓reduceIte, LV.cells, AOp.dst, LV.I, LV.B, LV.U, LV.S, LV.nil, Nat.reduceEqDiff, Nat.reduceAdd, Nat.reduceMul, Nat.reduceSub, Nat.reduceLeDiff, Nat.reduceBEq, Nat.reduceDiv, Nat.reduceMod, Int.reduceToNat, Int.reduceLT, Int.reduceLE, Int.reduceAdd, Int.reduceSub, Int.reduceMul, Int.reduceEq, Int.reduceNeg, reduceCtorEq, resV, resAll, ARes.ev, LV.flat, ite_true, ite_false, exists_eq_left', exists_eq_left, keyOf, implies_true, fillC, capOf]
  rw [bs_diff hS]
  rw [show bs x y z (closed x y z fun c => decide (c ∈ cs)) = _ from (bs_eq hS).2 fun c _ => by unfold closed outer; rfl]
  simp only [Bool.true_and]
  exact cmp_pre (Pre.app _ _) rfl

end Go.Ab

/- Plain words: a search from beyond the box. -/
namespace Go.Ab

theorem getD_get {α : Type} {l : List α} {i : Nat} {d : α} (h : i < l.length) : l.getD i d = l[i] := by simp [h]
def ExtC (x y z : Int) (c : Cell) : Prop := (-1 ≤ c.a ∧ c.a ≤ x) ∧ (-1 ≤ c.b ∧ c.b ≤ y) ∧ (-1 ≤ c.c ∧ c.c ≤ z)
theorem Cell.inBox.ext {x y z : Int} {c : Cell} (h : c.inBox x y z) : ExtC x y z c := by
  obtain ⟨⟨_, _⟩, ⟨_, _⟩, ⟨_, _⟩⟩ := h
  exact ⟨⟨by omega, by omega⟩, ⟨by omega, by omega⟩, ⟨by omega, by omega⟩⟩
/-- What comes before a place. -/
def Bef (c : Cell) (i j k : Int) : Prop := c.a < i ∨ (c.a = i ∧ (c.b < j ∨ (c.b = j ∧ c.c < k)))
structure Mgn (x y z i j k : Int) (l : List Cell) : Prop where
  mem : ∀ c ∈ l, ExtC x y z c ∧ ¬ c.inBox x y z
  all : ∀ c, ExtC x y z c → ¬ c.inBox x y z → Bef c i j k → c ∈ l
  len : (l.length : Int) ≤ (i + 1) * 36 + (j + 1) * 6 + (k + 1)
theorem Mgn.nil {x y z : Int} : Mgn x y z (-1) (-1) (-1) [] := by
  refine ⟨by simp, fun c ⟨⟨_, _⟩, ⟨_, _⟩, ⟨_, _⟩⟩ _ hb => ?_, by simp⟩
  unfold Bef at hb
  omega
theorem Mgn.out {x y z i j k : Int} {l : List Cell} (h : Mgn x y z i j k l) (hk : k < 6) (hc : ExtC x y z ⟨i, j, k⟩) (ho : ¬ Cell.inBox x y z ⟨i, j, k⟩) : Mgn x y z i j (k + 1) (l ++ [⟨i, j, k⟩]) := by
  refine ⟨fun c hm => ?_, fun c h1 h2 h3 => ?_, ?_⟩
  · rcases List.mem_append.1 hm with hm | hm
    · exact h.mem c hm
    · rw [List.mem_singleton.1 hm]; exact ⟨hc, ho⟩
  · rw [List.mem_append, List.mem_singleton, cell_eq]
    unfold Bef at h3
    by_cases hb : Bef c i j k
    · exact .inl (h.all c h1 h2 hb)
    · right; unfold Bef at hb; simp only; omega
  · have := h.len; rw [List.length_append, List.length_singleton]; omega
theorem Mgn.in {x y z i j k : Int} {l : List Cell} (h : Mgn x y z i j k l) (ho : Cell.inBox x y z ⟨i, j, k⟩) : Mgn x y z i j (k + 1) l := by
  refine ⟨h.mem, fun c h1 h2 h3 => ?_, by have := h.len; omega⟩
  unfold Bef at h3
  by_cases hb : Bef c i j k
  · exact h.all c h1 h2 hb
  · unfold Bef at hb
    exact absurd (by rw [show c = ⟨i, j, k⟩ from cell_eq.2 (by simp only; omega)]; exact ho) h2
theorem Mgn.row {x y z i j k : Int} {l : List Cell} (h : Mgn x y z i j k l) (hk : z < k) (hz : k ≤ 5) : Mgn x y z i (j + 1) (-1) l := by
  refine ⟨h.mem, fun c h1 h2 h3 => h.all c h1 h2 ?_, by have := h.len; omega⟩
  obtain ⟨_, _, _, _⟩ := h1
  unfold Bef at h3 ⊢
  omega
theorem Mgn.plane {x y z i j : Int} {l : List Cell} (h : Mgn x y z i j (-1) l) (hk : y < j) (hz : j ≤ 5) : Mgn x y z (i + 1) (-1) (-1) l := by
  refine ⟨h.mem, fun c h1 h2 h3 => h.all c h1 h2 ?_, by have := h.len; omega⟩
  obtain ⟨_, ⟨_, _⟩, _, _⟩ := h1
  unfold Bef at h3 ⊢
  omega

structure Out (x y z : Int) (p : Cell → Bool) (n k : Nat) (mg r : List Cell) : Prop where
  base : ∀ c, ExtC x y z c → ¬ c.inBox x y z → c ∈ mg
  mgm : ∀ c ∈ mg, ExtC x y z c ∧ ¬ c.inBox x y z
  nodup : r.Nodup
  mem : ∀ d ∈ r, d.inBox x y z ∧ p d = false ∧ outer x y z p d = true
  done : ∀ i, i < n → i < (mg ++ r).length → ∀ e, e.inBox x y z → p e = false → apart ((mg ++ r).getD i default) e = 1 → e ∈ r
  part : ∀ j, j < k → ((nbrs ((mg ++ r).getD n default)).getD j default).inBox x y z → p ((nbrs ((mg ++ r).getD n default)).getD j default) = false → (nbrs ((mg ++ r).getD n default)).getD j default ∈ r

section
variable {x y z : Int} {p : Cell → Bool} {n k : Nat} {mg r : List Cell}
theorem Out.skip (h : Out x y z p n k mg r) (hs : ¬ ((((nbrs ((mg ++ r).getD n default)).getD k default).inBox x y z ∧ p ((nbrs ((mg ++ r).getD n default)).getD k default) = false) ∧ (nbrs ((mg ++ r).getD n default)).getD k default ∉ r)) : Out x y z p n (k + 1) mg r :=
  ⟨h.base, h.mgm, h.nodup, h.mem, h.done, fun j hj h1 h2 => by
    rcases Nat.lt_or_ge j k with h3 | h3
    · exact h.part j h3 h1 h2
    · rw [show j = k by omega] at h1 h2 ⊢
      exact Classical.byContradiction fun h4 => hs ⟨⟨h1, h2⟩, h4⟩⟩
theorem Out.add (h : Out x y z p n k mg r) (hk : k < 6) (hn : n < (mg ++ r).length) {e : Cell} (he : (nbrs ((mg ++ r).getD n default)).getD k default = e) (h1 : e.inBox x y z) (h2 : p e = false) (h3 : e ∉ r) : Out x y z p n (k + 1) mg (r ++ [e]) := by
  have hg : ∀ {j}, j < (mg ++ r).length → (mg ++ (r ++ [e])).getD j default = (mg ++ r).getD j default := fun {j} hj => by
    rw [← List.append_assoc]
    simp only [List.getD_eq_getElem?_getD]; rw [List.getElem?_append_left hj]
  have hap : apart ((mg ++ r).getD n default) e = 1 := mem_nbrs.1 (by rw [← he]; exact getD_mem' (by simpa [nbrs] using hk))
  have hout : outer x y z p e = true := by
    unfold outer
    rw [reach_iff]
    rcases List.mem_append.1 (getD_mem' (d := default) hn) with hm | hm
    · refine .base h1 ?_
      have := h.mgm _ hm
      rw [h2, (onRim_iff h1).2 ⟨_, by rw [apart_comm]; exact hap, this.2⟩]; rfl
    · have := (h.mem _ hm).2.2
      unfold outer at this
      rw [reach_iff] at this
      exact .step this hap h1 (by rw [h2]; rfl)
  refine ⟨h.base, h.mgm, ?_, fun d hd => ?_, fun i hi hil d hd hpd ha => ?_, fun j hj hb hpb => ?_⟩
  · rw [List.nodup_append]
    exact ⟨h.nodup, by simp, fun a ha b hb e' => by rw [List.mem_singleton.1 hb] at e'; subst e'; exact h3 ha⟩
  · rcases List.mem_append.1 hd with hd | hd
    · exact h.mem d hd
    · rw [List.mem_singleton.1 hd]; exact ⟨h1, h2, hout⟩
  · rw [hg (by omega)] at ha
    exact List.mem_append.2 (.inl (h.done i hi (by omega) d hd hpd ha))
  · rw [hg hn] at hb hpb ⊢
    rcases Nat.lt_or_ge j k with h5 | h5
    · exact List.mem_append.2 (.inl (h.part j h5 hb hpb))
    · rw [show j = k by omega, he]; simp
theorem Out.next (h : Out x y z p n 6 mg r) : Out x y z p (n + 1) 0 mg r := by
  refine ⟨h.base, h.mgm, h.nodup, h.mem, fun i hi hil d hd hpd ha => ?_, by omega⟩
  rcases Nat.lt_or_ge i n with h1 | h1
  · exact h.done i h1 hil d hd hpd ha
  · rw [show i = n by omega] at ha
    have hm := mem_nbrs.2 ha
    obtain ⟨j, hj, rfl⟩ := List.getElem_of_mem hm
    have hj6 : j < 6 := by simpa [nbrs] using hj
    rw [← getD_get (d := default) hj] at hd hpd ⊢
    exact h.part j hj6 hd hpd
theorem Out.final (h : Out x y z p n k mg r) (hn : (mg ++ r).length ≤ n) {d : Cell} (hd : d.inBox x y z) : d ∈ r ↔ outer x y z p d = true := by
  refine ⟨fun hm => (h.mem d hm).2.2, fun ho => ?_⟩
  have key : ∀ c e, c ∈ mg ++ r → e.inBox x y z → p e = false → apart c e = 1 → e ∈ r := fun c e hc he hpe ha => by
    obtain ⟨i, hi, rfl⟩ := List.getElem_of_mem hc
    exact h.done i (by omega) hi e he hpe (by rw [getD_get hi]; exact ha)
  unfold outer at ho
  rw [reach_iff] at ho
  refine ho.ind (P := fun d => d ∈ r) (fun c hc hp => ?_) fun c e hc ha he hq => ?_
  · simp only [Bool.and_eq_true, Bool.not_eq_true'] at hp
    obtain ⟨e, h1, h2⟩ := (onRim_iff hc).1 hp.2
    refine key e c (List.mem_append.2 (.inl (h.base e ?_ h2))) hc hp.1 (by rw [apart_comm]; exact h1)
    obtain ⟨⟨_, _⟩, ⟨_, _⟩, ⟨_, _⟩⟩ := hc
    unfold apart at h1
    exact ⟨⟨by omega, by omega⟩, ⟨by omega, by omega⟩, ⟨by omega, by omega⟩⟩
  · exact key c e (List.mem_append.2 (.inr hc)) he (by simpa using hq) ha
end
end Go.Ab

/- Contracts: the reference's search from beyond the box. -/
namespace Go.Ab
open Go
set_option linter.unusedSimpArgs false
set_option linter.unusedVariables false

theorem h_l6Steps {M : Mem} : CallsTo PG F.spec_l6Steps [] M (.agg [.I (-1), .I 0, .I 0, .I 1, .I 0, .I 0, .I 0, .I (-1), .I 0, .I 0, .I 1, .I 0, .I 0, .I 0, .I (-1), .I 0, .I 0, .I 1]) M := by
  refine calls_run K.spec_l6Steps rfl ?_
  simp (disch := omega) only [C.spec_l6Steps, splice, ↓SXd, SXu, slBounds, ↓sop, ↓aop, ↓reduceIte, LV.cells, AOp.dst, LV.I, LV.B, LV.U, LV.S, LV.nil, Nat.reduceEqDiff, Nat.reduceAdd, Nat.reduceMul, Nat.reduceSub, Nat.reduceLeDiff, Nat.reduceBEq, Nat.reduceDiv, Nat.reduceMod, Int.reduceToNat, Int.reduceLT, Int.reduceLE, Int.reduceAdd, Int.reduceSub, Int.reduceMul, Int.reduceEq, Int.reduceNeg, reduceCtorEq, resV, resAll, ARes.ev, LV.flat, ite_true, ite_false, exists_eq_left', exists_eq_left, keyOf, implies_true, fillC, capOf]
  exact cmp_drop rfl
theorem h_l6Beside {a b c d e f : Int} {M : Mem} (h : (-100 ≤ a ∧ a ≤ 100) ∧ (-100 ≤ b ∧ b ≤ 100) ∧ (-100 ≤ c ∧ c ≤ 100) ∧ (-100 ≤ d ∧ d ≤ 100) ∧ (-100 ≤ e ∧ e ≤ 100) ∧ (-100 ≤ f ∧ f ≤ 100)) :
    CallsTo PG F.spec_l6Beside [.agg [.I a, .I b, .I c], .agg [.I d, .I e, .I f]] M (.agg [.I (a + d), .I (b + e), .I (c + f)]) M := by
  obtain ⟨⟨_, _⟩, ⟨_, _⟩, ⟨_, _⟩, ⟨_, _⟩, ⟨_, _⟩, ⟨_, _⟩⟩ := h
  refine calls_run K.spec_l6Beside rfl ?_
  simp (disch := omega) only [C.spec_l6Beside, splice, ↓SXd, SXu, slBounds, ↓sop, ↓aop, ↓reduceIte, LV.cells, AOp.dst, LV.I, LV.B, LV.U, LV.S, LV.nil, Nat.reduceEqDiff, Nat.reduceAdd, Nat.reduceMul, Nat.reduceSub, Nat.reduceLeDiff, Nat.reduceBEq, Nat.reduceDiv, Nat.reduceMod, Int.reduceToNat, Int.reduceLT, Int.reduceLE, Int.reduceAdd, Int.reduceSub, Int.reduceMul, Int.reduceEq, Int.reduceNeg, reduceCtorEq, resV, resAll, ARes.ev, LV.flat, ite_true, ite_false, exists_eq_left', exists_eq_left, keyOf, implies_true, fillC, capOf]
  exact cmp_drop rfl

def steps : List Cell := [⟨-1, 0, 0⟩, ⟨1, 0, 0⟩, ⟨0, -1, 0⟩, ⟨0, 1, 0⟩, ⟨0, 0, -1⟩, ⟨0, 0, 1⟩]
theorem steps_nbrs {c : Cell} {k : Nat} (hk : k < 6) : (nbrs c).getD k default = ⟨c.a + (steps.getD k default).a, c.b + (steps.getD k default).b, c.c + (steps.getD k default).c⟩ := by
  rcases (show k = 0 ∨ k = 1 ∨ k = 2 ∨ k = 3 ∨ k = 4 ∨ k = 5 by omega) with rfl | rfl | rfl | rfl | rfl | rfl <;> simp [nbrs, steps]
theorem steps_le {k : Nat} (hk : k < 6) : (-1 ≤ (steps.getD k default).a ∧ (steps.getD k default).a ≤ 1) ∧ (-1 ≤ (steps.getD k default).b ∧ (steps.getD k default).b ≤ 1) ∧ (-1 ≤ (steps.getD k default).c ∧ (steps.getD k default).c ≤ 1) := by
  rcases (show k = 0 ∨ k = 1 ∨ k = 2 ∨ k = 3 ∨ k = 4 ∨ k = 5 by omega) with rfl | rfl | rfl | rfl | rfl | rfl <;> simp [steps]
theorem Live.step {N : Mem} {t k : Nat} (h : Live N t (.row (triL steps) true 0)) (hk : k < 6) : getCells N t (k * 3) 3 = some (steps.getD k default).row := by
  have := Tri.get (cs := steps) (o := 0) h.has (k := k) hk
  rwa [Nat.zero_add] at this

theorem h_l6Enclosed {x y z : Int} {t : Nat} {w : Bool} {cs : List Cell} {M : Mem} (h : Live M t (.row (triL cs) w 3)) (hH : HeapOK x y z cs) :
    CallsTo PG F.spec_l6Enclosed [.agg [.I x, .I y, .I z, .ref t 0 cs.length]] M (.ref M.length 0 (pick x y z (closed x y z fun c => decide (c ∈ cs))).length) (M ++ [some (.row (triL (pick x y z (closed x y z fun c => decide (c ∈ cs)))) true 3)]) := by
  have hS := hH.1
  have hn : cs.length ≤ 1000000000 := by have := hH.len; omega
  obtain ⟨⟨hx0, hx⟩, ⟨hy0, hy⟩, ⟨hz0, hz⟩⟩ := id hS
  have ht := h.lt
  refine calls_run K.spec_l6Enclosed rfl ?_
  simp (disch := omega) only [C.spec_l6Enclosed, ↓SXd, SXu, slBounds, ↓sop, ↓aop, ↓reduceIte, LV.cells, AOp.dst, LV.I, LV.B, LV.U, LV.S, LV.nil, Nat.reduceEqDiff, Nat.reduceAdd, Nat.reduceMul, Nat.reduceSub, Nat.reduceLeDiff, Nat.reduceBEq, Nat.reduceDiv, Nat.reduceMod, Int.reduceToNat, Int.reduceLT, Int.reduceLE, Int.reduceAdd, Int.reduceSub, Int.reduceMul, Int.reduceEq, Int.reduceNeg, reduceCtorEq, resV, resAll, ARes.ev, LV.flat, ite_true, ite_false, exists_eq_left', exists_eq_left, keyOf, implies_true, fillC, capOf]
  refine callK_of (h_l2Empty) ?_
  simp (disch := omega) only [↓SXd, SXu, slBounds, ↓sop, ↓aop, ↓reduceIte, LV.cells, AOp.dst, LV.I, LV.B, LV.U, LV.S, LV.nil, Nat.reduceEqDiff, Nat.reduceAdd, Nat.reduceMul, Nat.reduceSub, Nat.reduceLeDiff, Nat.reduceBEq, Nat.reduceDiv, Nat.reduceMod, Int.reduceToNat, Int.reduceLT, Int.reduceLE, Int.reduceAdd, Int.reduceSub, Int.reduceMul, Int.reduceEq, Int.reduceNeg, reduceCtorEq, resV, resAll, ARes.ev, LV.flat, ite_true, ite_false, exists_eq_left', exists_eq_left, keyOf, implies_true, fillC, capOf]
  refine callK_of (h_l6Steps) ?_
  simp (disch := omega) only [splice, ↓SXd, SXu, slBounds, ↓sop, ↓aop, ↓reduceIte, LV.cells, AOp.dst, LV.I, LV.B, LV.U, LV.S, LV.nil, Nat.reduceEqDiff, Nat.reduceAdd, Nat.reduceMul, Nat.reduceSub, Nat.reduceLeDiff, Nat.reduceBEq, Nat.reduceDiv, Nat.reduceMod, Int.reduceToNat, Int.reduceLT, Int.reduceLE, Int.reduceAdd, Int.reduceSub, Int.reduceMul, Int.reduceEq, Int.reduceNeg, reduceCtorEq, resV, resAll, ARes.ev, LV.flat, ite_true, ite_false, exists_eq_left', exists_eq_left, keyOf, implies_true, fillC, capOf]
  refine ev_loop (fun m fr N => ∃ (i : Int) (u : Nat) (l : List Cell), i + m = x + 1 ∧ -1 ≤ i ∧ Mgn x y z i (-1) (-1) l ∧ Pre M N ∧ Live N M.length (.row [.I x, .I y, .I z, .ref t 0 cs.length] true 0) ∧
    Live N (M.length + 1) (.row [] true 3) ∧ Live N (M.length + 2) (.row [.I x, .I y, .I z, .ref (M.length + 1) 0 0] true 0) ∧ 
    Live N (M.length + 4) (.row (triL steps) true 0) ∧ Live N u (.row (triL l) true 3) ∧ (u = M.length + 3 ∨ M.length + 4 < u) ∧
    fr 1 = .ptr M.length 0 ∧ fr 3 = .ptr (M.length + 2) 0 ∧ fr 4 = .ref u 0 l.length ∧ fr 5 = .ptr (M.length + 4) 0 ∧ fr 6 = .I i) (x + 2).toNat
    ⟨-1, M.length + 3, [], by omega, by omega, Mgn.nil, Pre.app _ _, Live.new, Live.newj rfl, Live.newj rfl, Live.newj rfl, Live.newj rfl, .inl rfl, rfl, rfl, rfl, rfl, rfl⟩ ?_
  rintro m fr N ⟨i, u, l, hi, hi1, hm, hpre, b1, b1', b3, b5, bu, hu, f1, f3, f4, f5, f6⟩
  simp (disch := omega) only [f1, f3, f4, f5, f6, b1.cell, ↓SXd, SXu, slBounds, ↓sop, ↓aop, ↓reduceIte, LV.cells, AOp.dst, LV.I, LV.B, LV.U, LV.S, LV.nil, Nat.reduceEqDiff, Nat.reduceAdd, Nat.reduceMul, Nat.reduceSub, Nat.reduceLeDiff, Nat.reduceBEq, Nat.reduceDiv, Nat.reduceMod, Int.reduceToNat, Int.reduceLT, Int.reduceLE, Int.reduceAdd, Int.reduceSub, Int.reduceMul, Int.reduceEq, Int.reduceNeg, reduceCtorEq, resV, resAll, ARes.ev, LV.flat, ite_true, ite_false, exists_eq_left', exists_eq_left, keyOf, implies_true, fillC, capOf]
  refine condC_dec (fun hlt => ?_) (fun hlt => ?_)
  · simp (disch := omega) only [f1, f3, f4, f5, f6, ↓SXd, SXu, slBounds, ↓sop, ↓aop, ↓reduceIte, LV.cells, AOp.dst, LV.I, LV.B, LV.U, LV.S, LV.nil, Nat.reduceEqDiff, Nat.reduceAdd, Nat.reduceMul, Nat.reduceSub, Nat.reduceLeDiff, Nat.reduceBEq, Nat.reduceDiv, Nat.reduceMod, Int.reduceToNat, Int.reduceLT, Int.reduceLE, Int.reduceAdd, Int.reduceSub, Int.reduceMul, Int.reduceEq, Int.reduceNeg, reduceCtorEq, resV, resAll, ARes.ev, LV.flat, ite_true, ite_false, exists_eq_left', exists_eq_left, keyOf, implies_true, fillC, capOf]
    refine ev_loop (fun m2 fr N => ∃ (j : Int) (u : Nat) (l : List Cell), j + m2 = y + 1 ∧ -1 ≤ j ∧ Mgn x y z i j (-1) l ∧ Pre M N ∧ Live N M.length (.row [.I x, .I y, .I z, .ref t 0 cs.length] true 0) ∧
      Live N (M.length + 1) (.row [] true 3) ∧ Live N (M.length + 2) (.row [.I x, .I y, .I z, .ref (M.length + 1) 0 0] true 0) ∧ 
      Live N (M.length + 4) (.row (triL steps) true 0) ∧ Live N u (.row (triL l) true 3) ∧ (u = M.length + 3 ∨ M.length + 4 < u) ∧
      fr 1 = .ptr M.length 0 ∧ fr 3 = .ptr (M.length + 2) 0 ∧ fr 4 = .ref u 0 l.length ∧ fr 5 = .ptr (M.length + 4) 0 ∧ fr 6 = .I i ∧ fr 7 = .I j) (y + 2).toNat
      ⟨-1, u, l, by omega, by omega, hm, hpre, b1, b1', b3, b5, bu, hu, f1, f3, f4, f5, f6, rfl⟩ ?_
    clear f1 f3 f4 f5 f6 hpre b1 b1' b3 b5 bu hu hm
    rintro m2 fr N ⟨j, u, l, hj, hj1, hm, hpre, b1, b1', b3, b5, bu, hu, f1, f3, f4, f5, f6, f7⟩
    simp (disch := omega) only [f1, f3, f4, f5, f6, f7, b1.cell, ↓SXd, SXu, slBounds, ↓sop, ↓aop, ↓reduceIte, LV.cells, AOp.dst, LV.I, LV.B, LV.U, LV.S, LV.nil, Nat.reduceEqDiff, Nat.reduceAdd, Nat.reduceMul, Nat.reduceSub, Nat.reduceLeDiff, Nat.reduceBEq, Nat.reduceDiv, Nat.reduceMod, Int.reduceToNat, Int.reduceLT, Int.reduceLE, Int.reduceAdd, Int.reduceSub, Int.reduceMul, Int.reduceEq, Int.reduceNeg, reduceCtorEq, resV, resAll, ARes.ev, LV.flat, ite_true, ite_false, exists_eq_left', exists_eq_left, keyOf, implies_true, fillC, capOf]
    refine condC_dec (fun hlt2 => ?_) (fun hlt2 => ?_)
    · simp (disch := omega) only [f1, f3, f4, f5, f6, f7, ↓SXd, SXu, slBounds, ↓sop, ↓aop, ↓reduceIte, LV.cells, AOp.dst, LV.I, LV.B, LV.U, LV.S, LV.nil, Nat.reduceEqDiff, Nat.reduceAdd, Nat.reduceMul, Nat.reduceSub, Nat.reduceLeDiff, Nat.reduceBEq, Nat.reduceDiv, Nat.reduceMod, Int.reduceToNat, Int.reduceLT, Int.reduceLE, Int.reduceAdd, Int.reduceSub, Int.reduceMul, Int.reduceEq, Int.reduceNeg, reduceCtorEq, resV, resAll, ARes.ev, LV.flat, ite_true, ite_false, exists_eq_left', exists_eq_left, keyOf, implies_true, fillC, capOf]
      refine ev_loop (fun m3 fr N => ∃ (k : Int) (u : Nat) (l : List Cell), k + m3 = z + 1 ∧ -1 ≤ k ∧ Mgn x y z i j k l ∧ Pre M N ∧ Live N M.length (.row [.I x, .I y, .I z, .ref t 0 cs.length] true 0) ∧
        Live N (M.length + 1) (.row [] true 3) ∧ Live N (M.length + 2) (.row [.I x, .I y, .I z, .ref (M.length + 1) 0 0] true 0) ∧ 
        Live N (M.length + 4) (.row (triL steps) true 0) ∧ Live N u (.row (triL l) true 3) ∧ (u = M.length + 3 ∨ M.length + 4 < u) ∧
        fr 1 = .ptr M.length 0 ∧ fr 3 = .ptr (M.length + 2) 0 ∧ fr 4 = .ref u 0 l.length ∧ fr 5 = .ptr (M.length + 4) 0 ∧ fr 6 = .I i ∧ fr 7 = .I j ∧ fr 8 = .I k) (z + 2).toNat
        ⟨-1, u, l, by omega, by omega, hm, hpre, b1, b1', b3, b5, bu, hu, f1, f3, f4, f5, f6, f7, rfl⟩ ?_
      clear f1 f3 f4 f5 f6 f7 hpre b1 b1' b3 b5 bu hu hm
      rintro m3 fr N ⟨k, u, l, hk, hk1, hm, hpre, b1, b1', b3, b5, bu, hu, f1, f3, f4, f5, f6, f7, f8⟩
      simp (disch := omega) only [f1, f3, f4, f5, f6, f7, f8, b1.cell, ↓SXd, SXu, slBounds, ↓sop, ↓aop, ↓reduceIte, LV.cells, AOp.dst, LV.I, LV.B, LV.U, LV.S, LV.nil, Nat.reduceEqDiff, Nat.reduceAdd, Nat.reduceMul, Nat.reduceSub, Nat.reduceLeDiff, Nat.reduceBEq, Nat.reduceDiv, Nat.reduceMod, Int.reduceToNat, Int.reduceLT, Int.reduceLE, Int.reduceAdd, Int.reduceSub, Int.reduceMul, Int.reduceEq, Int.reduceNeg, reduceCtorEq, resV, resAll, ARes.ev, LV.flat, ite_true, ite_false, exists_eq_left', exists_eq_left, keyOf, implies_true, fillC, capOf]
      refine condC_dec (fun hlt3 => ?_) (fun hlt3 => ?_)
      · simp (disch := omega) only [f1, f3, f4, f5, f6, f7, f8, b1.cells, splice, ↓SXd, SXu, slBounds, ↓sop, ↓aop, ↓reduceIte, LV.cells, AOp.dst, LV.I, LV.B, LV.U, LV.S, LV.nil, Nat.reduceEqDiff, Nat.reduceAdd, Nat.reduceMul, Nat.reduceSub, Nat.reduceLeDiff, Nat.reduceBEq, Nat.reduceDiv, Nat.reduceMod, Int.reduceToNat, Int.reduceLT, Int.reduceLE, Int.reduceAdd, Int.reduceSub, Int.reduceMul, Int.reduceEq, Int.reduceNeg, reduceCtorEq, resV, resAll, ARes.ev, LV.flat, ite_true, ite_false, exists_eq_left', exists_eq_left, keyOf, implies_true, fillC, capOf]
        refine callK_of (h_l2In hS) ?_
        simp (disch := omega) only [f1, f3, f4, f5, f6, f7, f8, ↓SXd, SXu, slBounds, ↓sop, ↓aop, ↓reduceIte, LV.cells, AOp.dst, LV.I, LV.B, LV.U, LV.S, LV.nil, Nat.reduceEqDiff, Nat.reduceAdd, Nat.reduceMul, Nat.reduceSub, Nat.reduceLeDiff, Nat.reduceBEq, Nat.reduceDiv, Nat.reduceMod, Int.reduceToNat, Int.reduceLT, Int.reduceLE, Int.reduceAdd, Int.reduceSub, Int.reduceMul, Int.reduceEq, Int.reduceNeg, reduceCtorEq, resV, resAll, ARes.ev, LV.flat, ite_true, ite_false, exists_eq_left', exists_eq_left, keyOf, implies_true, fillC, capOf]
        refine condC_dec (fun hin => ?_) (fun hin => ?_)
        · simp (disch := omega) only [f1, f3, f4, f5, f6, f7, f8, splice, ↓SXd, SXu, slBounds, ↓sop, ↓aop, ↓reduceIte, LV.cells, AOp.dst, LV.I, LV.B, LV.U, LV.S, LV.nil, Nat.reduceEqDiff, Nat.reduceAdd, Nat.reduceMul, Nat.reduceSub, Nat.reduceLeDiff, Nat.reduceBEq, Nat.reduceDiv, Nat.reduceMod, Int.reduceToNat, Int.reduceLT, Int.reduceLE, Int.reduceAdd, Int.reduceSub, Int.reduceMul, Int.reduceEq, Int.reduceNeg, reduceCtorEq, resV, resAll, ARes.ev, LV.flat, ite_true, ite_false, exists_eq_left', exists_eq_left, keyOf, implies_true, fillC, capOf]
          exact ⟨m3 - 1, by omega, k + 1, u, l, by omega, by omega, hm.in hin, hpre, b1, b1', b3, b5, bu, hu, f1, f3, f4, f5, f6, f7, rfl⟩
        · simp (disch := omega) only [f1, f3, f4, f5, f6, f7, f8, splice, ↓SXd, SXu, slBounds, ↓sop, ↓aop, ↓reduceIte, LV.cells, AOp.dst, LV.I, LV.B, LV.U, LV.S, LV.nil, Nat.reduceEqDiff, Nat.reduceAdd, Nat.reduceMul, Nat.reduceSub, Nat.reduceLeDiff, Nat.reduceBEq, Nat.reduceDiv, Nat.reduceMod, Int.reduceToNat, Int.reduceLT, Int.reduceLE, Int.reduceAdd, Int.reduceSub, Int.reduceMul, Int.reduceEq, Int.reduceNeg, reduceCtorEq, resV, resAll, ARes.ev, LV.flat, ite_true, ite_false, exists_eq_left', exists_eq_left, keyOf, implies_true, fillC, capOf]
          have hml := hm.len
          refine appendK_cell bu (by omega) fun N' l1 l2 l3 => ?_
          have hb5 := b5.lt
          simp (disch := omega) only [f1, f3, f4, f5, f6, f7, f8, splice, ↓SXd, SXu, slBounds, ↓sop, ↓aop, ↓reduceIte, LV.cells, AOp.dst, LV.I, LV.B, LV.U, LV.S, LV.nil, Nat.reduceEqDiff, Nat.reduceAdd, Nat.reduceMul, Nat.reduceSub, Nat.reduceLeDiff, Nat.reduceBEq, Nat.reduceDiv, Nat.reduceMod, Int.reduceToNat, Int.reduceLT, Int.reduceLE, Int.reduceAdd, Int.reduceSub, Int.reduceMul, Int.reduceEq, Int.reduceNeg, reduceCtorEq, resV, resAll, ARes.ev, LV.flat, ite_true, ite_false, exists_eq_left', exists_eq_left, keyOf, implies_true, fillC, capOf]
          exact ⟨m3 - 1, by omega, k + 1, _, l ++ [⟨i, j, k⟩], by omega, by omega, hm.out (by omega) ⟨⟨by simp only; omega, by simp only; omega⟩, ⟨by simp only; omega, by simp only; omega⟩, ⟨by simp only; omega, by simp only; omega⟩⟩ hin,
            pre_step hpre (by omega) l1 l3, live_step b1 (by omega) l3, live_step b1' (by omega) l3, live_step b3 (by omega) l3, live_step b5 (by omega) l3, l2, by omega, f1, f3, rfl, f5, f6, f7, rfl⟩
      · simp (disch := omega) only [f1, f3, f4, f5, f6, f7, f8, ↓SXd, SXu, slBounds, ↓sop, ↓aop, ↓reduceIte, LV.cells, AOp.dst, LV.I, LV.B, LV.U, LV.S, LV.nil, Nat.reduceEqDiff, Nat.reduceAdd, Nat.reduceMul, Nat.reduceSub, Nat.reduceLeDiff, Nat.reduceBEq, Nat.reduceDiv, Nat.reduceMod, Int.reduceToNat, Int.reduceLT, Int.reduceLE, Int.reduceAdd, Int.reduceSub, Int.reduceMul, Int.reduceEq, Int.reduceNeg, reduceCtorEq, resV, resAll, ARes.ev, LV.flat, ite_true, ite_false, exists_eq_left', exists_eq_left, keyOf, implies_true, fillC, capOf]
        have : k = z + 1 := by omega
        exact ⟨m2 - 1, by omega, j + 1, u, l, by omega, by omega, hm.row (by omega) (by omega), hpre, b1, b1', b3, b5, bu, hu, f1, f3, f4, f5, f6, rfl⟩
    · simp (disch := omega) only [f1, f3, f4, f5, f6, f7, ↓SXd, SXu, slBounds, ↓sop, ↓aop, ↓reduceIte, LV.cells, AOp.dst, LV.I, LV.B, LV.U, LV.S, LV.nil, Nat.reduceEqDiff, Nat.reduceAdd, Nat.reduceMul, Nat.reduceSub, Nat.reduceLeDiff, Nat.reduceBEq, Nat.reduceDiv, Nat.reduceMod, Int.reduceToNat, Int.reduceLT, Int.reduceLE, Int.reduceAdd, Int.reduceSub, Int.reduceMul, Int.reduceEq, Int.reduceNeg, reduceCtorEq, resV, resAll, ARes.ev, LV.flat, ite_true, ite_false, exists_eq_left', exists_eq_left, keyOf, implies_true, fillC, capOf]
      exact ⟨m - 1, by omega, i + 1, u, l, by omega, by omega, hm.plane (by omega) (by omega), hpre, b1, b1', b3, b5, bu, hu, f1, f3, f4, f5, rfl⟩
  · simp (disch := omega) only [f1, f3, f4, f5, f6, ↓SXd, SXu, slBounds, ↓sop, ↓aop, ↓reduceIte, LV.cells, AOp.dst, LV.I, LV.B, LV.U, LV.S, LV.nil, Nat.reduceEqDiff, Nat.reduceAdd, Nat.reduceMul, Nat.reduceSub, Nat.reduceLeDiff, Nat.reduceBEq, Nat.reduceDiv, Nat.reduceMod, Int.reduceToNat, Int.reduceLT, Int.reduceLE, Int.reduceAdd, Int.reduceSub, Int.reduceMul, Int.reduceEq, Int.reduceNeg, reduceCtorEq, resV, resAll, ARes.ev, LV.flat, ite_true, ite_false, exists_eq_left', exists_eq_left, keyOf, implies_true, fillC, capOf]
    have hix : i = x + 1 := by omega
    subst hix
    have hml := hm.len
    have hout : Out x y z (fun c => decide (c ∈ cs)) 0 0 l [] := ⟨fun c h1 h2 => hm.all c h1 h2 (by have := h1.1.2; unfold Bef; omega), hm.mem, by simp, by simp, by omega, by omega⟩
    refine ev_loop (fun m fr N => ∃ (n u s : Nat) (r : List Cell), n + m = 300 ∧ n ≤ (l ++ r).length ∧ Out x y z (fun c => decide (c ∈ cs)) n 0 l r ∧ Pre M N ∧ Live N M.length (.row [.I x, .I y, .I z, .ref t 0 cs.length] true 0) ∧
      Live N s (.row (triL (pick x y z fun d => decide (d ∈ r))) true 3) ∧ Live N (M.length + 2) (.row [.I x, .I y, .I z, .ref s 0 (pick x y z fun d => decide (d ∈ r)).length] true 0) ∧ 
      Live N (M.length + 4) (.row (triL steps) true 0) ∧ Live N u (.row (triL (l ++ r)) true 3) ∧ u ≠ s ∧ M.length < u ∧ M.length < s ∧
      fr 1 = .ptr M.length 0 ∧ fr 3 = .ptr (M.length + 2) 0 ∧ fr 4 = .ref u 0 (l ++ r).length ∧ fr 5 = .ptr (M.length + 4) 0 ∧ fr 9 = .I n) 300
      ⟨0, u, M.length + 1, [], rfl, by omega, hout, hpre, b1, ?_, ?_, b5, by rw [List.append_nil]; exact bu, by omega, by omega, by omega, f1, f3, by rw [List.append_nil]; exact f4, f5, rfl⟩ ?_
    · rw [show pick x y z (fun d => decide (d ∈ ([] : List Cell))) = [] by unfold pick; rw [List.filter_eq_nil_iff]; simp]; exact b1'
    · rw [show pick x y z (fun d => decide (d ∈ ([] : List Cell))) = [] by unfold pick; rw [List.filter_eq_nil_iff]; simp]; exact b3
    clear f1 f3 f4 f5 f6 hpre b1 b1' b3 b5 bu hu hm hout
    rintro m fr N ⟨n, u, s, r, hnm, hnl, hout, hpre, b1, bs, b3, b5, bu, hus, hu, hs, f1, f3, f4, f5, f9⟩
    have hrl := nodup_len hS hout.nodup fun d hd => (hout.mem d hd).1
    have hll : (l ++ r).length = l.length + r.length := List.length_append
    simp (disch := omega) only [f1, f3, f4, f5, f9, ↓SXd, SXu, slBounds, ↓sop, ↓aop, ↓reduceIte, LV.cells, AOp.dst, LV.I, LV.B, LV.U, LV.S, LV.nil, Nat.reduceEqDiff, Nat.reduceAdd, Nat.reduceMul, Nat.reduceSub, Nat.reduceLeDiff, Nat.reduceBEq, Nat.reduceDiv, Nat.reduceMod, Int.reduceToNat, Int.reduceLT, Int.reduceLE, Int.reduceAdd, Int.reduceSub, Int.reduceMul, Int.reduceEq, Int.reduceNeg, reduceCtorEq, resV, resAll, ARes.ev, LV.flat, ite_true, ite_false, exists_eq_left', exists_eq_left, keyOf, implies_true, fillC, capOf]
    refine condC_dec (fun hlt2 => ?_) (fun hlt2 => ?_)
    · simp (disch := omega) only [f1, f3, f4, f5, f9, ↓SXd, SXu, slBounds, ↓sop, ↓aop, ↓reduceIte, LV.cells, AOp.dst, LV.I, LV.B, LV.U, LV.S, LV.nil, Nat.reduceEqDiff, Nat.reduceAdd, Nat.reduceMul, Nat.reduceSub, Nat.reduceLeDiff, Nat.reduceBEq, Nat.reduceDiv, Nat.reduceMod, Int.reduceToNat, Int.reduceLT, Int.reduceLE, Int.reduceAdd, Int.reduceSub, Int.reduceMul, Int.reduceEq, Int.reduceNeg, reduceCtorEq, resV, resAll, ARes.ev, LV.flat, ite_true, ite_false, exists_eq_left', exists_eq_left, keyOf, implies_true, fillC, capOf]
      have hnl' : n < (l ++ r).length := by omega
      refine ev_loop (fun m2 fr N => ∃ (k u s : Nat) (r : List Cell), k + m2 = 6 ∧ n < (l ++ r).length ∧ Out x y z (fun c => decide (c ∈ cs)) n k l r ∧ Pre M N ∧ Live N M.length (.row [.I x, .I y, .I z, .ref t 0 cs.length] true 0) ∧
        Live N s (.row (triL (pick x y z fun d => decide (d ∈ r))) true 3) ∧ Live N (M.length + 2) (.row [.I x, .I y, .I z, .ref s 0 (pick x y z fun d => decide (d ∈ r)).length] true 0) ∧ 
        Live N (M.length + 4) (.row (triL steps) true 0) ∧ Live N u (.row (triL (l ++ r)) true 3) ∧ u ≠ s ∧ M.length < u ∧ M.length < s ∧
        fr 1 = .ptr M.length 0 ∧ fr 3 = .ptr (M.length + 2) 0 ∧ fr 4 = .ref u 0 (l ++ r).length ∧ fr 5 = .ptr (M.length + 4) 0 ∧ fr 9 = .I n ∧ fr 10 = .I k) 6
        ⟨0, u, s, r, rfl, hnl', hout, hpre, b1, bs, b3, b5, bu, hus, hu, hs, f1, f3, f4, f5, f9, rfl⟩ ?_
      clear f1 f3 f4 f5 f9 hpre b1 bs b3 b5 bu hus hu hs hout hnl hrl hll hnl'
      rintro m2 fr N ⟨k, u, s, r, hk, hnl, hout, hpre, b1, bs, b3, b5, bu, hus, hu, hs, f1, f3, f4, f5, f9, f10⟩
      simp (disch := omega) only [f1, f3, f4, f5, f9, f10, ↓SXd, SXu, slBounds, ↓sop, ↓aop, ↓reduceIte, LV.cells, AOp.dst, LV.I, LV.B, LV.U, LV.S, LV.nil, Nat.reduceEqDiff, Nat.reduceAdd, Nat.reduceMul, Nat.reduceSub, Nat.reduceLeDiff, Nat.reduceBEq, Nat.reduceDiv, Nat.reduceMod, Int.reduceToNat, Int.reduceLT, Int.reduceLE, Int.reduceAdd, Int.reduceSub, Int.reduceMul, Int.reduceEq, Int.reduceNeg, reduceCtorEq, resV, resAll, ARes.ev, LV.flat, ite_true, ite_false, exists_eq_left', exists_eq_left, keyOf, implies_true, fillC, capOf]
      refine condC_dec (fun hlt3 => ?_) (fun hlt3 => ?_)
      · have hk6 : k < 6 := by omega
        have hc1 := bu.tri0 hnl
        have hst := steps_nbrs (c := (l ++ r).getD n default) hk6
        have hsl := steps_le hk6
        simp (disch := omega) only [f1, f3, f4, f5, f9, f10, hc1, (b5.step hk6), Cell.row, List.getElem?_append_left, ↓SXd, SXu, slBounds, ↓sop, ↓aop, ↓reduceIte, LV.cells, AOp.dst, LV.I, LV.B, LV.U, LV.S, LV.nil, Nat.reduceEqDiff, Nat.reduceAdd, Nat.reduceMul, Nat.reduceSub, Nat.reduceLeDiff, Nat.reduceBEq, Nat.reduceDiv, Nat.reduceMod, Int.reduceToNat, Int.reduceLT, Int.reduceLE, Int.reduceAdd, Int.reduceSub, Int.reduceMul, Int.reduceEq, Int.reduceNeg, reduceCtorEq, resV, resAll, ARes.ev, LV.flat, ite_true, ite_false, exists_eq_left', exists_eq_left, keyOf, implies_true, fillC, capOf]
        have hce : ExtC x y z ((l ++ r).getD n default) := by
          rcases List.mem_append.1 (getD_mem' (d := default) hnl) with hm | hm
          · exact (hout.mgm _ hm).1
          · exact (hout.mem _ hm).1.ext
        obtain ⟨⟨_, _⟩, ⟨_, _⟩, ⟨_, _⟩⟩ := id hce
        obtain ⟨⟨_, _⟩, ⟨_, _⟩, ⟨_, _⟩⟩ := id hsl
        refine callK_of (h_l6Beside ⟨⟨by omega, by omega⟩, ⟨by omega, by omega⟩, ⟨by omega, by omega⟩, ⟨by omega, by omega⟩, ⟨by omega, by omega⟩, ⟨by omega, by omega⟩⟩) ?_
        simp (disch := omega) only [f1, f3, f4, f5, f9, f10, splice, ↓SXd, SXu, slBounds, ↓sop, ↓aop, ↓reduceIte, LV.cells, AOp.dst, LV.I, LV.B, LV.U, LV.S, LV.nil, Nat.reduceEqDiff, Nat.reduceAdd, Nat.reduceMul, Nat.reduceSub, Nat.reduceLeDiff, Nat.reduceBEq, Nat.reduceDiv, Nat.reduceMod, Int.reduceToNat, Int.reduceLT, Int.reduceLE, Int.reduceAdd, Int.reduceSub, Int.reduceMul, Int.reduceEq, Int.reduceNeg, reduceCtorEq, resV, resAll, ARes.ev, LV.flat, ite_true, ite_false, exists_eq_left', exists_eq_left, keyOf, implies_true, fillC, capOf]
        generalize ((l ++ r).getD n default).a + (steps.getD k default).a = ea at hst ⊢
        generalize ((l ++ r).getD n default).b + (steps.getD k default).b = eb at hst ⊢
        generalize ((l ++ r).getD n default).c + (steps.getD k default).c = ec at hst ⊢
        have e0 : Live (N ++ [some (.row [.I ea, .I eb, .I ec] true 0)]) N.length (.row [.I ea, .I eb, .I ec] true 0) := Live.new
        have hpN : Pre N (N ++ [some (.row [.I ea, .I eb, .I ec] true 0)]) := Pre.app _ _
        generalize N ++ [some (.row [.I ea, .I eb, .I ec] true 0)] = N1 at e0 hpN ⊢
        have hNl := hpN.1
        have hlb5 := b5.lt
        have hlu := bu.lt
        have hls := bs.lt
        have c1 := b1.pre hpN
        have cs' := bs.pre hpN
        have c3 := b3.pre hpN
        have c5 := b5.pre hpN
        have cu := bu.pre hpN
        have hpre1 := hpre.trans hpN
        have hTri : Tri N1 t 0 cs := (h.pre hpre1).has
        have hrl := nodup_len hS hout.nodup fun d hd => (hout.mem d hd).1
        have hpl := pick_len hS fun d => decide (d ∈ r)
        have hll : (l ++ r).length = l.length + r.length := List.length_append
        have hmr : decide ((⟨ea, eb, ec⟩ : Cell) ∈ pick x y z fun d => decide (d ∈ r)) = decide ((⟨ea, eb, ec⟩ : Cell) ∈ r) := decide_eq_decide.2 ⟨fun h => by have := ((mem_pick hS).1 h).2; exact of_decide_eq_true this, fun h => (mem_pick hS).2 ⟨(hout.mem _ h).1, decide_eq_true h⟩⟩
        have hskip : ¬ ((Cell.inBox x y z ⟨ea, eb, ec⟩ ∧ (⟨ea, eb, ec⟩ : Cell) ∉ cs) ∧ (⟨ea, eb, ec⟩ : Cell) ∉ r) → Out x y z (fun c => decide (c ∈ cs)) n (k + 1) l r := fun hno => hout.skip (by rw [hst, decide_eq_false_iff_not]; exact hno)
        simp (disch := omega) only [f1, f3, f4, f5, f9, f10, c1.cells, e0.cells, ↓SXd, SXu, slBounds, ↓sop, ↓aop, ↓reduceIte, LV.cells, AOp.dst, LV.I, LV.B, LV.U, LV.S, LV.nil, Nat.reduceEqDiff, Nat.reduceAdd, Nat.reduceMul, Nat.reduceSub, Nat.reduceLeDiff, Nat.reduceBEq, Nat.reduceDiv, Nat.reduceMod, Int.reduceToNat, Int.reduceLT, Int.reduceLE, Int.reduceAdd, Int.reduceSub, Int.reduceMul, Int.reduceEq, Int.reduceNeg, reduceCtorEq, resV, resAll, ARes.ev, LV.flat, ite_true, ite_false, exists_eq_left', exists_eq_left, keyOf, implies_true, fillC, capOf]
        refine callK_of (h_l2In hS) ?_
        simp (disch := omega) only [f1, f3, f4, f5, f9, f10, ↓SXd, SXu, slBounds, ↓sop, ↓aop, ↓reduceIte, LV.cells, AOp.dst, LV.I, LV.B, LV.U, LV.S, LV.nil, Nat.reduceEqDiff, Nat.reduceAdd, Nat.reduceMul, Nat.reduceSub, Nat.reduceLeDiff, Nat.reduceBEq, Nat.reduceDiv, Nat.reduceMod, Int.reduceToNat, Int.reduceLT, Int.reduceLE, Int.reduceAdd, Int.reduceSub, Int.reduceMul, Int.reduceEq, Int.reduceNeg, reduceCtorEq, resV, resAll, ARes.ev, LV.flat, ite_true, ite_false, exists_eq_left', exists_eq_left, keyOf, implies_true, fillC, capOf]
        by_cases hin : Cell.inBox x y z ⟨ea, eb, ec⟩
        · simp (disch := omega) only [f1, f3, f4, f5, f9, f10, hin, c1.cells, e0.cells, ↓SXd, SXu, slBounds, ↓sop, ↓aop, ↓reduceIte, LV.cells, AOp.dst, LV.I, LV.B, LV.U, LV.S, LV.nil, Nat.reduceEqDiff, Nat.reduceAdd, Nat.reduceMul, Nat.reduceSub, Nat.reduceLeDiff, Nat.reduceBEq, Nat.reduceDiv, Nat.reduceMod, Int.reduceToNat, Int.reduceLT, Int.reduceLE, Int.reduceAdd, Int.reduceSub, Int.reduceMul, Int.reduceEq, Int.reduceNeg, reduceCtorEq, resV, resAll, ARes.ev, LV.flat, ite_true, ite_false, exists_eq_left', exists_eq_left, keyOf, implies_true, fillC, capOf]
          refine callK_of (h_l2Has hTri hn) ?_
          simp (disch := omega) only [f1, f3, f4, f5, f9, f10, ↓SXd, SXu, slBounds, ↓sop, ↓aop, ↓reduceIte, LV.cells, AOp.dst, LV.I, LV.B, LV.U, LV.S, LV.nil, Nat.reduceEqDiff, Nat.reduceAdd, Nat.reduceMul, Nat.reduceSub, Nat.reduceLeDiff, Nat.reduceBEq, Nat.reduceDiv, Nat.reduceMod, Int.reduceToNat, Int.reduceLT, Int.reduceLE, Int.reduceAdd, Int.reduceSub, Int.reduceMul, Int.reduceEq, Int.reduceNeg, reduceCtorEq, resV, resAll, ARes.ev, LV.flat, ite_true, ite_false, exists_eq_left', exists_eq_left, keyOf, implies_true, fillC, capOf]
          by_cases hcs : (⟨ea, eb, ec⟩ : Cell) ∈ cs
          · simp (disch := omega) only [f1, f3, f4, f5, f9, f10, hcs, ↓SXd, SXu, slBounds, ↓sop, ↓aop, ↓reduceIte, LV.cells, AOp.dst, LV.I, LV.B, LV.U, LV.S, LV.nil, Nat.reduceEqDiff, Nat.reduceAdd, Nat.reduceMul, Nat.reduceSub, Nat.reduceLeDiff, Nat.reduceBEq, Nat.reduceDiv, Nat.reduceMod, Int.reduceToNat, Int.reduceLT, Int.reduceLE, Int.reduceAdd, Int.reduceSub, Int.reduceMul, Int.reduceEq, Int.reduceNeg, reduceCtorEq, resV, resAll, ARes.ev, LV.flat, ite_true, ite_false, exists_eq_left', exists_eq_left, keyOf, implies_true, fillC, capOf]
            exact ⟨m2 - 1, by omega, k + 1, u, s, r, by omega, hnl, hskip (by simp [hcs]), hpre1, c1, cs', c3, c5, cu, hus, hu, hs, f1, f3, f4, f5, f9, eqI (natI _)⟩
          · simp (disch := omega) only [f1, f3, f4, f5, f9, f10, hcs, c3.cells, e0.cells, ↓SXd, SXu, slBounds, ↓sop, ↓aop, ↓reduceIte, LV.cells, AOp.dst, LV.I, LV.B, LV.U, LV.S, LV.nil, Nat.reduceEqDiff, Nat.reduceAdd, Nat.reduceMul, Nat.reduceSub, Nat.reduceLeDiff, Nat.reduceBEq, Nat.reduceDiv, Nat.reduceMod, Int.reduceToNat, Int.reduceLT, Int.reduceLE, Int.reduceAdd, Int.reduceSub, Int.reduceMul, Int.reduceEq, Int.reduceNeg, reduceCtorEq, resV, resAll, ARes.ev, LV.flat, ite_true, ite_false, exists_eq_left', exists_eq_left, keyOf, implies_true, fillC, capOf]
            refine callK_of (h_l2Has cs'.has (by omega)) ?_
            simp (disch := omega) only [f1, f3, f4, f5, f9, f10, ↓SXd, SXu, slBounds, ↓sop, ↓aop, ↓reduceIte, LV.cells, AOp.dst, LV.I, LV.B, LV.U, LV.S, LV.nil, Nat.reduceEqDiff, Nat.reduceAdd, Nat.reduceMul, Nat.reduceSub, Nat.reduceLeDiff, Nat.reduceBEq, Nat.reduceDiv, Nat.reduceMod, Int.reduceToNat, Int.reduceLT, Int.reduceLE, Int.reduceAdd, Int.reduceSub, Int.reduceMul, Int.reduceEq, Int.reduceNeg, reduceCtorEq, resV, resAll, ARes.ev, LV.flat, ite_true, ite_false, exists_eq_left', exists_eq_left, keyOf, implies_true, fillC, capOf]
            rw [hmr]
            by_cases hr : (⟨ea, eb, ec⟩ : Cell) ∈ r
            · simp (disch := omega) only [f1, f3, f4, f5, f9, f10, hr, ↓SXd, SXu, slBounds, ↓sop, ↓aop, ↓reduceIte, LV.cells, AOp.dst, LV.I, LV.B, LV.U, LV.S, LV.nil, Nat.reduceEqDiff, Nat.reduceAdd, Nat.reduceMul, Nat.reduceSub, Nat.reduceLeDiff, Nat.reduceBEq, Nat.reduceDiv, Nat.reduceMod, Int.reduceToNat, Int.reduceLT, Int.reduceLE, Int.reduceAdd, Int.reduceSub, Int.reduceMul, Int.reduceEq, Int.reduceNeg, reduceCtorEq, resV, resAll, ARes.ev, LV.flat, ite_true, ite_false, exists_eq_left', exists_eq_left, keyOf, implies_true, fillC, capOf]
              exact ⟨m2 - 1, by omega, k + 1, u, s, r, by omega, hnl, hskip (by simp [hr]), hpre1, c1, cs', c3, c5, cu, hus, hu, hs, f1, f3, f4, f5, f9, eqI (natI _)⟩
            · simp (disch := omega) only [f1, f3, f4, f5, f9, f10, hr, c3.cells, e0.cells, ↓SXd, SXu, slBounds, ↓sop, ↓aop, ↓reduceIte, LV.cells, AOp.dst, LV.I, LV.B, LV.U, LV.S, LV.nil, Nat.reduceEqDiff, Nat.reduceAdd, Nat.reduceMul, Nat.reduceSub, Nat.reduceLeDiff, Nat.reduceBEq, Nat.reduceDiv, Nat.reduceMod, Int.reduceToNat, Int.reduceLT, Int.reduceLE, Int.reduceAdd, Int.reduceSub, Int.reduceMul, Int.reduceEq, Int.reduceNeg, reduceCtorEq, resV, resAll, ARes.ev, LV.flat, ite_true, ite_false, exists_eq_left', exists_eq_left, keyOf, implies_true, fillC, capOf]
              refine callH_of (h_l2With (c := ⟨ea, eb, ec⟩) cs' (pick_ok hS _) hin) ?_
              intro sn N2 hsn hp2 hsr
              simp (disch := omega) only [f1, f3, f4, f5, f9, f10, ↓SXd, SXu, slBounds, ↓sop, ↓aop, ↓reduceIte, LV.cells, AOp.dst, LV.I, LV.B, LV.U, LV.S, LV.nil, Nat.reduceEqDiff, Nat.reduceAdd, Nat.reduceMul, Nat.reduceSub, Nat.reduceLeDiff, Nat.reduceBEq, Nat.reduceDiv, Nat.reduceMod, Int.reduceToNat, Int.reduceLT, Int.reduceLE, Int.reduceAdd, Int.reduceSub, Int.reduceMul, Int.reduceEq, Int.reduceNeg, reduceCtorEq, resV, resAll, ARes.ev, LV.flat, ite_true, ite_false, exists_eq_left', exists_eq_left, keyOf, implies_true, fillC, capOf]
              refine memK_box (c3.pre hp2) (by simp) fun N3 k1 k2 k3 => ?_
              have hN2 := hp2.1
              have hle0 := e0.lt
              have hlc5 := c5.lt
              have e3 := live_step (e0.pre hp2) (by omega) k3
              have d1 := live_step (c1.pre hp2) (by omega) k3
              have d5 := live_step (c5.pre hp2) (by omega) k3
              have du := live_step (cu.pre hp2) (cu.ne_esz c3 (by decide)) k3
              have ds := live_step hsr (by omega) k3
              have hlsn := hsr.lt
              have hu5 := cu.ne_esz c5 (by decide)
              have hu3 := cu.ne_esz c3 (by decide)
              have hpre3 := pre_step (hpre1.trans hp2) (by omega) (j := 0) k1 k3
              simp (disch := omega) only [f1, f3, f4, f5, f9, f10, e3.cells, splice, ↓SXd, SXu, slBounds, ↓sop, ↓aop, ↓reduceIte, LV.cells, AOp.dst, LV.I, LV.B, LV.U, LV.S, LV.nil, Nat.reduceEqDiff, Nat.reduceAdd, Nat.reduceMul, Nat.reduceSub, Nat.reduceLeDiff, Nat.reduceBEq, Nat.reduceDiv, Nat.reduceMod, Int.reduceToNat, Int.reduceLT, Int.reduceLE, Int.reduceAdd, Int.reduceSub, Int.reduceMul, Int.reduceEq, Int.reduceNeg, reduceCtorEq, resV, resAll, ARes.ev, LV.flat, ite_true, ite_false, exists_eq_left', exists_eq_left, keyOf, implies_true, fillC, capOf]
              refine appendK_cell du (by omega) fun N5 l1 l2 l3 => ?_
              simp (disch := omega) only [f1, f3, f4, f5, f9, f10, ↓SXd, SXu, slBounds, ↓sop, ↓aop, ↓reduceIte, LV.cells, AOp.dst, LV.I, LV.B, LV.U, LV.S, LV.nil, Nat.reduceEqDiff, Nat.reduceAdd, Nat.reduceMul, Nat.reduceSub, Nat.reduceLeDiff, Nat.reduceBEq, Nat.reduceDiv, Nat.reduceMod, Int.reduceToNat, Int.reduceLT, Int.reduceLE, Int.reduceAdd, Int.reduceSub, Int.reduceMul, Int.reduceEq, Int.reduceNeg, reduceCtorEq, resV, resAll, ARes.ev, LV.flat, ite_true, ite_false, exists_eq_left', exists_eq_left, keyOf, implies_true, fillC, capOf]
              have hpe : pick x y z (fun d => decide (d ∈ pick x y z fun d => decide (d ∈ r)) || decide (d = ⟨ea, eb, ec⟩)) = pick x y z fun d => decide (d ∈ r ++ [⟨ea, eb, ec⟩]) := pick_congr hS fun d hd => by
                rw [Bool.eq_iff_iff, Bool.or_eq_true, decide_eq_true_iff, decide_eq_true_iff, decide_eq_true_iff, mem_pick hS, decide_eq_true_iff, List.mem_append, List.mem_singleton]
                exact ⟨fun h => h.elim (fun h => .inl h.2) .inr, fun h => h.elim (fun h => .inl ⟨hd, h⟩) .inr⟩
              rw [hpe] at ds k2
              refine ⟨m2 - 1, by omega, k + 1, N3.length + 1, sn, r ++ [⟨ea, eb, ec⟩], by omega, by simp at hnl ⊢; omega, hout.add hk6 hnl hst hin (decide_eq_false hcs) hr, pre_step hpre3 (by omega) l1 l3, live_step d1 (by omega) l3, live_step ds (by omega) l3, live_step k2 (by omega) l3, live_step d5 (by omega) l3, by rw [← List.append_assoc]; exact l2, by omega, by omega, by omega, f1, f3, by rw [← List.append_assoc]; rfl, f5, f9, eqI (natI _)⟩
        · simp (disch := omega) only [f1, f3, f4, f5, f9, f10, hin, ↓SXd, SXu, slBounds, ↓sop, ↓aop, ↓reduceIte, LV.cells, AOp.dst, LV.I, LV.B, LV.U, LV.S, LV.nil, Nat.reduceEqDiff, Nat.reduceAdd, Nat.reduceMul, Nat.reduceSub, Nat.reduceLeDiff, Nat.reduceBEq, Nat.reduceDiv, Nat.reduceMod, Int.reduceToNat, Int.reduceLT, Int.reduceLE, Int.reduceAdd, Int.reduceSub, Int.reduceMul, Int.reduceEq, Int.reduceNeg, reduceCtorEq, resV, resAll, ARes.ev, LV.flat, ite_true, ite_false, exists_eq_left', exists_eq_left, keyOf, implies_true, fillC, capOf]
          exact ⟨m2 - 1, by omega, k + 1, u, s, r, by omega, hnl, hskip (by simp [hin]), hpre1, c1, cs', c3, c5, cu, hus, hu, hs, f1, f3, f4, f5, f9, eqI (natI _)⟩
      · simp (disch := omega) only [f1, f3, f4, f5, f9, f10, ↓SXd, SXu, slBounds, ↓sop, ↓aop, ↓reduceIte, LV.cells, AOp.dst, LV.I, LV.B, LV.U, LV.S, LV.nil, Nat.reduceEqDiff, Nat.reduceAdd, Nat.reduceMul, Nat.reduceSub, Nat.reduceLeDiff, Nat.reduceBEq, Nat.reduceDiv, Nat.reduceMod, Int.reduceToNat, Int.reduceLT, Int.reduceLE, Int.reduceAdd, Int.reduceSub, Int.reduceMul, Int.reduceEq, Int.reduceNeg, reduceCtorEq, resV, resAll, ARes.ev, LV.flat, ite_true, ite_false, exists_eq_left', exists_eq_left, keyOf, implies_true, fillC, capOf]
        have : k = 6 := by omega
        subst this
        have hrl := nodup_len hS hout.nodup fun d hd => (hout.mem d hd).1
        have hll : (l ++ r).length = l.length + r.length := List.length_append
        exact ⟨m - 1, by omega, n + 1, u, s, r, by omega, by omega, hout.next, hpre, b1, bs, b3, b5, bu, hus, hu, hs, f1, f3, f4, f5, eqI (natI _)⟩
    · have hfin := fun d hd => hout.final (d := d) (by omega) hd
      clear f4 f5 f9
      simp (disch := omega) only [f1, f3, b1.app.cells, ↓SXd, SXu, slBounds, ↓sop, ↓aop, ↓reduceIte, LV.cells, AOp.dst, LV.I, LV.B, LV.U, LV.S, LV.nil, Nat.reduceEqDiff, Nat.reduceAdd, Nat.reduceMul, Nat.reduceSub, Nat.reduceLeDiff, Nat.reduceBEq, Nat.reduceDiv, Nat.reduceMod, Int.reduceToNat, Int.reduceLT, Int.reduceLE, Int.reduceAdd, Int.reduceSub, Int.reduceMul, Int.reduceEq, Int.reduceNeg, reduceCtorEq, resV, resAll, ARes.ev, LV.flat, ite_true, ite_false, exists_eq_left', exists_eq_left, keyOf, implies_true, fillC, capOf]
      have hlN := b5.lt
      refine callN_of (h_l2All hS) ?_
      intro ta N2 hta hp2 har
      have hv := vol_cast hS
      have hcl : (cellsOf x y z).length = vol x y z := by simp [cellsOf]
      simp only [List.length_append, List.length_singleton] at hta
      have hN2 := hp2.1
      simp only [List.length_append, List.length_singleton] at hN2
      simp (disch := omega) only [f1, f3, ↓SXd, SXu, slBounds, ↓sop, ↓aop, ↓reduceIte, LV.cells, AOp.dst, LV.I, LV.B, LV.U, LV.S, LV.nil, Nat.reduceEqDiff, Nat.reduceAdd, Nat.reduceMul, Nat.reduceSub, Nat.reduceLeDiff, Nat.reduceBEq, Nat.reduceDiv, Nat.reduceMod, Int.reduceToNat, Int.reduceLT, Int.reduceLE, Int.reduceAdd, Int.reduceSub, Int.reduceMul, Int.reduceEq, Int.reduceNeg, reduceCtorEq, resV, resAll, ARes.ev, LV.flat, ite_true, ite_false, exists_eq_left', exists_eq_left, keyOf, implies_true, fillC, capOf]
      refine ev_loop (fun m fr N' => ∃ (i uo : Nat) (acc : List Cell), i + m = (cellsOf x y z).length ∧ acc = ((cellsOf x y z).take i).filter (closed x y z fun c => decide (c ∈ cs)) ∧ Pre M N' ∧ Live N' M.length (.row [.I x, .I y, .I z, .ref t 0 cs.length] true 0) ∧
        Live N' s (.row (triL (pick x y z fun d => decide (d ∈ r))) true 3) ∧ Live N' (M.length + 2) (.row [.I x, .I y, .I z, .ref s 0 (pick x y z fun d => decide (d ∈ r)).length] true 0) ∧
        Live N' ta (.row (triL (cellsOf x y z)) true 3) ∧ Live N' uo (.row (triL acc) true 3) ∧ uo ≠ ta ∧ uo ≠ s ∧ M.length ≤ uo ∧ ta < N'.length ∧ s < N'.length ∧
        fr 1 = .ptr M.length 0 ∧ fr 3 = .ptr (M.length + 2) 0 ∧ fr 12 = .ref uo 0 acc.length ∧ fr 13 = .ref ta 0 (cellsOf x y z).length ∧ fr 14 = .I i) (cellsOf x y z).length
        ⟨0, N.length, [], by omega, by simp, (hpre.trans (Pre.app _ _)).trans hp2, b1.app.pre hp2, bs.app.pre hp2, b3.app.pre hp2, har, Live.new.pre hp2, by omega, by have := bs.lt; omega, by omega, har.lt, by have := bs.lt; omega, f1, f3, rfl, rfl, rfl⟩ ?_
      clear f1 f3 hpre b1 bs b3 b5 bu har
      rintro m fr N' ⟨i, uo, acc, hi, hacc, hpre, b1, bs, b3, ba, bo, hne1, hne2, huo, hta', hs', f1, f3, f12, f13, f14⟩
      have hal : acc.length ≤ 64 := by
        have h1 := List.length_filter_le (closed x y z fun c => decide (c ∈ cs)) ((cellsOf x y z).take i)
        have h2 := List.length_take_le i (cellsOf x y z)
        rw [hacc]; omega
      simp (disch := omega) only [f1, f3, f12, f13, f14, ↓SXd, SXu, slBounds, ↓sop, ↓aop, ↓reduceIte, LV.cells, AOp.dst, LV.I, LV.B, LV.U, LV.S, LV.nil, Nat.reduceEqDiff, Nat.reduceAdd, Nat.reduceMul, Nat.reduceSub, Nat.reduceLeDiff, Nat.reduceBEq, Nat.reduceDiv, Nat.reduceMod, Int.reduceToNat, Int.reduceLT, Int.reduceLE, Int.reduceAdd, Int.reduceSub, Int.reduceMul, Int.reduceEq, Int.reduceNeg, reduceCtorEq, resV, resAll, ARes.ev, LV.flat, ite_true, ite_false, exists_eq_left', exists_eq_left, keyOf, implies_true, fillC, capOf]
      refine condC_dec (fun hlt => ?_) (fun hlt => ?_)
      · have hil : i < (cellsOf x y z).length := by omega
        have hcb := (mem_cellsOf hS).1 (getD_mem' (d := default) hil)
        have hci := ba.tri0 hil
        have hts : (cellsOf x y z).take (i + 1) = (cellsOf x y z).take i ++ [(cellsOf x y z).getD i default] := by
          rw [List.take_succ, List.getElem?_eq_getElem hil]; simp [hil]
        have hpl := pick_len hS fun d => decide (d ∈ r)
        have hTri : Tri N' t 0 cs := (h.pre hpre).has
        generalize (cellsOf x y z).getD i default = c at hcb hci hts
        have hmr : decide (c ∈ pick x y z fun d => decide (d ∈ r)) = outer x y z (fun c => decide (c ∈ cs)) c := by
          rw [Bool.eq_iff_iff, decide_eq_true_iff, mem_pick hS, decide_eq_true_iff, ← hfin c hcb]
          exact ⟨fun h => h.2, fun h => ⟨hcb, h⟩⟩
        have hstep : acc ++ (if closed x y z (fun c => decide (c ∈ cs)) c then [c] else []) = ((cellsOf x y z).take (i + 1)).filter (closed x y z fun c => decide (c ∈ cs)) := by
          rw [hts, List.filter_append, ← hacc, List.filter_cons, List.filter_nil]
        simp (disch := omega) only [f1, f3, f12, f13, f14, b1.cells, hci, Cell.row, ↓SXd, SXu, slBounds, ↓sop, ↓aop, ↓reduceIte, LV.cells, AOp.dst, LV.I, LV.B, LV.U, LV.S, LV.nil, Nat.reduceEqDiff, Nat.reduceAdd, Nat.reduceMul, Nat.reduceSub, Nat.reduceLeDiff, Nat.reduceBEq, Nat.reduceDiv, Nat.reduceMod, Int.reduceToNat, Int.reduceLT, Int.reduceLE, Int.reduceAdd, Int.reduceSub, Int.reduceMul, Int.reduceEq, Int.reduceNeg, reduceCtorEq, resV, resAll, ARes.ev, LV.flat, ite_true, ite_false, exists_eq_left', exists_eq_left, keyOf, implies_true, fillC, capOf]
        refine callK_of (h_l2Has hTri hn) ?_
        simp (disch := omega) only [f1, f3, f12, f13, f14, cell_eta, ↓SXd, SXu, slBounds, ↓sop, ↓aop, ↓reduceIte, LV.cells, AOp.dst, LV.I, LV.B, LV.U, LV.S, LV.nil, Nat.reduceEqDiff, Nat.reduceAdd, Nat.reduceMul, Nat.reduceSub, Nat.reduceLeDiff, Nat.reduceBEq, Nat.reduceDiv, Nat.reduceMod, Int.reduceToNat, Int.reduceLT, Int.reduceLE, Int.reduceAdd, Int.reduceSub, Int.reduceMul, Int.reduceEq, Int.reduceNeg, reduceCtorEq, resV, resAll, ARes.ev, LV.flat, ite_true, ite_false, exists_eq_left', exists_eq_left, keyOf, implies_true, fillC, capOf]
        by_cases hc : c ∈ cs
        · simp (disch := omega) only [f1, f3, f12, f13, f14, hc, ↓SXd, SXu, slBounds, ↓sop, ↓aop, ↓reduceIte, LV.cells, AOp.dst, LV.I, LV.B, LV.U, LV.S, LV.nil, Nat.reduceEqDiff, Nat.reduceAdd, Nat.reduceMul, Nat.reduceSub, Nat.reduceLeDiff, Nat.reduceBEq, Nat.reduceDiv, Nat.reduceMod, Int.reduceToNat, Int.reduceLT, Int.reduceLE, Int.reduceAdd, Int.reduceSub, Int.reduceMul, Int.reduceEq, Int.reduceNeg, reduceCtorEq, resV, resAll, ARes.ev, LV.flat, ite_true, ite_false, exists_eq_left', exists_eq_left, keyOf, implies_true, fillC, capOf]
          exact ⟨m - 1, by omega, i + 1, uo, acc, by omega, by rw [← hstep, if_neg (by unfold closed; simp [hc]), List.append_nil], hpre, b1, bs, b3, ba, bo, hne1, hne2, huo, hta', hs', f1, f3, f12, f13, eqI (natI _)⟩
        · simp (disch := omega) only [f1, f3, f12, f13, f14, hc, b3.cells, hci, Cell.row, ↓SXd, SXu, slBounds, ↓sop, ↓aop, ↓reduceIte, LV.cells, AOp.dst, LV.I, LV.B, LV.U, LV.S, LV.nil, Nat.reduceEqDiff, Nat.reduceAdd, Nat.reduceMul, Nat.reduceSub, Nat.reduceLeDiff, Nat.reduceBEq, Nat.reduceDiv, Nat.reduceMod, Int.reduceToNat, Int.reduceLT, Int.reduceLE, Int.reduceAdd, Int.reduceSub, Int.reduceMul, Int.reduceEq, Int.reduceNeg, reduceCtorEq, resV, resAll, ARes.ev, LV.flat, ite_true, ite_false, exists_eq_left', exists_eq_left, keyOf, implies_true, fillC, capOf]
          refine callK_of (h_l2Has bs.has (by omega)) ?_
          simp (disch := omega) only [f1, f3, f12, f13, f14, cell_eta, ↓SXd, SXu, slBounds, ↓sop, ↓aop, ↓reduceIte, LV.cells, AOp.dst, LV.I, LV.B, LV.U, LV.S, LV.nil, Nat.reduceEqDiff, Nat.reduceAdd, Nat.reduceMul, Nat.reduceSub, Nat.reduceLeDiff, Nat.reduceBEq, Nat.reduceDiv, Nat.reduceMod, Int.reduceToNat, Int.reduceLT, Int.reduceLE, Int.reduceAdd, Int.reduceSub, Int.reduceMul, Int.reduceEq, Int.reduceNeg, reduceCtorEq, resV, resAll, ARes.ev, LV.flat, ite_true, ite_false, exists_eq_left', exists_eq_left, keyOf, implies_true, fillC, capOf]
          rw [hmr]
          cases ho : outer x y z (fun c => decide (c ∈ cs)) c with
          | true =>
            simp (disch := omega) only [f1, f3, f12, f13, f14, ho, ↓SXd, SXu, slBounds, ↓sop, ↓aop, ↓reduceIte, LV.cells, AOp.dst, LV.I, LV.B, LV.U, LV.S, LV.nil, Nat.reduceEqDiff, Nat.reduceAdd, Nat.reduceMul, Nat.reduceSub, Nat.reduceLeDiff, Nat.reduceBEq, Nat.reduceDiv, Nat.reduceMod, Int.reduceToNat, Int.reduceLT, Int.reduceLE, Int.reduceAdd, Int.reduceSub, Int.reduceMul, Int.reduceEq, Int.reduceNeg, reduceCtorEq, resV, resAll, ARes.ev, LV.flat, ite_true, ite_false, exists_eq_left', exists_eq_left, keyOf, implies_true, fillC, capOf]
            exact ⟨m - 1, by omega, i + 1, uo, acc, by omega, by rw [← hstep, if_neg (by unfold closed; simp [ho]), List.append_nil], hpre, b1, bs, b3, ba, bo, hne1, hne2, huo, hta', hs', f1, f3, f12, f13, eqI (natI _)⟩
          | false =>
            simp (disch := omega) only [f1, f3, f12, f13, f14, ho, hci, Cell.row, splice, ↓SXd, SXu, slBounds, ↓sop, ↓aop, ↓reduceIte, LV.cells, AOp.dst, LV.I, LV.B, LV.U, LV.S, LV.nil, Nat.reduceEqDiff, Nat.reduceAdd, Nat.reduceMul, Nat.reduceSub, Nat.reduceLeDiff, Nat.reduceBEq, Nat.reduceDiv, Nat.reduceMod, Int.reduceToNat, Int.reduceLT, Int.reduceLE, Int.reduceAdd, Int.reduceSub, Int.reduceMul, Int.reduceEq, Int.reduceNeg, reduceCtorEq, resV, resAll, ARes.ev, LV.flat, ite_true, ite_false, exists_eq_left', exists_eq_left, keyOf, implies_true, fillC, capOf]
            refine appendK_cell bo (by omega) fun N5 l1 l2 l3 => ?_
            simp (disch := omega) only [f1, f3, f12, f13, f14, ↓SXd, SXu, slBounds, ↓sop, ↓aop, ↓reduceIte, LV.cells, AOp.dst, LV.I, LV.B, LV.U, LV.S, LV.nil, Nat.reduceEqDiff, Nat.reduceAdd, Nat.reduceMul, Nat.reduceSub, Nat.reduceLeDiff, Nat.reduceBEq, Nat.reduceDiv, Nat.reduceMod, Int.reduceToNat, Int.reduceLT, Int.reduceLE, Int.reduceAdd, Int.reduceSub, Int.reduceMul, Int.reduceEq, Int.reduceNeg, reduceCtorEq, resV, resAll, ARes.ev, LV.flat, ite_true, ite_false, exists_eq_left', exists_eq_left, keyOf, implies_true, fillC, capOf]
            rw [if_pos (by unfold closed; simp [ho, hc])] at hstep
            rw [cell_eta, hstep] at l2 ⊢
            exact ⟨m - 1, by omega, i + 1, _, _, by omega, rfl, pre_step hpre (by omega) l1 l3, live_step b1 (fun e => by have := b1.ne_esz bo (by decide); exact this e) l3, live_step bs (by omega) l3, live_step b3 (b3.ne_esz bo (by decide)) l3, live_step ba (by omega) l3, l2, by omega, by omega, by have := hpre.1; omega, by omega, by omega, f1, f3, rfl, f13, eqI (natI _)⟩
      · simp (disch := omega) only [f1, f3, f12, f13, f14, ↓SXd, SXu, slBounds, ↓sop, ↓aop, ↓reduceIte, LV.cells, AOp.dst, LV.I, LV.B, LV.U, LV.S, LV.nil, Nat.reduceEqDiff, Nat.reduceAdd, Nat.reduceMul, Nat.reduceSub, Nat.reduceLeDiff, Nat.reduceBEq, Nat.reduceDiv, Nat.reduceMod, Int.reduceToNat, Int.reduceLT, Int.reduceLE, Int.reduceAdd, Int.reduceSub, Int.reduceMul, Int.reduceEq, Int.reduceNeg, reduceCtorEq, resV, resAll, ARes.ev, LV.flat, ite_true, ite_false, exists_eq_left', exists_eq_left, keyOf, implies_true, fillC, capOf]
        have : i = (cellsOf x y z).length := by omega
        subst this
        rw [List.take_length] at hacc
        have : acc = pick x y z (closed x y z fun c => decide (c ∈ cs)) := hacc
        rw [← this]
        exact cmp_keepL hpre (by omega) bo (triL_lo acc) (by simp [rn, rn0, rn1])
end Go.Ab

/- The abstract code of some functions (written by a program of mine from the translation, by way of prepF). -/
namespace Go.Ab.C
open Go.Ab
end Go.Ab.C

/- That the program has this code. -/
namespace Go.Ab.K
open Go Go.Ab
end Go.Ab.K

/- Plain: how often a line of a box is met by cells of a list; cells that are alone in a line. -/
namespace Go.Ab
open Go
set_option linter.unusedSimpArgs false
set_option linter.unusedVariables false

def onLine (y z : Int) (d : Nat) (i : Nat) (c : Cell) : Bool := decide ((lineOf y z c d).toNat = i)
theorem fold_get {y z : Int} {d : Nat} : ∀ {cs : List Cell} {v : List Int} {i : Nat}, i < v.length → (cs.foldl (viewStep y z d) v).getD i 0 = v.getD i 0 + (cs.countP (onLine y z d i) : Nat)
  | [], v, i, _ => by simp
  | c :: cs, v, i, h => by
    rw [List.foldl_cons, fold_get (by simpa [viewStep] using h), List.countP_cons]
    unfold viewStep
    rw [getD_set]
    by_cases e : (lineOf y z c d).toNat = i
    · rw [if_pos ⟨e.symm, by omega⟩, show onLine y z d i c = true from decide_eq_true e]
      subst e; simp; omega
    · rw [if_neg (fun h => e h.1.symm), show onLine y z d i c = false from decide_eq_false e]
      simp
theorem viewL_get {x y z : Int} {d i : Nat} {cs : List Cell} (h : i < (linesOf x y z d).toNat) : (viewL x y z d cs).getD i 0 = (cs.countP (onLine y z d i) : Nat) := by
  unfold viewL
  rw [fold_get (by simpa using h)]
  simp [List.getD_eq_getElem?_getD, List.getElem?_replicate, h]

/-- A cell alone, among cells, in one of its lines of the first k directions. -/
def aloneK (y z : Int) (cs : List Cell) : Nat → Cell → Bool
  | 0, _ => false
  | k + 1, c => aloneK y z cs k c || decide (cs.countP (onLine y z k (lineOf y z c k).toNat) = 1)
/-- The lit lines of a shadow. -/
def litL (xs : List Int) (n : Nat) : List Nat := (List.range n).filter fun i => decide (xs.getD i 0 = 1)
def litTo (tp fr sd : List Int) (d i : Nat) : List (Nat × Nat) := ((List.range d).flatMap fun e => (litL (shdList e tp fr sd) (shdList e tp fr sd).length).map fun j => (e, j)) ++ (litL (shdList d tp fr sd) i).map fun j => (d, j)
def lits (tp fr sd : List Int) : List (Nat × Nat) := litTo tp fr sd 3 0
/-- The cells of p in a line. -/
def inLine (y z : Int) (p : Cell → Bool) (q : Nat × Nat) (c : Cell) : Bool := p c && onLine y z q.1 q.2 c
/-- The lines as sets. -/
def lineSets (x y z : Int) (p : Cell → Bool) (L : List (Nat × Nat)) : List LV := L.map fun q => .W (bs x y z (inLine y z p q))
/-- Among the first k lit lines one has the cell, and no other allowed one. -/
def mustTo (x y z : Int) (p : Cell → Bool) (L : List (Nat × Nat)) (c : Cell) : Bool := decide (∃ q ∈ L, (pick x y z (inLine y z p q)).length = 1 ∧ inLine y z p q c = true)
end Go.Ab

/- Plain: lit lines without a cube, as the reference lists them. -/
namespace Go.Ab
open Go
set_option linter.unusedSimpArgs false
set_option linter.unusedVariables false

def offL (tp fr : List Int) (d : Nat) : Nat := if d = 2 then 0 else if d = 1 then tp.length else tp.length + fr.length
/-- The place of a cell's line among all lines. -/
def gl (y z : Int) (tp fr : List Int) (d : Nat) (c : Cell) : Nat := offL tp fr d + (lineOf y z c d).toNat
def darkStep (y z : Int) (tp fr : List Int) (v : List Bool) (c : Cell) : List Bool := ((v.set (gl y z tp fr 2 c) false).set (gl y z tp fr 1 c) false).set (gl y z tp fr 0 c) false
def darkL (y z : Int) (tp fr sd : List Int) (cs : List Cell) : List Bool := cs.foldl (darkStep y z tp fr) ((tp ++ fr ++ sd).map fun n => decide (n = 1))
/-- Cells meet all lit lines. -/
def Meets (y z : Int) (L : List (Nat × Nat)) (cs : List Cell) : Prop := ∀ q ∈ L, ∃ c ∈ cs, onLine y z q.1 q.2 c = true
instance (y z : Int) (L : List (Nat × Nat)) (cs : List Cell) : Decidable (Meets y z L cs) := by unfold Meets; exact inferInstance
end Go.Ab

/- The abstract code of some functions (written by a program of mine from the translation, by way of prepF). -/
namespace Go.Ab.C
open Go.Ab
end Go.Ab.C

/- That the program has this code. -/
namespace Go.Ab.K
open Go Go.Ab
end Go.Ab.K

/- The abstract code of some functions (written by a program of mine from the translation, by way of prepF). -/
namespace Go.Ab.C
open Go.Ab
end Go.Ab.C

/- That the program has this code. -/
namespace Go.Ab.K
open Go Go.Ab
end Go.Ab.K

/- The abstract code of some functions (written by a program of mine from the translation, by way of prepF). -/
namespace Go.Ab.C
open Go.Ab
end Go.Ab.C

/- That the program has this code. -/
namespace Go.Ab.K
open Go Go.Ab
end Go.Ab.K

/- Contracts: lists of numbers that are the same; shadows of heaps, the reference's side. -/
namespace Go.Ab
open Go
set_option linter.unusedSimpArgs false
set_option linter.unusedVariables false

end Go.Ab

/- Contracts: shadows of heaps, the reference's side. -/
namespace Go.Ab
open Go
set_option linter.unusedSimpArgs false
set_option linter.unusedVariables false

def onesL (v : List Int) : List Int := v.map fun n => min n 1
theorem onesL_len (v : List Int) : (onesL v).length = v.length := List.length_map ..
def shdOf (x y z : Int) (d : Nat) (cs : List Cell) : List Int := onesL (viewL x y z d cs)
theorem shdOf_len {x y z : Int} {d : Nat} {cs : List Cell} : (shdOf x y z d cs).length = (linesOf x y z d).toNat := by unfold shdOf; rw [onesL_len, viewL_len]
end Go.Ab

/- Contracts: whether a heap has a shadow, the reference's side. -/
namespace Go.Ab
open Go
set_option linter.unusedSimpArgs false
set_option linter.unusedVariables false

theorem lines_le {x y z : Int} {d : Nat} (hS : Sides x y z) (hd : d < 3) : 1 ≤ linesOf x y z d ∧ linesOf x y z d ≤ 16 := by
  have := prod_le hS
  rcases (show d = 0 ∨ d = 1 ∨ d = 2 by omega) with rfl | rfl | rfl
  · exact this.2.2
  · exact this.2.1
  · exact this.1
section
variable {x y z : Int} {t o : Nat} {cs : List Cell} {M : Mem} (h : Tri M t o cs) (hH : HeapOK x y z cs)
include h hH
end

/-- A set of cells has a shadow. -/
def HasShd (x y z : Int) (tp fr sd : List Int) (cs : List Cell) : Prop := shdOf x y z 2 cs = tp ∧ shdOf x y z 1 cs = fr ∧ shdOf x y z 0 cs = sd
instance (x y z : Int) (tp fr sd : List Int) (cs : List Cell) : Decidable (HasShd x y z tp fr sd cs) := by unfold HasShd; exact inferInstance
end Go.Ab

/- Contracts: lit lines without a cube, the reference's side. -/
namespace Go.Ab
open Go
set_option linter.unusedSimpArgs false
set_option linter.unusedVariables false
set_option maxRecDepth 20000

def boolL (v : List Bool) : List LV := v.map LV.B
def stepTo (y z : Int) (tp fr : List Int) (V : List Bool) (c : Cell) : Nat → List Bool
  | 0 => V
  | k + 1 => (stepTo y z tp fr V c k).set (gl y z tp fr (2 - k) c) false
end Go.Ab

/- The abstract code of some functions (written by a program of mine from the translation, by way of prepF). -/
namespace Go.Ab.C
open Go.Ab
def spec_l2Box : AFn :=
 ⟨3, 16, [.cellN 6 4],
 .seq (.ops [(none, .alloc 6 [(.I 0), (.I 0), (.I 0), .nil])])
 (.seq (.ops [(none, .mv 8 (.t 0)),
 (none, .mv 9 (.t 1)),
 (none, .mv 10 (.t 2)),
 (none, .call (some 11) F.spec_l2Empty [(.t 8), (.t 9), (.t 10)]),
 (none, .alloc 7 [(.I 0), (.I 0), (.I 0), .nil]),
 (none, .store 4 (.t 7) (.t 11))])
 (.seq (.ops [(none, .loadN 12 4 (.t 7)),
 (none, .call (some 13) F.spec_l2All [(.t 12)]),
 (none, .fieldAddr 14 (.t 7) 3),
 (none, .store 1 (.t 14) (.t 13))])
 (.seq (.ops [(none, .loadN 15 4 (.t 7)),
 (none, .store 4 (.t 6) (.t 15))])
 (.ret))))⟩
end Go.Ab.C

/- That the program has this code. -/
namespace Go.Ab.K
open Go Go.Ab
theorem spec_l2Box : prepF Go.Proofs.Try.prog F.spec_l2Box = some C.spec_l2Box := by kernel_rfl
end Go.Ab.K

/- Contracts: full boxes of the reference. -/
namespace Go.Ab
open Go
set_option linter.unusedSimpArgs false
set_option linter.unusedVariables false
set_option maxRecDepth 20000

/-- A heap as a value, all of whose cells are new. -/
def HeapV (M : Mem) (x y z : Int) (cs : List Cell) (v : LV) (N : Mem) : Prop := ∃ u : Nat, v = .agg [.I x, .I y, .I z, .ref u 0 cs.length] ∧ Live N u (.row (triL cs) true 3) ∧ M.length ≤ u
theorem h_l2Box {x y z : Int} {M : Mem} (hS : Sides x y z) : CallsR PG F.spec_l2Box [.I x, .I y, .I z] M fun v N => HeapV M x y z (cellsOf x y z) v N ∧ Pre M N := by
  have hcl : (cellsOf x y z).length = vol x y z := by simp [cellsOf]
  refine callsR_run K.spec_l2Box rfl ?_
  simp (disch := omega) only [C.spec_l2Box, ↓SXd, SXu, slBounds, ↓sop, ↓aop, ↓reduceIte, LV.cells, AOp.dst, LV.I, LV.B, LV.U, LV.S, LV.nil, Nat.reduceEqDiff, Nat.reduceAdd, Nat.reduceMul, Nat.reduceSub, Nat.reduceLeDiff, Nat.reduceBEq, Nat.reduceDiv, Nat.reduceMod, Int.reduceToNat, Int.reduceLT, Int.reduceLE, Int.reduceAdd, Int.reduceSub, Int.reduceMul, Int.reduceEq, Int.reduceNeg, reduceCtorEq, resV, resAll, ARes.ev, LV.flat, ite_true, ite_false, exists_eq_left', exists_eq_left, keyOf, implies_true, fillC, capOf]
  refine callK_of (h_l2Empty) ?_
  simp (disch := omega) only [splice, ↓SXd, SXu, slBounds, ↓sop, ↓aop, ↓reduceIte, LV.cells, AOp.dst, LV.I, LV.B, LV.U, LV.S, LV.nil, Nat.reduceEqDiff, Nat.reduceAdd, Nat.reduceMul, Nat.reduceSub, Nat.reduceLeDiff, Nat.reduceBEq, Nat.reduceDiv, Nat.reduceMod, Int.reduceToNat, Int.reduceLT, Int.reduceLE, Int.reduceAdd, Int.reduceSub, Int.reduceMul, Int.reduceEq, Int.reduceNeg, reduceCtorEq, resV, resAll, ARes.ev, LV.flat, ite_true, ite_false, exists_eq_left', exists_eq_left, keyOf, implies_true, fillC, capOf]
  refine callK_of (h_l2All hS) ?_
  simp (disch := omega) only [splice, ↓SXd, SXu, slBounds, ↓sop, ↓aop, ↓reduceIte, LV.cells, AOp.dst, LV.I, LV.B, LV.U, LV.S, LV.nil, Nat.reduceEqDiff, Nat.reduceAdd, Nat.reduceMul, Nat.reduceSub, Nat.reduceLeDiff, Nat.reduceBEq, Nat.reduceDiv, Nat.reduceMod, Int.reduceToNat, Int.reduceLT, Int.reduceLE, Int.reduceAdd, Int.reduceSub, Int.reduceMul, Int.reduceEq, Int.reduceNeg, reduceCtorEq, resV, resAll, ARes.ev, LV.flat, ite_true, ite_false, exists_eq_left', exists_eq_left, keyOf, implies_true, fillC, capOf]
  exact ⟨⟨M.length + 3, rfl, Live.newj rfl, by omega⟩, Pre.app _ _⟩
end Go.Ab

/- Contracts: the heaps of few cubes that a law draws; mirrored heaps of the reference, in any direction. -/
namespace Go.Ab
open Go
set_option linter.unusedSimpArgs false
set_option linter.unusedVariables false
set_option maxRecDepth 20000

def negD (c : Cell) : Cell := ⟨max 0 (0 - c.a), max 0 (0 - c.b), max 0 (0 - c.c)⟩
end Go.Ab

/- The abstract code of some functions (written by a program of mine from the translation, by way of prepF). -/
namespace Go.Ab.C
open Go.Ab
end Go.Ab.C

/- That the program has this code. -/
namespace Go.Ab.K
open Go Go.Ab
end Go.Ab.K

/- The abstract code of some functions (written by a program of mine from the translation, by way of prepF). -/
namespace Go.Ab.C
open Go.Ab
end Go.Ab.C

/- That the program has this code. -/
namespace Go.Ab.K
open Go Go.Ab
end Go.Ab.K

/- The abstract code of some functions (written by a program of mine from the translation, by way of prepF). -/
namespace Go.Ab.C
open Go.Ab
end Go.Ab.C

/- That the program has this code. -/
namespace Go.Ab.K
open Go Go.Ab
end Go.Ab.K

/- Contracts: the program's turns. -/
namespace Go.Ab
open Go
set_option linter.unusedSimpArgs false
set_option linter.unusedVariables false

def ordersL : List Cell := [⟨0, 1, 2⟩, ⟨0, 2, 1⟩, ⟨1, 0, 2⟩, ⟨1, 2, 0⟩, ⟨2, 0, 1⟩, ⟨2, 1, 0⟩]
/-- The attempt at which an order's turns begin. -/
def nO (o : Nat) : Nat := if o = 0 then 8 else if o = 1 then 16 else if o = 2 then 24 else if o = 3 then 40 else if o = 4 then 48 else if o = 5 then 56 else 72
end Go.Ab

/- Contracts: the program's turned heaps. -/
namespace Go.Ab
open Go
set_option linter.unusedSimpArgs false
set_option linter.unusedVariables false

end Go.Ab

/- Contracts: the program's least boxes. -/
namespace Go.Ab
open Go
set_option linter.unusedSimpArgs false
set_option linter.unusedVariables false

def leC (a b : Cell) : Prop := a.a ≤ b.a ∧ a.b ≤ b.b ∧ a.c ≤ b.c
end Go.Ab

/- Plain words: the turns as a group; forms of turned heaps; symmetries and positions. -/
namespace Go.Ab
open Go
set_option linter.unusedSimpArgs false
set_option linter.unusedVariables false
set_option maxRecDepth 20000

def xorI (a b : Int) : Int := if a = b then 0 else 1
/-- First the one turn, then the other. -/
def behind (t u : Turn) : Turn := ⟨⟨t.fr.at u.fr.a, t.fr.at u.fr.b, t.fr.at u.fr.c⟩, ⟨xorI (t.fl.at u.fr.a) u.fl.a, xorI (t.fl.at u.fr.b) u.fl.b, xorI (t.fl.at u.fr.c) u.fl.c⟩⟩
def oneT : Turn := ⟨⟨0, 1, 2⟩, ⟨0, 0, 0⟩⟩
def invT (t : Turn) : Turn := (turns.find? fun u => decide (behind t u = oneT)).getD oneT
def Bit (n : Int) : Prop := n = 0 ∨ n = 1
def BitT (t : Turn) : Prop := Bit t.fl.a ∧ Bit t.fl.b ∧ Bit t.fl.c
instance (n : Int) : Decidable (Bit n) := by unfold Bit; exact inferInstance
instance (t : Turn) : Decidable (BitT t) := by unfold BitT; exact inferInstance
def turnS (x y z x' y' z' : Int) (T : Turn) (p : Cell) : Cell :=
  ⟨if T.fl.a = 1 then sideOf x' y' z' T.fr.a - sideOf x y z T.fr.a - p.at T.fr.a else p.at T.fr.a, if T.fl.b = 1 then sideOf x' y' z' T.fr.b - sideOf x y z T.fr.b - p.at T.fr.b else p.at T.fr.b, if T.fl.c = 1 then sideOf x' y' z' T.fr.c - sideOf x y z T.fr.c - p.at T.fr.c else p.at T.fr.c⟩
section
variable {x y z : Int} {cs : List Cell} (hH : HeapOK x y z cs) (h0 : 0 < cs.length)
include hH
include h0
end

section
variable {x y z : Int} {cs : List Cell} (hH : HeapOK x y z cs)
include hH
end

def mir2C (z : Int) (c : Cell) : Cell := ⟨c.a, c.b, z - 1 - c.c⟩
def mir2Hp (x y z : Int) (cs : List Cell) : List Cell := pick x y z fun d => decide (d ∈ cs.map (mir2C z))
end Go.Ab

/- Contracts: a form that a law draws; turned and mirrored heaps. -/
namespace Go.Ab
open Go
set_option linter.unusedSimpArgs false
set_option linter.unusedVariables false
set_option maxRecDepth 20000

/-- What TurnHeap answers. -/
noncomputable def turnOf (x y z : Int) (cs : List Cell) (k : Int) : Option Hp := by
  classical
  exact if HeapOK x y z cs ∧ (0 ≤ k ∧ k ≤ 23) then some (turnHp x y z (turns.getD k.toNat oneT) cs) else none
/-- A heap and true. -/
def HeapT (M : Mem) (r : Hp) (v : LV) (N : Mem) : Prop := ∃ u : Nat, v = .tup [.agg [.I r.x, .I r.y, .I r.z, .ref u 0 r.cs.length], .B true] ∧ Live N u (.row (triL r.cs) true 3) ∧ M.length ≤ u
/-- Mirrored in a direction. -/
def mirDC (x y z : Int) (d : Int) (c : Cell) : Cell := ⟨if d = 0 then x - 1 - c.a else c.a, if d = 1 then y - 1 - c.b else c.b, if d = 2 then z - 1 - c.c else c.c⟩
def mirD (x y z : Int) (d : Int) (cs : List Cell) : List Cell := pick x y z fun e => decide (e ∈ cs.map (mirDC x y z d))
theorem Live.setN {N : Mem} {q k : Nat} {b : Blk} {v : Option Blk} (h : Live N q b) (hne : q ≠ k) : Live (N.set k v) q b := by
  unfold Live at *
  rw [List.getElem?_set_ne (by omega)]; exact h
theorem Live.only {M N : Mem} {q : Nat} {b0 : Blk} (h : Live M q b0) (k : Live N q b0) : ∀ b, M[q]? = some (some b) → N[q]? = some (some b) := fun b hb => by
  have e : some (some b0) = some (some b) := Eq.trans (Eq.symm h) hb
  cases e
  exact k
theorem Live.set_at {N : Mem} {k : Nat} {b : Blk} (h : k < N.length) : Live (N.set k (some b)) k b := by
  unfold Live
  rw [List.getElem?_set_self h]
theorem DrawN.setN {M N : Mem} {p t o a k : Nat} {bs : List Nat} {v : Option Blk} (h : DrawN M p t o bs a N) (hp : p < M.length) (ht : t < M.length) (hk : M.length ≤ k) : DrawN M p t o bs a (N.set k v) :=
  h.keep hp ht (Nat.le_refl _) (by simp) fun q q1 => List.getElem?_set_ne (by omega)
end Go.Ab

/- The abstract code of some functions (written by a program of mine from the translation, by way of prepF). -/
namespace Go.Ab.C
open Go.Ab
def impl_isDirection : AFn :=
 ⟨1, 5, [.tmp 2],
 .seq (.ops [(none, .mv 2 (.c (.B false)))])
 (.seq (.ops [(none, .mv 3 (.t 0)),
 (none, .call (some 4) F.impl_within [(.t 3), (.c (.I 0)), (.c (.I 2))]),
 (none, .mv 2 (.t 4))])
 (.ret))⟩
end Go.Ab.C

/- That the program has this code. -/
namespace Go.Ab.K
open Go Go.Ab
theorem impl_isDirection : prepF Go.Proofs.Try.prog F.impl_isDirection = some C.impl_isDirection := by kernel_rfl
end Go.Ab.K

/- The abstract code of some functions (written by a program of mine from the translation, by way of prepF). -/
namespace Go.Ab.C
open Go.Ab
end Go.Ab.C

/- That the program has this code. -/
namespace Go.Ab.K
open Go Go.Ab
end Go.Ab.K

/- The abstract code of some functions (written by a program of mine from the translation, by way of prepF). -/
namespace Go.Ab.C
open Go.Ab
end Go.Ab.C

/- That the program has this code. -/
namespace Go.Ab.K
open Go Go.Ab
end Go.Ab.K

/- The abstract code of some functions (written by a program of mine from the translation, by way of prepF). -/
namespace Go.Ab.C
open Go.Ab
end Go.Ab.C

/- That the program has this code. -/
namespace Go.Ab.K
open Go Go.Ab
end Go.Ab.K

/- Contracts: the program's order of heaps. -/
namespace Go.Ab
open Go
set_option linter.unusedSimpArgs false
set_option linter.unusedVariables false

def cmp3 (a b : Cell) : Int := cmpL [a.a, a.b, a.c] [b.a, b.b, b.c]
def cmpC : List Cell → List Cell → Int
  | [], [] => 0
  | [], _ :: _ => -1
  | _ :: _, [] => 1
  | a :: l, b :: m => if cmp3 a b ≠ 0 then cmp3 a b else cmpC l m
def cmpH (g h : Hp) : Int := if cmp3 g.dims h.dims ≠ 0 then cmp3 g.dims h.dims else cmpC g.cs h.cs
end Go.Ab

/- Contracts: the program's positions and forms. -/
namespace Go.Ab
open Go
set_option linter.unusedSimpArgs false
set_option linter.unusedVariables false

/-- Heaps, as the elements of a slice; each with the block of its cells. -/
def hrow (p : Nat × Hp) : List LV := [.I p.2.x, .I p.2.y, .I p.2.z, .ref p.1 0 p.2.cs.length]
def hpL (l : List (Nat × Hp)) : List LV := l.flatMap hrow
theorem hpL_len (l : List (Nat × Hp)) : (hpL l).length = l.length * 4 := by
  induction l with
  | nil => rfl
  | cons t l ih => rw [show hpL (t :: l) = hrow t ++ hpL l from rfl, List.length_append, ih, List.length_cons]; simp [hrow]; omega
theorem hpL_at {l : List (Nat × Hp)} : ∀ {k : Nat}, (hk : k < l.length) → ((hpL l).drop (k * 4)).take 4 = hrow l[k] := by
  induction l with
  | nil => intro k hk; simp at hk
  | cons t l ih =>
    intro k hk
    have e : hpL (t :: l) = hrow t ++ hpL l := rfl
    have hr : (hrow t).length = 4 := rfl
    cases k with
    | zero => rw [e, Nat.zero_mul, List.drop_zero, List.take_append_of_le_length (by omega), List.take_of_length_le (by omega)]; rfl
    | succ k =>
      rw [e, List.drop_append, List.drop_eq_nil_of_le (by omega), List.nil_append, hr, show (k + 1) * 4 - 4 = k * 4 by omega, ih (by simpa using hk)]
      rfl
theorem Live.hp {N : Mem} {t k e : Nat} {w : Bool} {l : List (Nat × Hp)} (h : Live N t (.row (hpL l) w e)) (hk : k < l.length) : getCells N t (k * 4) 4 = some (hrow l[k]) := by
  rw [h.cells, if_pos (by rw [hpL_len]; omega), hpL_at hk]
/-- All these heaps' cells are there, behind M. -/
def HpsOK (M N : Mem) (l : List (Nat × Hp)) : Prop := ∀ p ∈ l, Live N p.1 (.row (triL p.2.cs) true 3) ∧ M.length ≤ p.1 ∧ p.2.cs.length ≤ 64
theorem HpsOK.pre {M N N' : Mem} {l : List (Nat × Hp)} (h : HpsOK M N l) (hp : Pre N N') : HpsOK M N' l := fun p hpl => ⟨(h p hpl).1.pre hp, (h p hpl).2⟩

def bestP (b : Nat × Hp) (l : List (Nat × Hp)) : Nat × Hp := l.foldl (fun b n => if lessHp n.2 b.2 then n else b) b
/-- A form as a value: its cells are in a block behind M. -/
def FormRes (M : Mem) (f : Hp) (v : LV) (N : Mem) : Prop := ∃ u : Nat, v = .agg [.I f.x, .I f.y, .I f.z, .ref u 0 f.cs.length] ∧ M.length ≤ u ∧ Live N u (.row (triL f.cs) true 3) ∧ Pre M N
end Go.Ab

/- Contracts: the program's statements on forms. -/
namespace Go.Ab
open Go
set_option linter.unusedSimpArgs false
set_option linter.unusedVariables false

end Go.Ab

/- Contracts: the program's mirrored heaps; IsHanded. -/
namespace Go.Ab
open Go
set_option linter.unusedSimpArgs false
set_option linter.unusedVariables false

end Go.Ab

/- The abstract code of some functions (written by a program of mine from the translation, by way of prepF). -/
namespace Go.Ab.C
open Go.Ab
end Go.Ab.C

/- That the program has this code. -/
namespace Go.Ab.K
open Go Go.Ab
end Go.Ab.K

/- Contracts: the program's PositionsOf, AreSameForm, IsHanded. -/
namespace Go.Ab
open Go
set_option linter.unusedSimpArgs false
set_option linter.unusedVariables false

theorem SlI.lenV {N : Mem} {v : LV} {l : List Int} (h : SlI N v l) : lenV v = some (l.length : Int) := by
  rcases h with ⟨rfl, rfl⟩ | ⟨t, ex, rfl, _⟩ <;> rfl
end Go.Ab

/- The abstract code of some functions (written by a program of mine from the translation, by way of prepF). -/
namespace Go.Ab.C
open Go.Ab
end Go.Ab.C

/- That the program has this code. -/
namespace Go.Ab.K
open Go Go.Ab
end Go.Ab.K

/- Contracts: whether a number is one of a turn. -/
namespace Go.Ab
open Go
set_option linter.unusedSimpArgs false

def In24 (k : Int) : Prop := 0 ≤ k ∧ k ≤ 23
instance (k : Int) : Decidable (In24 k) := by unfold In24; exact inferInstance
end Go.Ab

/- Contracts: the laws' helpers that compare cells and heaps; the program's turned, mirrored, cropped heaps and forms, exactly. -/
namespace Go.Ab
open Go
set_option linter.unusedSimpArgs false
set_option linter.unusedVariables false
set_option maxRecDepth 20000

theorem CellsV.lenV {N : Mem} {v : LV} {l : List Cell} (h : CellsV N v l) : lenV v = some (l.length : Int) := by
  rcases h with ⟨rfl, rfl⟩ | ⟨t, o, rfl, _⟩ <;> rfl
theorem CellsV.at {N : Mem} {v : LV} {l : List Cell} {k : Nat} (h : CellsV N v l) (hk : k < l.length) : ∃ t o, v = .ref t o l.length ∧ getCells N t (o + k * 3) 3 = some (l.getD k default).row := by
  rcases h with ⟨rfl, rfl⟩ | ⟨t, o, rfl, h⟩
  · simp at hk
  · exact ⟨t, o, rfl, Tri.get h hk⟩
theorem list_ext {α : Type} {l l' : List α} {d : α} (hl : l.length = l'.length) (h : ∀ j, j < l.length → l.getD j d = l'.getD j d) : l = l' := by
  apply List.ext_getElem hl
  intro i h2 h3
  have := h i h2
  simpa [h2, h3] using this
theorem k_rCells {l l' : List Cell} {v v' : LV} {M : Mem} (h : CellsV M v l) (h' : CellsV M v' l') (hn : l.length ≤ 1000000000) (hn' : l'.length ≤ 1000000000) : CallsTo PG F.laws_rCells [v, v'] M (.B (decide (l = l'))) M := by
  refine calls_run K.laws_rCells rfl ?_
  have hv := h.lenV
  have hv' := h'.lenV
  by_cases hl : (l.length : Int) = l'.length
  rotate_left
  · rw [decide_eq_false (fun e => hl (by rw [e]))]
    simp (disch := omega) only [C.laws_rCells, hv, hv', hl, ↓SXd, SXu, slBounds, ↓sop, ↓aop, ↓reduceIte, LV.cells, AOp.dst, LV.I, LV.B, LV.U, LV.S, LV.nil, Nat.reduceEqDiff, Nat.reduceAdd, Nat.reduceMul, Nat.reduceSub, Nat.reduceLeDiff, Nat.reduceBEq, Nat.reduceDiv, Nat.reduceMod, Int.reduceToNat, Int.reduceLT, Int.reduceLE, Int.reduceAdd, Int.reduceSub, Int.reduceMul, Int.reduceEq, Int.reduceNeg, reduceCtorEq, resV, resAll, ARes.ev, LV.flat, ite_true, ite_false, exists_eq_left', exists_eq_left, keyOf, implies_true, fillC, capOf]
    exact cmp_drop0 rfl
  have hln : l.length = l'.length := by omega
  simp (disch := omega) only [C.laws_rCells, hv, hv', hl, ↓SXd, SXu, slBounds, ↓sop, ↓aop, ↓reduceIte, LV.cells, AOp.dst, LV.I, LV.B, LV.U, LV.S, LV.nil, Nat.reduceEqDiff, Nat.reduceAdd, Nat.reduceMul, Nat.reduceSub, Nat.reduceLeDiff, Nat.reduceBEq, Nat.reduceDiv, Nat.reduceMod, Int.reduceToNat, Int.reduceLT, Int.reduceLE, Int.reduceAdd, Int.reduceSub, Int.reduceMul, Int.reduceEq, Int.reduceNeg, reduceCtorEq, resV, resAll, ARes.ev, LV.flat, ite_true, ite_false, exists_eq_left', exists_eq_left, keyOf, implies_true, fillC, capOf]
  refine ev_loop (fun m fr M' => ∃ k : Nat, k + m = l.length ∧ M' = M ∧ fr 0 = v ∧ fr 1 = v' ∧ fr 5 = .I k ∧ ∀ j, j < k → l.getD j default = l'.getD j default) l.length ⟨0, by omega, rfl, rfl, rfl, rfl, by omega⟩ ?_
  rintro m fr M' ⟨k, hk, rfl, h0, h1, h5, hj⟩
  simp (disch := omega) only [h0, h1, h5, hv, ↓SXd, SXu, slBounds, ↓sop, ↓aop, ↓reduceIte, LV.cells, AOp.dst, LV.I, LV.B, LV.U, LV.S, LV.nil, Nat.reduceEqDiff, Nat.reduceAdd, Nat.reduceMul, Nat.reduceSub, Nat.reduceLeDiff, Nat.reduceBEq, Nat.reduceDiv, Nat.reduceMod, Int.reduceToNat, Int.reduceLT, Int.reduceLE, Int.reduceAdd, Int.reduceSub, Int.reduceMul, Int.reduceEq, Int.reduceNeg, reduceCtorEq, resV, resAll, ARes.ev, LV.flat, ite_true, ite_false, exists_eq_left', exists_eq_left, keyOf, implies_true, fillC, capOf]
  refine condC_dec (fun hlt => ?_) (fun hlt => ?_)
  · obtain ⟨t, o, rfl, hg⟩ := h.at (k := k) (by omega)
    obtain ⟨t', o', rfl, hg'⟩ := h'.at (k := k) (by omega)
    simp (disch := omega) only [h0, h1, h5, hg, hg', Cell.row, eqV, eqC, if_true, ite_true, Bool.and_true, ↓SXd, SXu, slBounds, ↓sop, ↓aop, ↓reduceIte, LV.cells, AOp.dst, LV.I, LV.B, LV.U, LV.S, LV.nil, Nat.reduceEqDiff, Nat.reduceAdd, Nat.reduceMul, Nat.reduceSub, Nat.reduceLeDiff, Nat.reduceBEq, Nat.reduceDiv, Nat.reduceMod, Int.reduceToNat, Int.reduceLT, Int.reduceLE, Int.reduceAdd, Int.reduceSub, Int.reduceMul, Int.reduceEq, Int.reduceNeg, reduceCtorEq, resV, resAll, ARes.ev, LV.flat, ite_true, ite_false, exists_eq_left', exists_eq_left, keyOf, implies_true, fillC, capOf]
    rw [beq3]
    by_cases he : l.getD k default = l'.getD k default
    · simp (disch := omega) only [h0, h1, h5, he, ↓SXd, SXu, slBounds, ↓sop, ↓aop, ↓reduceIte, LV.cells, AOp.dst, LV.I, LV.B, LV.U, LV.S, LV.nil, Nat.reduceEqDiff, Nat.reduceAdd, Nat.reduceMul, Nat.reduceSub, Nat.reduceLeDiff, Nat.reduceBEq, Nat.reduceDiv, Nat.reduceMod, Int.reduceToNat, Int.reduceLT, Int.reduceLE, Int.reduceAdd, Int.reduceSub, Int.reduceMul, Int.reduceEq, Int.reduceNeg, reduceCtorEq, resV, resAll, ARes.ev, LV.flat, ite_true, ite_false, exists_eq_left', exists_eq_left, keyOf, implies_true, fillC, capOf]
      exact ⟨m - 1, by omega, k + 1, by omega, rfl, h0, h1, eqI (natI _), fun j hj1 => by
        rcases Nat.lt_or_ge j k with h2 | h2
        · exact hj j h2
        · rw [show j = k by omega]; exact he⟩
    · simp (disch := omega) only [h0, h1, h5, he, ↓SXd, SXu, slBounds, ↓sop, ↓aop, ↓reduceIte, LV.cells, AOp.dst, LV.I, LV.B, LV.U, LV.S, LV.nil, Nat.reduceEqDiff, Nat.reduceAdd, Nat.reduceMul, Nat.reduceSub, Nat.reduceLeDiff, Nat.reduceBEq, Nat.reduceDiv, Nat.reduceMod, Int.reduceToNat, Int.reduceLT, Int.reduceLE, Int.reduceAdd, Int.reduceSub, Int.reduceMul, Int.reduceEq, Int.reduceNeg, reduceCtorEq, resV, resAll, ARes.ev, LV.flat, ite_true, ite_false, exists_eq_left', exists_eq_left, keyOf, implies_true, fillC, capOf]
      rw [decide_eq_false (fun e => he (by rw [e]))]
      exact cmp_drop0 rfl
  · simp (disch := omega) only [h0, h1, h5, ↓SXd, SXu, slBounds, ↓sop, ↓aop, ↓reduceIte, LV.cells, AOp.dst, LV.I, LV.B, LV.U, LV.S, LV.nil, Nat.reduceEqDiff, Nat.reduceAdd, Nat.reduceMul, Nat.reduceSub, Nat.reduceLeDiff, Nat.reduceBEq, Nat.reduceDiv, Nat.reduceMod, Int.reduceToNat, Int.reduceLT, Int.reduceLE, Int.reduceAdd, Int.reduceSub, Int.reduceMul, Int.reduceEq, Int.reduceNeg, reduceCtorEq, resV, resAll, ARes.ev, LV.flat, ite_true, ite_false, exists_eq_left', exists_eq_left, keyOf, implies_true, fillC, capOf]
    rw [decide_eq_true (list_ext hln fun j hj1 => hj j (by omega))]
    exact cmp_drop0 rfl
theorem k_rHeap {g h : Hp} {v v' : LV} {M : Mem} (hg : CellsV M v g.cs) (hh : CellsV M v' h.cs) (hn : g.cs.length ≤ 1000000000) (hn' : h.cs.length ≤ 1000000000) :
    CallsTo PG F.laws_rHeap [.agg [.I g.x, .I g.y, .I g.z, v], .agg [.I h.x, .I h.y, .I h.z, v']] M (.B (decide (g.dims = h.dims ∧ g.cs = h.cs))) M := by
  refine calls_run K.laws_rHeap rfl ?_
  by_cases h1 : g.x = h.x
  rotate_left
  · rw [decide_eq_false (fun e => h1 (congrArg Cell.a e.1))]
    simp (disch := omega) only [C.laws_rHeap, h1, ↓SXd, SXu, slBounds, ↓sop, ↓aop, ↓reduceIte, LV.cells, AOp.dst, LV.I, LV.B, LV.U, LV.S, LV.nil, Nat.reduceEqDiff, Nat.reduceAdd, Nat.reduceMul, Nat.reduceSub, Nat.reduceLeDiff, Nat.reduceBEq, Nat.reduceDiv, Nat.reduceMod, Int.reduceToNat, Int.reduceLT, Int.reduceLE, Int.reduceAdd, Int.reduceSub, Int.reduceMul, Int.reduceEq, Int.reduceNeg, reduceCtorEq, resV, resAll, ARes.ev, LV.flat, ite_true, ite_false, exists_eq_left', exists_eq_left, keyOf, implies_true, fillC, capOf]
    exact cmp_drop rfl
  by_cases h2 : g.y = h.y
  rotate_left
  · rw [decide_eq_false (fun e => h2 (congrArg Cell.b e.1))]
    simp (disch := omega) only [C.laws_rHeap, h1, h2, ↓SXd, SXu, slBounds, ↓sop, ↓aop, ↓reduceIte, LV.cells, AOp.dst, LV.I, LV.B, LV.U, LV.S, LV.nil, Nat.reduceEqDiff, Nat.reduceAdd, Nat.reduceMul, Nat.reduceSub, Nat.reduceLeDiff, Nat.reduceBEq, Nat.reduceDiv, Nat.reduceMod, Int.reduceToNat, Int.reduceLT, Int.reduceLE, Int.reduceAdd, Int.reduceSub, Int.reduceMul, Int.reduceEq, Int.reduceNeg, reduceCtorEq, resV, resAll, ARes.ev, LV.flat, ite_true, ite_false, exists_eq_left', exists_eq_left, keyOf, implies_true, fillC, capOf]
    exact cmp_drop rfl
  by_cases h3 : g.z = h.z
  rotate_left
  · rw [decide_eq_false (fun e => h3 (congrArg Cell.c e.1))]
    simp (disch := omega) only [C.laws_rHeap, h1, h2, h3, ↓SXd, SXu, slBounds, ↓sop, ↓aop, ↓reduceIte, LV.cells, AOp.dst, LV.I, LV.B, LV.U, LV.S, LV.nil, Nat.reduceEqDiff, Nat.reduceAdd, Nat.reduceMul, Nat.reduceSub, Nat.reduceLeDiff, Nat.reduceBEq, Nat.reduceDiv, Nat.reduceMod, Int.reduceToNat, Int.reduceLT, Int.reduceLE, Int.reduceAdd, Int.reduceSub, Int.reduceMul, Int.reduceEq, Int.reduceNeg, reduceCtorEq, resV, resAll, ARes.ev, LV.flat, ite_true, ite_false, exists_eq_left', exists_eq_left, keyOf, implies_true, fillC, capOf]
    exact cmp_drop rfl
  have hd : g.dims = h.dims := by unfold Hp.dims; rw [h1, h2, h3]
  simp (disch := omega) only [C.laws_rHeap, h1, h2, h3, ↓SXd, SXu, slBounds, ↓sop, ↓aop, ↓reduceIte, LV.cells, AOp.dst, LV.I, LV.B, LV.U, LV.S, LV.nil, Nat.reduceEqDiff, Nat.reduceAdd, Nat.reduceMul, Nat.reduceSub, Nat.reduceLeDiff, Nat.reduceBEq, Nat.reduceDiv, Nat.reduceMod, Int.reduceToNat, Int.reduceLT, Int.reduceLE, Int.reduceAdd, Int.reduceSub, Int.reduceMul, Int.reduceEq, Int.reduceNeg, reduceCtorEq, resV, resAll, ARes.ev, LV.flat, ite_true, ite_false, exists_eq_left', exists_eq_left, keyOf, implies_true, fillC, capOf]
  refine callK_of (k_rCells (hg.pre (Pre.app _ _)) (hh.pre (Pre.app _ _)) hn hn') ?_
  simp (disch := omega) only [↓SXd, SXu, slBounds, ↓sop, ↓aop, ↓reduceIte, LV.cells, AOp.dst, LV.I, LV.B, LV.U, LV.S, LV.nil, Nat.reduceEqDiff, Nat.reduceAdd, Nat.reduceMul, Nat.reduceSub, Nat.reduceLeDiff, Nat.reduceBEq, Nat.reduceDiv, Nat.reduceMod, Int.reduceToNat, Int.reduceLT, Int.reduceLE, Int.reduceAdd, Int.reduceSub, Int.reduceMul, Int.reduceEq, Int.reduceNeg, reduceCtorEq, resV, resAll, ARes.ev, LV.flat, ite_true, ite_false, exists_eq_left', exists_eq_left, keyOf, implies_true, fillC, capOf]
  rw [show decide (g.dims = h.dims ∧ g.cs = h.cs) = decide (g.cs = h.cs) from decide_eq_decide.2 ⟨fun e => e.2, fun e => ⟨hd, e⟩⟩]
  exact cmp_drop rfl
section
variable {x y z : Int} {t : Nat} {w : Bool} {cs : List Cell} {M : Mem} (h : Live M t (.row (triL cs) w 3)) (hH : HeapOK x y z cs)
include h hH
end
end Go.Ab

/- The abstract code of some functions (written by a program of mine from the translation, by way of prepF). -/
namespace Go.Ab.C
open Go.Ab
def impl_ShadowsOf : AFn :=
 ⟨1, 13, [.cellN 2 6, .tmp 3],
 .seq (.ops [(none, .box 1 (.t 0)),
 (none, .alloc 2 [(.I 0), (.I 0), (.I 0), .nil, .nil, .nil]),
 (none, .mv 3 (.c (.B false)))])
 (.seq (.seq (.ops [(none, .loadN 4 4 (.t 1)),
 (none, .call (some 5) F.impl_IsHeap [(.t 4)]),
 (none, .un 6 .not (.t 5))])
 (.cond (.t 6) (.seq (.ops [(none, .build 7 [(.I 0), (.I 0), (.I 0), .nil, .nil, .nil] []),
 (none, .store 6 (.t 2) (.t 7)),
 (none, .mv 3 (.c (.B false)))])
 (.ret))
 (.skip)))
 (.seq (.draw [⟨(none, .loadN 8 4 (.t 1)), [], []⟩,
 ⟨(none, .loadN 10 4 (.t 1)), [], []⟩,
 ⟨(none, .call (some 9) F.impl_Heap_box [(.t 8)]), [], [1]⟩,
 ⟨(none, .call (some 11) F.impl_Heap_cubes [(.t 10)]), [], []⟩,
 ⟨(none, .call (some 12) F.impl_box_shadow [(.t 9), (.t 11)]), [], []⟩,
 ⟨(none, .store 6 (.t 2) (.t 12)), [], []⟩,
 ⟨(none, .mv 3 (.c (.B true))), [], []⟩])
 (.ret)))⟩
end Go.Ab.C

/- That the program has this code. -/
namespace Go.Ab.K
open Go Go.Ab
theorem impl_ShadowsOf : prepF Go.Proofs.Try.prog F.impl_ShadowsOf = some C.impl_ShadowsOf := by kernel_rfl
end Go.Ab.K

/- The abstract code of some functions (written by a program of mine from the translation, by way of prepF). -/
namespace Go.Ab.C
open Go.Ab
end Go.Ab.C

/- That the program has this code. -/
namespace Go.Ab.K
open Go Go.Ab
end Go.Ab.K

/- The abstract code of some functions (written by a program of mine from the translation, by way of prepF). -/
namespace Go.Ab.C
open Go.Ab
end Go.Ab.C

/- That the program has this code. -/
namespace Go.Ab.K
open Go Go.Ab
end Go.Ab.K

/- The abstract code of some functions (written by a program of mine from the translation, by way of prepF). -/
namespace Go.Ab.C
open Go.Ab
end Go.Ab.C

/- That the program has this code. -/
namespace Go.Ab.K
open Go Go.Ab
end Go.Ab.K

/- The abstract code of some functions (written by a program of mine from the translation, by way of prepF). -/
namespace Go.Ab.C
open Go.Ab
def impl_box_shadow : AFn :=
 ⟨2, 50, [.cellN 4 6],
 .seq (.ops [(none, .box 2 (.t 0)),
 (none, .alloc 4 [(.I 0), (.I 0), (.I 0), .nil, .nil, .nil])])
 (.seq (.ops [(none, .build 9 [.nil, .nil, .nil] []),
 (none, .alloc 5 [.nil, .nil, .nil]),
 (none, .store 3 (.t 5) (.t 9))])
 (.seq (.seq (.ops [(none, .mv 10 (.c (.I 0)))])
 (.block 0 (.loop (.seq (.ops [(none, .bin 11 .lss (.t 10) (.c (.I 3)))])
 (.seq (.cond (.t 11) (.skip)
 (.exit 0))
 (.seq (.block 1 (.seq (.ops [(none, .mv 12 (.t 10)),
 (none, .mv 6 (.t 12))])
 (.seq (.ops [(none, .mv 13 (.t 6)),
 (none, .loadN 14 3 (.t 2)),
 (none, .mv 15 (.t 1)),
 (none, .mv 16 (.t 6)),
 (none, .call (some 17) F.impl_box_view [(.t 14), (.t 15), (.t 16)]),
 (none, .idxA 18 3 1 (.t 5) (.t 13)),
 (none, .store 1 (.t 18) (.t 17))])
 (.seq (.ops [(none, .mv 19 (.t 6)),
 (none, .idxA 20 3 1 (.t 5) (.t 19)),
 (none, .load1 21 (.t 20)),
 (none, .len 22 (.t 21)),
 (none, .mv 23 (.c (.I 0)))])
 (.block 2 (.loop (.seq (.ops [(none, .bin 24 .lss (.t 23) (.t 22))])
 (.seq (.cond (.t 24) (.skip)
 (.exit 2))
 (.seq (.block 3 (.seq (.ops [(none, .mv 25 (.t 23)),
 (none, .idxS 26 1 (.t 21) (.t 23)),
 (none, .load1 27 (.t 26)),
 (none, .mv 7 (.t 25)),
 (none, .mv 8 (.t 27))])
 (.ops [(none, .mv 28 (.t 6)),
 (none, .idxA 29 3 1 (.t 5) (.t 28)),
 (none, .load1 30 (.t 29)),
 (none, .mv 31 (.t 7)),
 (none, .mv 32 (.t 8)),
 (none, .mm 33 false [(.t 32), (.c (.I 1))]),
 (none, .idxS 34 1 (.t 30) (.t 31)),
 (none, .store 1 (.t 34) (.t 33))])))
 (.ops [(none, .bin 35 .add (.t 23) (.c (.I 1))),
 (none, .mv 23 (.t 35))]))))))))))
 (.ops [(none, .bin 36 .add (.t 10) (.c (.I 1))),
 (none, .mv 10 (.t 36))])))))))
 (.seq (.ops [(none, .idxA 37 3 1 (.t 2) (.c (.I 0))),
 (none, .load1 38 (.t 37)),
 (none, .idxA 39 3 1 (.t 2) (.c (.I 1))),
 (none, .load1 40 (.t 39)),
 (none, .idxA 41 3 1 (.t 2) (.c (.I 2))),
 (none, .load1 42 (.t 41)),
 (none, .idxA 43 3 1 (.t 5) (.c (.I 2))),
 (none, .load1 44 (.t 43)),
 (none, .idxA 45 3 1 (.t 5) (.c (.I 1))),
 (none, .load1 46 (.t 45)),
 (none, .idxA 47 3 1 (.t 5) (.c (.I 0))),
 (none, .load1 48 (.t 47)),
 (none, .build 49 [(.I 0), (.I 0), (.I 0), .nil, .nil, .nil] [(0, 1, (.t 38)), (1, 1, (.t 40)), (2, 1, (.t 42)), (3, 1, (.t 44)), (4, 1, (.t 46)), (5, 1, (.t 48))]),
 (none, .store 6 (.t 4) (.t 49))])
 (.ret))))⟩
end Go.Ab.C

/- That the program has this code. -/
namespace Go.Ab.K
open Go Go.Ab
theorem impl_box_shadow : prepF Go.Proofs.Try.prog F.impl_box_shadow = some C.impl_box_shadow := by kernel_rfl
end Go.Ab.K

/- Contracts: shadows of sets, the program's side. -/
namespace Go.Ab
open Go
set_option linter.unusedSimpArgs false
set_option linter.unusedVariables false
set_option maxRecDepth 20000

def onesTo (k : Nat) (v : List Int) : List Int := onesL (v.take k) ++ v.drop k
theorem onesTo_step {v : List Int} {k : Nat} (h : k < v.length) : (onesTo k v).set k (min (v.getD k 0) 1) = onesTo (k + 1) v := by
  have hl : (onesL (v.take k)).length = k := by rw [onesL_len]; simp; omega
  unfold onesTo
  have e : v.getD k 0 = v[k] := by simp [h]
  rw [List.set_append_right _ _ (by omega), hl, Nat.sub_self, List.drop_eq_getElem_cons h, List.set_cons_zero, List.take_succ, List.getElem?_eq_getElem h, e]
  simp only [onesL, List.map_append, Option.toList_some, List.map_cons, List.map_nil, List.append_assoc, List.cons_append, List.nil_append]
theorem onesTo_get {v : List Int} {k : Nat} (h : k < v.length) : (onesTo k v).getD k 0 = v.getD k 0 := by
  have hl : (onesL (v.take k)).length = k := by rw [onesL_len]; simp; omega
  unfold onesTo
  rw [List.getD_eq_getElem?_getD, List.getElem?_append_right (by omega), hl, Nat.sub_self, List.getElem?_drop]
  simp [h]
theorem onesTo_len {v : List Int} {k : Nat} : (onesTo k v).length = v.length := by
  unfold onesTo; rw [List.length_append, onesL_len, ← List.length_append, List.take_append_drop]

theorem g_shadow {x y z : Int} {p : Cell → Bool} {M : Mem} (hS : Sides x y z) : CallsR PG F.impl_box_shadow [.agg [.I x, .I y, .I z], .W (bs x y z p)] M
    (ShdRes M x y z (shdOf x y z 2 (pick x y z p)) (shdOf x y z 1 (pick x y z p)) (shdOf x y z 0 (pick x y z p))) := by
  refine callsR_run K.impl_box_shadow rfl ?_
  simp (disch := omega) only [C.impl_box_shadow, ↓SXd, SXu, slBounds, ↓sop, ↓aop, ↓reduceIte, LV.cells, AOp.dst, LV.I, LV.B, LV.U, LV.S, LV.nil, Nat.reduceEqDiff, Nat.reduceAdd, Nat.reduceMul, Nat.reduceSub, Nat.reduceLeDiff, Nat.reduceBEq, Nat.reduceDiv, Nat.reduceMod, Int.reduceToNat, Int.reduceLT, Int.reduceLE, Int.reduceAdd, Int.reduceSub, Int.reduceMul, Int.reduceEq, Int.reduceNeg, reduceCtorEq, resV, resAll, ARes.ev, LV.flat, ite_true, ite_false, exists_eq_left', exists_eq_left, keyOf, implies_true, fillC, capOf]
  refine ev_loop (fun m fr M' => ∃ (d : Nat) (vs : List LV), d + m = 3 ∧ Pre M M' ∧ Live M' M.length (.row [.I x, .I y, .I z] true 0) ∧ Live M' (M.length + 1) (.row [.I 0, .I 0, .I 0, .nil, .nil, .nil] true 0) ∧ Live M' (M.length + 2) (.row vs true 0) ∧ vs.length = 3 ∧
    fr 1 = .W (bs x y z p) ∧ fr 2 = .ptr M.length 0 ∧ fr 4 = .ptr (M.length + 1) 0 ∧ fr 5 = .ptr (M.length + 2) 0 ∧ fr 10 = .I d ∧ (∀ j, j < d → ∃ a, vs[j]? = some (.ref a 0 (shdOf x y z j (pick x y z p)).length) ∧ M.length + 2 < a ∧ Live M' a (.row (intL (shdOf x y z j (pick x y z p))) true 1)) ∧
    (∀ i j a b n m, i < d → j < d → i ≠ j → vs[i]? = some (.ref a 0 n) → vs[j]? = some (.ref b 0 m) → a ≠ b)) 3
    ⟨0, [.nil, .nil, .nil], rfl, Pre.app _ _, Live.new, Live.newj rfl, Live.newj rfl, rfl, rfl, rfl, rfl, rfl, rfl, by omega, by omega⟩ ?_
  rintro m fr M' ⟨d, vs, hd, hpre, b2, b4, b5, hvl, f1, f2, f4, f5, f10, hj, hne⟩
  simp (disch := omega) only [f1, f2, f4, f5, f10, ↓SXd, SXu, slBounds, ↓sop, ↓aop, ↓reduceIte, LV.cells, AOp.dst, LV.I, LV.B, LV.U, LV.S, LV.nil, Nat.reduceEqDiff, Nat.reduceAdd, Nat.reduceMul, Nat.reduceSub, Nat.reduceLeDiff, Nat.reduceBEq, Nat.reduceDiv, Nat.reduceMod, Int.reduceToNat, Int.reduceLT, Int.reduceLE, Int.reduceAdd, Int.reduceSub, Int.reduceMul, Int.reduceEq, Int.reduceNeg, reduceCtorEq, resV, resAll, ARes.ev, LV.flat, ite_true, ite_false, exists_eq_left', exists_eq_left, keyOf, implies_true, fillC, capOf]
  refine condC_dec (fun hlt => ?_) (fun hlt => ?_)
  · have hd3 : d < 3 := by omega
    have hll := lines_le hS hd3
    have hvw := viewL_len (x := x) (y := y) (z := z) (d := d) (cs := pick x y z p)
    simp (disch := omega) only [f1, f2, f4, f5, f10, b2.cells, ↓SXd, SXu, slBounds, ↓sop, ↓aop, ↓reduceIte, LV.cells, AOp.dst, LV.I, LV.B, LV.U, LV.S, LV.nil, Nat.reduceEqDiff, Nat.reduceAdd, Nat.reduceMul, Nat.reduceSub, Nat.reduceLeDiff, Nat.reduceBEq, Nat.reduceDiv, Nat.reduceMod, Int.reduceToNat, Int.reduceLT, Int.reduceLE, Int.reduceAdd, Int.reduceSub, Int.reduceMul, Int.reduceEq, Int.reduceNeg, reduceCtorEq, resV, resAll, ARes.ev, LV.flat, ite_true, ite_false, exists_eq_left', exists_eq_left, keyOf, implies_true, fillC, capOf]
    refine callN_of (g_view hS hd3) ?_
    intro t N ht hp2 hn
    have b52 := b5.pre hp2
    simp (disch := omega) only [f1, f2, f4, f5, f10, ↓SXd, SXu, slBounds, ↓sop, ↓aop, ↓reduceIte, LV.cells, AOp.dst, LV.I, LV.B, LV.U, LV.S, LV.nil, Nat.reduceEqDiff, Nat.reduceAdd, Nat.reduceMul, Nat.reduceSub, Nat.reduceLeDiff, Nat.reduceBEq, Nat.reduceDiv, Nat.reduceMod, Int.reduceToNat, Int.reduceLT, Int.reduceLE, Int.reduceAdd, Int.reduceSub, Int.reduceMul, Int.reduceEq, Int.reduceNeg, reduceCtorEq, resV, resAll, ARes.ev, LV.flat, ite_true, ite_false, exists_eq_left', exists_eq_left, keyOf, implies_true, fillC, capOf]
    refine memK_one b52 (by omega) fun N2 k1 k2 k3 => ?_
    have hb5 := b5.lt
    have hn2 := live_step hn (by omega) k3
    have hset : (vs.set d (.ref t 0 (viewL x y z d (pick x y z p)).length))[d]? = some (.ref t 0 (viewL x y z d (pick x y z p)).length) := by rw [List.getElem?_set_self (by omega)]
    simp (disch := omega) only [f1, f2, f4, f5, f10, k2.cell, hset, ↓SXd, SXu, slBounds, ↓sop, ↓aop, ↓reduceIte, LV.cells, AOp.dst, LV.I, LV.B, LV.U, LV.S, LV.nil, Nat.reduceEqDiff, Nat.reduceAdd, Nat.reduceMul, Nat.reduceSub, Nat.reduceLeDiff, Nat.reduceBEq, Nat.reduceDiv, Nat.reduceMod, Int.reduceToNat, Int.reduceLT, Int.reduceLE, Int.reduceAdd, Int.reduceSub, Int.reduceMul, Int.reduceEq, Int.reduceNeg, reduceCtorEq, resV, resAll, ARes.ev, LV.flat, ite_true, ite_false, exists_eq_left', exists_eq_left, keyOf, implies_true, fillC, capOf]
    have hpre2 : Pre M N2 := pre_step (hpre.trans hp2) (by omega) (j := 0) k1 k3
    have hk2 := live_step (b2.pre hp2) (by omega) k3
    have hk4 := live_step (b4.pre hp2) (by omega) k3
    have hj2 : ∀ j, j < d → ∃ a, (vs.set d (.ref t 0 (viewL x y z d (pick x y z p)).length))[j]? = some (.ref a 0 (shdOf x y z j (pick x y z p)).length) ∧ M.length + 2 < a ∧ a ≠ t ∧ Live N2 a (.row (intL (shdOf x y z j (pick x y z p))) true 1) := fun j hjd => by
      obtain ⟨a, h1, h2, h3⟩ := hj j hjd
      have := h3.lt
      exact ⟨a, by rw [List.getElem?_set_ne (by omega)]; exact h1, h2, by omega, live_step (h3.pre hp2) (by omega) k3⟩
    generalize hV : vs.set d (.ref t 0 (viewL x y z d (pick x y z p)).length) = V at k2 hset hj2
    have hVl : V.length = 3 := by rw [← hV]; simpa using hvl
    refine ev_loop (fun m2 fr2 M2 => ∃ i : Nat, i + m2 = (viewL x y z d (pick x y z p)).length ∧ Pre M M2 ∧ Live M2 M.length (.row [.I x, .I y, .I z] true 0) ∧ Live M2 (M.length + 1) (.row [.I 0, .I 0, .I 0, .nil, .nil, .nil] true 0) ∧ Live M2 (M.length + 2) (.row V true 0) ∧
      Live M2 t (.row (intL (onesTo i (viewL x y z d (pick x y z p)))) true 1) ∧ (∀ j, j < d → ∃ a, V[j]? = some (.ref a 0 (shdOf x y z j (pick x y z p)).length) ∧ M.length + 2 < a ∧ a ≠ t ∧ Live M2 a (.row (intL (shdOf x y z j (pick x y z p))) true 1)) ∧
      fr2 1 = .W (bs x y z p) ∧ fr2 2 = .ptr M.length 0 ∧ fr2 4 = .ptr (M.length + 1) 0 ∧ fr2 5 = .ptr (M.length + 2) 0 ∧ fr2 6 = .I d ∧ fr2 10 = .I d ∧ fr2 21 = .ref t 0 (viewL x y z d (pick x y z p)).length ∧ fr2 22 = .I (viewL x y z d (pick x y z p)).length ∧ fr2 23 = .I i) (viewL x y z d (pick x y z p)).length
      ⟨0, by omega, hpre2, hk2, hk4, k2, hn2, hj2, f1, f2, f4, f5, rfl, f10, rfl, rfl, rfl⟩ ?_
    rintro m2 fr2 M2 ⟨i, hi, p2, c2, c4, c5, ct, cj, g1, g2, g4, g5, g6, g10, g21, g22, g23⟩
    simp (disch := omega) only [g1, g2, g4, g5, g6, g10, g21, g22, g23, ↓SXd, SXu, slBounds, ↓sop, ↓aop, ↓reduceIte, LV.cells, AOp.dst, LV.I, LV.B, LV.U, LV.S, LV.nil, Nat.reduceEqDiff, Nat.reduceAdd, Nat.reduceMul, Nat.reduceSub, Nat.reduceLeDiff, Nat.reduceBEq, Nat.reduceDiv, Nat.reduceMod, Int.reduceToNat, Int.reduceLT, Int.reduceLE, Int.reduceAdd, Int.reduceSub, Int.reduceMul, Int.reduceEq, Int.reduceNeg, reduceCtorEq, resV, resAll, ARes.ev, LV.flat, ite_true, ite_false, exists_eq_left', exists_eq_left, keyOf, implies_true, fillC, capOf]
    refine condC_dec (fun hlt2 => ?_) (fun hlt2 => ?_)
    · have hil : i < (viewL x y z d (pick x y z p)).length := by omega
      have hol := onesTo_len (v := viewL x y z d (pick x y z p)) (k := i)
      have hg := Ints.get ct.has (k := i) (by omega)
      rw [onesTo_get hil, Nat.zero_add] at hg
      have hst := onesTo_step hil
      simp (disch := omega) only [g1, g2, g4, g5, g6, g10, g21, g22, g23, hg, Nat.mul_one, c5.cell, hset, maxV, if_true, ite_true, ↓SXd, SXu, slBounds, ↓sop, ↓aop, ↓reduceIte, LV.cells, AOp.dst, LV.I, LV.B, LV.U, LV.S, LV.nil, Nat.reduceEqDiff, Nat.reduceAdd, Nat.reduceMul, Nat.reduceSub, Nat.reduceLeDiff, Nat.reduceBEq, Nat.reduceDiv, Nat.reduceMod, Int.reduceToNat, Int.reduceLT, Int.reduceLE, Int.reduceAdd, Int.reduceSub, Int.reduceMul, Int.reduceEq, Int.reduceNeg, reduceCtorEq, resV, resAll, ARes.ev, LV.flat, ite_true, ite_false, exists_eq_left', exists_eq_left, keyOf, implies_true, fillC, capOf]
      refine memK_int (k := i) ct (by omega) fun N3 q1 q2 q3 => ?_
      simp (disch := omega) only [g1, g2, g4, g5, g6, g10, g21, g22, g23, ↓SXd, SXu, slBounds, ↓sop, ↓aop, ↓reduceIte, LV.cells, AOp.dst, LV.I, LV.B, LV.U, LV.S, LV.nil, Nat.reduceEqDiff, Nat.reduceAdd, Nat.reduceMul, Nat.reduceSub, Nat.reduceLeDiff, Nat.reduceBEq, Nat.reduceDiv, Nat.reduceMod, Int.reduceToNat, Int.reduceLT, Int.reduceLE, Int.reduceAdd, Int.reduceSub, Int.reduceMul, Int.reduceEq, Int.reduceNeg, reduceCtorEq, resV, resAll, ARes.ev, LV.flat, ite_true, ite_false, exists_eq_left', exists_eq_left, keyOf, implies_true, fillC, capOf]
      rw [hst] at q2
      exact ⟨m2 - 1, by omega, i + 1, by omega, pre_step p2 (by omega) (j := 0) q1 q3, live_step c2 (by omega) q3, live_step c4 (by omega) q3, live_step c5 (by omega) q3, q2, fun j hjd => by
        obtain ⟨a, h1, h2, h3, h4⟩ := cj j hjd
        exact ⟨a, h1, h2, h3, live_step h4 h3 q3⟩, g1, g2, g4, g5, g6, g10, g21, g22, eqI (natI _)⟩
    · simp (disch := omega) only [g1, g2, g4, g5, g6, g10, g21, g22, g23, ↓SXd, SXu, slBounds, ↓sop, ↓aop, ↓reduceIte, LV.cells, AOp.dst, LV.I, LV.B, LV.U, LV.S, LV.nil, Nat.reduceEqDiff, Nat.reduceAdd, Nat.reduceMul, Nat.reduceSub, Nat.reduceLeDiff, Nat.reduceBEq, Nat.reduceDiv, Nat.reduceMod, Int.reduceToNat, Int.reduceLT, Int.reduceLE, Int.reduceAdd, Int.reduceSub, Int.reduceMul, Int.reduceEq, Int.reduceNeg, reduceCtorEq, resV, resAll, ARes.ev, LV.flat, ite_true, ite_false, exists_eq_left', exists_eq_left, keyOf, implies_true, fillC, capOf]
      have : i = (viewL x y z d (pick x y z p)).length := by omega
      subst this
      have hfin : onesTo (viewL x y z d (pick x y z p)).length (viewL x y z d (pick x y z p)) = shdOf x y z d (pick x y z p) := by unfold onesTo shdOf; simp
      rw [hfin] at ct
      have hsl : (viewL x y z d (pick x y z p)).length = (shdOf x y z d (pick x y z p)).length := by unfold shdOf; rw [onesL_len]
      rw [hsl] at hset
      have hall : ∀ j, j < d + 1 → ∃ a, V[j]? = some (.ref a 0 (shdOf x y z j (pick x y z p)).length) ∧ M.length + 2 < a ∧ (j = d → a = t) ∧ (j < d → a ≠ t) ∧ Live M2 a (.row (intL (shdOf x y z j (pick x y z p))) true 1) := fun j hjd => by
        rcases Nat.lt_or_ge j d with h | h
        · obtain ⟨a, h1, h2, h3, h4⟩ := cj j h
          exact ⟨a, h1, h2, by omega, fun _ => h3, h4⟩
        · have : j = d := by omega
          subst this
          exact ⟨t, hset, by omega, fun _ => rfl, by omega, ct⟩
      refine ⟨m - 1, by omega, d + 1, V, by omega, p2, c2, c4, c5, hVl, g1, g2, g4, g5, eqI (natI _), fun j hjd => ?_, ?_⟩
      · obtain ⟨a, h1, h2, _, _, h4⟩ := hall j hjd
        exact ⟨a, h1, h2, h4⟩
      · intro i j a b n m hi hj' hij ha hb
        obtain ⟨a', h1, _, h3, h4, _⟩ := hall i hi
        obtain ⟨b', k1, _, k3, k4, _⟩ := hall j hj'
        rw [h1] at ha
        rw [k1] at hb
        simp only [Option.some.injEq, LV.ref.injEq] at ha hb
        rcases Nat.lt_or_ge i d with hi1 | hi1
        · rcases Nat.lt_or_ge j d with hj1 | hj1
          · have hVi : V[i]? = vs[i]? := by rw [← hV, List.getElem?_set_ne (by omega)]
            have hVj : V[j]? = vs[j]? := by rw [← hV, List.getElem?_set_ne (by omega)]
            rw [hVi, ← ha.1.symm] at h1
            rw [hVj, ← hb.1.symm] at k1
            rw [← ha.1, ← hb.1]
            exact hne i j a' b' _ _ hi1 hj1 hij (by rw [← hVi, ‹V[i]? = vs[i]?›]; rw [ha.1]; exact h1) (by rw [hb.1]; exact k1)
          · have := h4 hi1; have := k3 (by omega); omega
        · have := h3 (by omega); have := k4 (by omega); omega
  · simp (disch := omega) only [f1, f2, f4, f5, f10, ↓SXd, SXu, slBounds, ↓sop, ↓aop, ↓reduceIte, LV.cells, AOp.dst, LV.I, LV.B, LV.U, LV.S, LV.nil, Nat.reduceEqDiff, Nat.reduceAdd, Nat.reduceMul, Nat.reduceSub, Nat.reduceLeDiff, Nat.reduceBEq, Nat.reduceDiv, Nat.reduceMod, Int.reduceToNat, Int.reduceLT, Int.reduceLE, Int.reduceAdd, Int.reduceSub, Int.reduceMul, Int.reduceEq, Int.reduceNeg, reduceCtorEq, resV, resAll, ARes.ev, LV.flat, ite_true, ite_false, exists_eq_left', exists_eq_left, keyOf, implies_true, fillC, capOf]
    have : d = 3 := by omega
    subst this
    obtain ⟨a0, e0, _, l0⟩ := hj 0 (by omega)
    obtain ⟨a1, e1, _, l1⟩ := hj 1 (by omega)
    obtain ⟨a2, e2, _, l2⟩ := hj 2 (by omega)
    have n01 := hne 0 1 _ _ _ _ (by omega) (by omega) (by omega) e0 e1
    have n02 := hne 0 2 _ _ _ _ (by omega) (by omega) (by omega) e0 e2
    have n12 := hne 1 2 _ _ _ _ (by omega) (by omega) (by omega) e1 e2
    simp (disch := omega) only [f1, f2, f4, f5, f10, b2.cell, b5.cell, e0, e1, e2, splice, ↓SXd, SXu, slBounds, ↓sop, ↓aop, ↓reduceIte, LV.cells, AOp.dst, LV.I, LV.B, LV.U, LV.S, LV.nil, Nat.reduceEqDiff, Nat.reduceAdd, Nat.reduceMul, Nat.reduceSub, Nat.reduceLeDiff, Nat.reduceBEq, Nat.reduceDiv, Nat.reduceMod, Int.reduceToNat, Int.reduceLT, Int.reduceLE, Int.reduceAdd, Int.reduceSub, Int.reduceMul, Int.reduceEq, Int.reduceNeg, reduceCtorEq, resV, resAll, ARes.ev, LV.flat, ite_true, ite_false, exists_eq_left', exists_eq_left, keyOf, implies_true, fillC, capOf]
    refine memK_box b4 (by simp) fun N3 q1 q2 q3 => ?_
    simp (disch := omega) only [f1, f2, f4, f5, f10, q2.cells, ↓SXd, SXu, slBounds, ↓sop, ↓aop, ↓reduceIte, LV.cells, AOp.dst, LV.I, LV.B, LV.U, LV.S, LV.nil, Nat.reduceEqDiff, Nat.reduceAdd, Nat.reduceMul, Nat.reduceSub, Nat.reduceLeDiff, Nat.reduceBEq, Nat.reduceDiv, Nat.reduceMod, Int.reduceToNat, Int.reduceLT, Int.reduceLE, Int.reduceAdd, Int.reduceSub, Int.reduceMul, Int.reduceEq, Int.reduceNeg, reduceCtorEq, resV, resAll, ARes.ev, LV.flat, ite_true, ite_false, exists_eq_left', exists_eq_left, keyOf, implies_true, fillC, capOf]
    exact ⟨a2, a1, a0, rfl, by omega, by omega, by omega, Ne.symm n12, Ne.symm n02, Ne.symm n01, live_step l2 (by omega) q3, live_step l1 (by omega) q3, live_step l0 (by omega) q3, pre_step hpre (by omega) (j := 0) q1 q3⟩
end Go.Ab
