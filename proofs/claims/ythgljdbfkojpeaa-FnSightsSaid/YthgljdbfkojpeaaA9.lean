/- Parts of the proof of FnSightsSaid: Bh C_El K_El C_Ek K_Ek Ek El Bk Bl C_Bm K_Bm. -/
import Derived.Test.YthgljdbfkojpeaaA8
import Derived.Test.YthgljdbfkojpeaaA4
import Derived.Test.YthgljdbfkojpeaaA7
import Derived.Test.YthgljdbfkojpeaaA6
import Derived.Test.YthgljdbfkojpeaaA3
import Derived.Test.YthgljdbfkojpeaaProg
import Derived.KernelRfl
set_option linter.all false
/- Contracts: lines of columns, sights and sky lines of the reference. -/
namespace Go.Ab
open Go
set_option linter.unusedSimpArgs false
set_option linter.unusedVariables false
set_option maxRecDepth 20000

/-- A list of numbers that may be read, and a truth. -/
def IntsQ (M : Mem) (l : List Int) (b : Bool) (v : LV) (N : Mem) : Prop := ∃ w, v = .tup [w, .B b] ∧ IntsV N w l ∧ Pre M N
def FlatOK (x y z : Int) (cs : List Cell) (d : Int) : Prop := HeapOK x y z cs ∧ 0 ≤ d ∧ d ≤ 1
noncomputable instance (x y z : Int) (cs : List Cell) (d : Int) : Decidable (FlatOK x y z cs d) := Classical.propDecidable _
noncomputable def flatB (x y z : Int) (cs : List Cell) (d : Int) : Bool := decide (FlatOK x y z cs d)
noncomputable def sgtOf (x y z : Int) (cs : List Cell) (d : Int) (b : Bool) : List Int := if FlatOK x y z cs d then sgtL x y d.toNat b (topsOf x y cs) (lnM x y d.toNat) else []
noncomputable def skyOf (x y z : Int) (cs : List Cell) (d : Int) : List Int := if FlatOK x y z cs d then skyL x y d.toNat (topsOf x y cs) (lnM x y d.toNat) else []
theorem see_cnt : ∀ (l : List Int) (s : Int × Int), s.2 ≤ (l.foldl seeStep s).2 ∧ (l.foldl seeStep s).2 ≤ s.2 + l.length
  | [], s => by simp
  | a :: l, s => by
    rw [List.foldl_cons]
    have := see_cnt l (seeStep s a)
    by_cases h : a > s.1
    · simp only [seeStep, if_pos h] at this
      simp only [seeStep, if_pos h, List.length_cons]
      omega
    · simp only [seeStep, if_neg h] at this
      simp only [seeStep, if_neg h, List.length_cons]
      omega
theorem ln_side {x y z : Int} {dir : Nat} (hS : Sides x y z) (hd : dir < 2) : sideOf x y z (1 - (dir : Int)) = (lnM x y dir : Nat) ∧ sideOf x y z (dir : Int) = (lnN x y dir : Nat) ∧ lnM x y dir ≤ 4 ∧ lnN x y dir ≤ 4 ∧ 1 ≤ lnN x y dir := by
  obtain ⟨⟨_, _⟩, ⟨_, _⟩, ⟨_, _⟩⟩ := hS
  rcases (show dir = 0 ∨ dir = 1 by omega) with rfl | rfl <;> simp [sideOf, lnM, lnN] <;> omega
theorem ln_idx {x y z : Int} {dir i k : Nat} (hS : Sides x y z) (hd : dir < 2) (hi : i < lnM x y dir) (hk : k < lnN x y dir) : lnI y dir i k < (x * y).toNat ∧ (dir = 0 → (0 ≤ (k : Int) * y + i ∧ (k : Int) * y + i < x * y ∧ 0 ≤ (k : Int) * y ∧ (k : Int) * y ≤ 16) ∧ ((k : Int) * y + i).toNat = lnI y dir i k) ∧ (dir = 1 → (0 ≤ (i : Int) * y + k ∧ (i : Int) * y + k < x * y ∧ 0 ≤ (i : Int) * y ∧ (i : Int) * y ≤ 16) ∧ ((i : Int) * y + k).toNat = lnI y dir i k) := by
  obtain ⟨⟨_, _⟩, ⟨_, _⟩, ⟨_, _⟩⟩ := hS
  obtain ⟨a, rfl⟩ : ∃ a : Nat, x = a := ⟨x.toNat, by omega⟩
  obtain ⟨b, rfl⟩ : ∃ b : Nat, y = b := ⟨y.toNat, by omega⟩
  unfold lnM at hi
  unfold lnN at hk
  unfold lnI
  rcases (show dir = 0 ∨ dir = 1 by omega) with rfl | rfl
  · simp only [if_true, Int.toNat_natCast] at hi hk ⊢
    refine ⟨?_, fun _ => ?_, fun e => by cases e⟩ <;> rcases (show b = 1 ∨ b = 2 ∨ b = 3 ∨ b = 4 by omega) with rfl | rfl | rfl | rfl <;> omega
  · simp only [Nat.one_ne_zero, if_false, Int.toNat_natCast] at hi hk ⊢
    refine ⟨?_, fun e => e.elim, fun _ => ?_⟩ <;> rcases (show b = 1 ∨ b = 2 ∨ b = 3 ∨ b = 4 by omega) with rfl | rfl | rfl | rfl <;> omega
section
variable {x y z : Int} {t : Nat} {cs : List Cell} {M : Mem} (h : Tri M t 0 cs)
include h
theorem h_l10Lines {dir : Nat} (hH : HeapOK x y z cs) (hd : dir < 2) : CallsR PG F.spec_l10Lines [.agg [.I x, .I y, .I z, .ref t 0 cs.length], .I dir] M fun v N => ∃ u : Nat, v = .ref u 0 (linesH x y dir (topsOf x y cs) (lnM x y dir)).length ∧ TabO N u (linesH x y dir (topsOf x y cs) (lnM x y dir)) N.length M.length ∧ Pre M N := by
  have hS := hH.1
  have hlen := hH.len
  have hda : Dir (1 - (dir : Int)) := by unfold Dir; omega
  have hdb : Dir (dir : Int) := by unfold Dir; omega
  obtain ⟨sA, sB, hM4, hN4, _⟩ := ln_side hS hd
  have htl := topsOf_len x y cs
  have hb := mul_bound hS.1 hS.2.1
  refine callsR_run K.spec_l10Lines rfl ?_
  simp (disch := omega) only [C.spec_l10Lines, ↓SXd, SXu, slBounds, ↓sop, ↓aop, ↓reduceIte, LV.cells, AOp.dst, LV.I, LV.B, LV.U, LV.S, LV.nil, Nat.reduceEqDiff, Nat.reduceAdd, Nat.reduceMul, Nat.reduceSub, Nat.reduceLeDiff, Nat.reduceBEq, Nat.reduceDiv, Nat.reduceMod, Int.reduceToNat, Int.reduceLT, Int.reduceLE, Int.reduceAdd, Int.reduceSub, Int.reduceMul, Int.reduceEq, Int.reduceNeg, reduceCtorEq, resV, resAll, ARes.ev, LV.flat, ite_true, ite_false, exists_eq_left', exists_eq_left, keyOf, implies_true, fillC, capOf]
  refine callK_of (h_l2Tops h.app (by omega) hH) ?_
  simp (disch := omega) only [↓SXd, SXu, slBounds, ↓sop, ↓aop, ↓reduceIte, LV.cells, AOp.dst, LV.I, LV.B, LV.U, LV.S, LV.nil, Nat.reduceEqDiff, Nat.reduceAdd, Nat.reduceMul, Nat.reduceSub, Nat.reduceLeDiff, Nat.reduceBEq, Nat.reduceDiv, Nat.reduceMod, Int.reduceToNat, Int.reduceLT, Int.reduceLE, Int.reduceAdd, Int.reduceSub, Int.reduceMul, Int.reduceEq, Int.reduceNeg, reduceCtorEq, resV, resAll, ARes.ev, LV.flat, ite_true, ite_false, exists_eq_left', exists_eq_left, keyOf, implies_true, fillC, capOf]
  generalize hts : topsOf x y cs = ts at htl ⊢
  refine ev_loop (fun m fr M' => ∃ (i : Nat) (u : Nat), i + m = lnM x y dir ∧ Pre M M' ∧ M.length + 3 ≤ M'.length ∧ Live M' M.length (.row [.I x, .I y, .I z, .ref t 0 cs.length] true 0) ∧ Live M' (M.length + 2) (.row (intL ts) true 1) ∧ TabO M' u (linesH x y dir ts i) M'.length M.length ∧ M.length < u ∧ u ≠ M.length + 2 ∧
    fr 1 = .I dir ∧ fr 2 = .ptr M.length 0 ∧ fr 5 = .ref u 0 (linesH x y dir ts i).length ∧ fr 6 = .ref (M.length + 2) 0 (x * y).toNat ∧ fr 7 = .I i) (lnM x y dir)
    ⟨0, M.length + 1, by omega, Pre.app _ _, by simp, Live.new, Live.newj (j := 2) rfl, (TabO.nil (Live.newj (j := 1) rfl) (by omega)), by omega, by omega, rfl, rfl, rfl, rfl, rfl⟩ ?_
  rintro m fr M' ⟨i, u, hi, hpre, hM', b2, bt, hT, hu, hu2, f1, f2, f5, f6, f7⟩
  simp (disch := omega) only [f1, f2, f5, f6, f7, b2.cells, ↓SXd, SXu, slBounds, ↓sop, ↓aop, ↓reduceIte, LV.cells, AOp.dst, LV.I, LV.B, LV.U, LV.S, LV.nil, Nat.reduceEqDiff, Nat.reduceAdd, Nat.reduceMul, Nat.reduceSub, Nat.reduceLeDiff, Nat.reduceBEq, Nat.reduceDiv, Nat.reduceMod, Int.reduceToNat, Int.reduceLT, Int.reduceLE, Int.reduceAdd, Int.reduceSub, Int.reduceMul, Int.reduceEq, Int.reduceNeg, reduceCtorEq, resV, resAll, ARes.ev, LV.flat, ite_true, ite_false, exists_eq_left', exists_eq_left, keyOf, implies_true, fillC, capOf]
  refine callK_of (h_l2Long hda) ?_
  simp (disch := omega) only [f1, f2, f5, f6, f7, ↓SXd, SXu, slBounds, ↓sop, ↓aop, ↓reduceIte, LV.cells, AOp.dst, LV.I, LV.B, LV.U, LV.S, LV.nil, Nat.reduceEqDiff, Nat.reduceAdd, Nat.reduceMul, Nat.reduceSub, Nat.reduceLeDiff, Nat.reduceBEq, Nat.reduceDiv, Nat.reduceMod, Int.reduceToNat, Int.reduceLT, Int.reduceLE, Int.reduceAdd, Int.reduceSub, Int.reduceMul, Int.reduceEq, Int.reduceNeg, reduceCtorEq, resV, resAll, ARes.ev, LV.flat, ite_true, ite_false, exists_eq_left', exists_eq_left, keyOf, implies_true, fillC, capOf]
  rw [sA]
  refine condC_dec (fun hlt => ?_) (fun hlt => ?_)
  · have hiM : i < lnM x y dir := by omega
    have hb2l := b2.lt
    have hbtl := bt.lt
    simp (disch := omega) only [f1, f2, f5, f6, f7, ↓SXd, SXu, slBounds, ↓sop, ↓aop, ↓reduceIte, LV.cells, AOp.dst, LV.I, LV.B, LV.U, LV.S, LV.nil, Nat.reduceEqDiff, Nat.reduceAdd, Nat.reduceMul, Nat.reduceSub, Nat.reduceLeDiff, Nat.reduceBEq, Nat.reduceDiv, Nat.reduceMod, Int.reduceToNat, Int.reduceLT, Int.reduceLE, Int.reduceAdd, Int.reduceSub, Int.reduceMul, Int.reduceEq, Int.reduceNeg, reduceCtorEq, resV, resAll, ARes.ev, LV.flat, ite_true, ite_false, exists_eq_left', exists_eq_left, keyOf, implies_true, fillC, capOf]
    refine ev_loop (fun m2 fr N => ∃ (j r : Nat), j + m2 = lnN x y dir ∧ Pre M' N ∧ M'.length ≤ r ∧ Live N r (.row (intL (lineH x y dir ts i j)) true 1) ∧
      fr 1 = .I dir ∧ fr 2 = .ptr M.length 0 ∧ fr 5 = .ref u 0 (linesH x y dir ts i).length ∧ fr 6 = .ref (M.length + 2) 0 (x * y).toNat ∧ fr 7 = .I i ∧ fr 8 = .ref r 0 (lineH x y dir ts i j).length ∧ fr 9 = .I j) (lnN x y dir)
      ⟨0, M'.length, by omega, Pre.app _ _, Nat.le_refl _, Live.new, f1, f2, f5, f6, f7, rfl, rfl⟩ ?_
    clear f1 f2 f5 f6 f7
    rintro m2 fr N ⟨j, r, hj, hp, hr, br, f1, f2, f5, f6, f7, f8, f9⟩
    have c2 := b2.pre hp
    have ct := bt.pre hp
    simp (disch := omega) only [f1, f2, f5, f6, f7, f8, f9, c2.cells, ↓SXd, SXu, slBounds, ↓sop, ↓aop, ↓reduceIte, LV.cells, AOp.dst, LV.I, LV.B, LV.U, LV.S, LV.nil, Nat.reduceEqDiff, Nat.reduceAdd, Nat.reduceMul, Nat.reduceSub, Nat.reduceLeDiff, Nat.reduceBEq, Nat.reduceDiv, Nat.reduceMod, Int.reduceToNat, Int.reduceLT, Int.reduceLE, Int.reduceAdd, Int.reduceSub, Int.reduceMul, Int.reduceEq, Int.reduceNeg, reduceCtorEq, resV, resAll, ARes.ev, LV.flat, ite_true, ite_false, exists_eq_left', exists_eq_left, keyOf, implies_true, fillC, capOf]
    refine callK_of (h_l2Long hdb) ?_
    simp (disch := omega) only [f1, f2, f5, f6, f7, f8, f9, ↓SXd, SXu, slBounds, ↓sop, ↓aop, ↓reduceIte, LV.cells, AOp.dst, LV.I, LV.B, LV.U, LV.S, LV.nil, Nat.reduceEqDiff, Nat.reduceAdd, Nat.reduceMul, Nat.reduceSub, Nat.reduceLeDiff, Nat.reduceBEq, Nat.reduceDiv, Nat.reduceMod, Int.reduceToNat, Int.reduceLT, Int.reduceLE, Int.reduceAdd, Int.reduceSub, Int.reduceMul, Int.reduceEq, Int.reduceNeg, reduceCtorEq, resV, resAll, ARes.ev, LV.flat, ite_true, ite_false, exists_eq_left', exists_eq_left, keyOf, implies_true, fillC, capOf]
    rw [sB]
    refine condC_dec (fun hlt2 => ?_) (fun hlt2 => ?_)
    · have hjN : j < lnN x y dir := by omega
      obtain ⟨k1, k2, k3⟩ := ln_idx hS hd hiM hjN
      have hcell := ct.cell (o := lnI y dir i j)
      rw [intL_get (by omega)] at hcell
      have hls := lineH_succ (x := x) (y := y) (dir := dir) (i := i) (n := j) (ts := ts)
      have hll := lineH_len (x := x) (y := y) (dir := dir) (i := i) (n := j) (ts := ts)
      generalize ts.getD (lnI y dir i j) 0 = v at hcell hls
      rcases (show dir = 0 ∨ dir = 1 by omega) with rfl | rfl
      · obtain ⟨⟨q1, q2, q3, q4⟩, q5⟩ := k2 rfl
        rw [← q5] at hcell
        have hz : ((0 : Nat) : Int) = 0 := rfl
        simp (disch := omega) only [f1, f2, f5, f6, f7, f8, f9, c2.cell, hcell, hz, Nat.mul_one, Nat.zero_add, ↓SXd, SXu, slBounds, ↓sop, ↓aop, ↓reduceIte, LV.cells, AOp.dst, LV.I, LV.B, LV.U, LV.S, LV.nil, Nat.reduceEqDiff, Nat.reduceAdd, Nat.reduceMul, Nat.reduceSub, Nat.reduceLeDiff, Nat.reduceBEq, Nat.reduceDiv, Nat.reduceMod, Int.reduceToNat, Int.reduceLT, Int.reduceLE, Int.reduceAdd, Int.reduceSub, Int.reduceMul, Int.reduceEq, Int.reduceNeg, reduceCtorEq, resV, resAll, ARes.ev, LV.flat, ite_true, ite_false, exists_eq_left', exists_eq_left, keyOf, implies_true, fillC, capOf]
        refine appendK_int br (by omega) fun N5 l1 l2 l3 => ?_
        rw [← hls] at l2 ⊢
        simp (disch := omega) only [f1, f2, f5, f6, f7, f8, f9, ↓SXd, SXu, slBounds, ↓sop, ↓aop, ↓reduceIte, LV.cells, AOp.dst, LV.I, LV.B, LV.U, LV.S, LV.nil, Nat.reduceEqDiff, Nat.reduceAdd, Nat.reduceMul, Nat.reduceSub, Nat.reduceLeDiff, Nat.reduceBEq, Nat.reduceDiv, Nat.reduceMod, Int.reduceToNat, Int.reduceLT, Int.reduceLE, Int.reduceAdd, Int.reduceSub, Int.reduceMul, Int.reduceEq, Int.reduceNeg, reduceCtorEq, resV, resAll, ARes.ev, LV.flat, ite_true, ite_false, exists_eq_left', exists_eq_left, keyOf, implies_true, fillC, capOf]
        exact ⟨m2 - 1, by omega, j + 1, N.length + 1, by omega, pre_step hp (by omega) (j := 2) l1 l3, by have := hp.1; omega, l2, f1, f2, f5, f6, f7, rfl, eqI (natI _)⟩
      · obtain ⟨⟨q1, q2, q3, q4⟩, q5⟩ := k3 rfl
        rw [← q5] at hcell
        have hz : (((1 : Nat) : Int) = 0) = False := by simp
        simp (disch := omega) only [f1, f2, f5, f6, f7, f8, f9, c2.cell, hcell, hz, Nat.mul_one, Nat.zero_add, ↓SXd, SXu, slBounds, ↓sop, ↓aop, ↓reduceIte, LV.cells, AOp.dst, LV.I, LV.B, LV.U, LV.S, LV.nil, Nat.reduceEqDiff, Nat.reduceAdd, Nat.reduceMul, Nat.reduceSub, Nat.reduceLeDiff, Nat.reduceBEq, Nat.reduceDiv, Nat.reduceMod, Int.reduceToNat, Int.reduceLT, Int.reduceLE, Int.reduceAdd, Int.reduceSub, Int.reduceMul, Int.reduceEq, Int.reduceNeg, reduceCtorEq, resV, resAll, ARes.ev, LV.flat, ite_true, ite_false, exists_eq_left', exists_eq_left, keyOf, implies_true, fillC, capOf]
        refine appendK_int br (by omega) fun N5 l1 l2 l3 => ?_
        rw [← hls] at l2 ⊢
        simp (disch := omega) only [f1, f2, f5, f6, f7, f8, f9, ↓SXd, SXu, slBounds, ↓sop, ↓aop, ↓reduceIte, LV.cells, AOp.dst, LV.I, LV.B, LV.U, LV.S, LV.nil, Nat.reduceEqDiff, Nat.reduceAdd, Nat.reduceMul, Nat.reduceSub, Nat.reduceLeDiff, Nat.reduceBEq, Nat.reduceDiv, Nat.reduceMod, Int.reduceToNat, Int.reduceLT, Int.reduceLE, Int.reduceAdd, Int.reduceSub, Int.reduceMul, Int.reduceEq, Int.reduceNeg, reduceCtorEq, resV, resAll, ARes.ev, LV.flat, ite_true, ite_false, exists_eq_left', exists_eq_left, keyOf, implies_true, fillC, capOf]
        exact ⟨m2 - 1, by omega, j + 1, N.length + 1, by omega, pre_step hp (by omega) (j := 2) l1 l3, by have := hp.1; omega, l2, f1, f2, f5, f6, f7, rfl, eqI (natI _)⟩
    · have hjl : j = lnN x y dir := by omega
      subst hjl
      have hts2 := linesH_succ (x := x) (y := y) (dir := dir) (m := i) (ts := ts)
      have htl2 := linesH_len (x := x) (y := y) (dir := dir) (m := i) (ts := ts)
      simp (disch := omega) only [f1, f2, f5, f6, f7, f8, f9, ↓SXd, SXu, slBounds, ↓sop, ↓aop, ↓reduceIte, LV.cells, AOp.dst, LV.I, LV.B, LV.U, LV.S, LV.nil, Nat.reduceEqDiff, Nat.reduceAdd, Nat.reduceMul, Nat.reduceSub, Nat.reduceLeDiff, Nat.reduceBEq, Nat.reduceDiv, Nat.reduceMod, Int.reduceToNat, Int.reduceLT, Int.reduceLE, Int.reduceAdd, Int.reduceSub, Int.reduceMul, Int.reduceEq, Int.reduceNeg, reduceCtorEq, resV, resAll, ARes.ev, LV.flat, ite_true, ite_false, exists_eq_left', exists_eq_left, keyOf, implies_true, fillC, capOf]
      refine appendK_tab hT hp br hr (by omega) (hpre.trans hp) (by omega) fun u' Q hTab hM hu' hold hQl => ?_
      rw [← hts2] at hTab ⊢
      simp (disch := omega) only [f1, f2, f5, f6, f7, f8, f9, ↓SXd, SXu, slBounds, ↓sop, ↓aop, ↓reduceIte, LV.cells, AOp.dst, LV.I, LV.B, LV.U, LV.S, LV.nil, Nat.reduceEqDiff, Nat.reduceAdd, Nat.reduceMul, Nat.reduceSub, Nat.reduceLeDiff, Nat.reduceBEq, Nat.reduceDiv, Nat.reduceMod, Int.reduceToNat, Int.reduceLT, Int.reduceLE, Int.reduceAdd, Int.reduceSub, Int.reduceMul, Int.reduceEq, Int.reduceNeg, reduceCtorEq, resV, resAll, ARes.ev, LV.flat, ite_true, ite_false, exists_eq_left', exists_eq_left, keyOf, implies_true, fillC, capOf]
      have hc2l := c2.lt
      have hctl := ct.lt
      refine ⟨m - 1, by omega, i + 1, u', by omega, hM, by omega, ?_, ?_, hTab, by rcases hu' with e | e <;> omega, by rcases hu' with e | e <;> omega, f1, f2, rfl, f6, eqI (natI _)⟩
      · unfold Live at c2 ⊢
        rw [hold _ (by omega) hc2l]; exact c2
      · unfold Live at ct ⊢
        rw [hold _ (by omega) hctl]; exact ct
  · have hil : i = lnM x y dir := by omega
    subst hil
    simp (disch := omega) only [f1, f2, f5, f6, f7, ↓SXd, SXu, slBounds, ↓sop, ↓aop, ↓reduceIte, LV.cells, AOp.dst, LV.I, LV.B, LV.U, LV.S, LV.nil, Nat.reduceEqDiff, Nat.reduceAdd, Nat.reduceMul, Nat.reduceSub, Nat.reduceLeDiff, Nat.reduceBEq, Nat.reduceDiv, Nat.reduceMod, Int.reduceToNat, Int.reduceLT, Int.reduceLE, Int.reduceAdd, Int.reduceSub, Int.reduceMul, Int.reduceEq, Int.reduceNeg, reduceCtorEq, resV, resAll, ARes.ev, LV.flat, ite_true, ite_false, exists_eq_left', exists_eq_left, keyOf, implies_true, fillC, capOf]
    exact ⟨u, rfl, hT, hpre⟩
theorem h_sSightsOf (hn : cs.length ≤ 1000000000) {d : Int} {b : Bool} : CallsR PG F.spec_SightsOf [.agg [.I x, .I y, .I z, .ref t 0 cs.length], .I d, .B b] M (IntsQ M (sgtOf x y z cs d b) (flatB x y z cs d)) := by
  refine callsR_run K.spec_SightsOf rfl ?_
  simp (disch := omega) only [C.spec_SightsOf, ↓SXd, SXu, slBounds, ↓sop, ↓aop, ↓reduceIte, LV.cells, AOp.dst, LV.I, LV.B, LV.U, LV.S, LV.nil, Nat.reduceEqDiff, Nat.reduceAdd, Nat.reduceMul, Nat.reduceSub, Nat.reduceLeDiff, Nat.reduceBEq, Nat.reduceDiv, Nat.reduceMod, Int.reduceToNat, Int.reduceLT, Int.reduceLE, Int.reduceAdd, Int.reduceSub, Int.reduceMul, Int.reduceEq, Int.reduceNeg, reduceCtorEq, resV, resAll, ARes.ev, LV.flat, ite_true, ite_false, exists_eq_left', exists_eq_left, keyOf, implies_true, fillC, capOf]
  refine callK_of (h_l2Heap h.app hn) ?_
  simp (disch := omega) only [↓SXd, SXu, slBounds, ↓sop, ↓aop, ↓reduceIte, LV.cells, AOp.dst, LV.I, LV.B, LV.U, LV.S, LV.nil, Nat.reduceEqDiff, Nat.reduceAdd, Nat.reduceMul, Nat.reduceSub, Nat.reduceLeDiff, Nat.reduceBEq, Nat.reduceDiv, Nat.reduceMod, Int.reduceToNat, Int.reduceLT, Int.reduceLE, Int.reduceAdd, Int.reduceSub, Int.reduceMul, Int.reduceEq, Int.reduceNeg, reduceCtorEq, resV, resAll, ARes.ev, LV.flat, ite_true, ite_false, exists_eq_left', exists_eq_left, keyOf, implies_true, fillC, capOf]
  have hno : ∀ hx : ¬ FlatOK x y z cs d, sgtOf x y z cs d b = [] ∧ flatB x y z cs d = false := fun hx => ⟨if_neg hx, decide_eq_false hx⟩
  by_cases hH : HeapOK x y z cs
  rotate_left
  · rw [(hno fun e => hH e.1).1, (hno fun e => hH e.1).2]
    simp (disch := omega) only [hH, ↓SXd, SXu, slBounds, ↓sop, ↓aop, ↓reduceIte, LV.cells, AOp.dst, LV.I, LV.B, LV.U, LV.S, LV.nil, Nat.reduceEqDiff, Nat.reduceAdd, Nat.reduceMul, Nat.reduceSub, Nat.reduceLeDiff, Nat.reduceBEq, Nat.reduceDiv, Nat.reduceMod, Int.reduceToNat, Int.reduceLT, Int.reduceLE, Int.reduceAdd, Int.reduceSub, Int.reduceMul, Int.reduceEq, Int.reduceNeg, reduceCtorEq, resV, resAll, ARes.ev, LV.flat, ite_true, ite_false, exists_eq_left', exists_eq_left, keyOf, implies_true, fillC, capOf]
    exact ⟨_, rfl, .inr ⟨_, _, rfl, (Live.newj (j := 1) rfl : Live _ _ (.row (intL []) true 1)).has⟩, Pre.app _ _⟩
  simp (disch := omega) only [hH, ↓SXd, SXu, slBounds, ↓sop, ↓aop, ↓reduceIte, LV.cells, AOp.dst, LV.I, LV.B, LV.U, LV.S, LV.nil, Nat.reduceEqDiff, Nat.reduceAdd, Nat.reduceMul, Nat.reduceSub, Nat.reduceLeDiff, Nat.reduceBEq, Nat.reduceDiv, Nat.reduceMod, Int.reduceToNat, Int.reduceLT, Int.reduceLE, Int.reduceAdd, Int.reduceSub, Int.reduceMul, Int.reduceEq, Int.reduceNeg, reduceCtorEq, resV, resAll, ARes.ev, LV.flat, ite_true, ite_false, exists_eq_left', exists_eq_left, keyOf, implies_true, fillC, capOf]
  refine callK_of (h_l1In) ?_
  simp (disch := omega) only [↓SXd, SXu, slBounds, ↓sop, ↓aop, ↓reduceIte, LV.cells, AOp.dst, LV.I, LV.B, LV.U, LV.S, LV.nil, Nat.reduceEqDiff, Nat.reduceAdd, Nat.reduceMul, Nat.reduceSub, Nat.reduceLeDiff, Nat.reduceBEq, Nat.reduceDiv, Nat.reduceMod, Int.reduceToNat, Int.reduceLT, Int.reduceLE, Int.reduceAdd, Int.reduceSub, Int.reduceMul, Int.reduceEq, Int.reduceNeg, reduceCtorEq, resV, resAll, ARes.ev, LV.flat, ite_true, ite_false, exists_eq_left', exists_eq_left, keyOf, implies_true, fillC, capOf]
  by_cases hd : 0 ≤ d ∧ d ≤ 1
  rotate_left
  · rw [(hno fun e => hd e.2).1, (hno fun e => hd e.2).2, decide_eq_false hd]
    simp (disch := omega) only [↓SXd, SXu, slBounds, ↓sop, ↓aop, ↓reduceIte, LV.cells, AOp.dst, LV.I, LV.B, LV.U, LV.S, LV.nil, Nat.reduceEqDiff, Nat.reduceAdd, Nat.reduceMul, Nat.reduceSub, Nat.reduceLeDiff, Nat.reduceBEq, Nat.reduceDiv, Nat.reduceMod, Int.reduceToNat, Int.reduceLT, Int.reduceLE, Int.reduceAdd, Int.reduceSub, Int.reduceMul, Int.reduceEq, Int.reduceNeg, reduceCtorEq, resV, resAll, ARes.ev, LV.flat, ite_true, ite_false, exists_eq_left', exists_eq_left, keyOf, implies_true, fillC, capOf]
    exact ⟨_, rfl, .inr ⟨_, _, rfl, (Live.newj (j := 1) rfl : Live _ _ (.row (intL []) true 1)).has⟩, Pre.app _ _⟩
  rw [show sgtOf x y z cs d b = sgtL x y d.toNat b (topsOf x y cs) (lnM x y d.toNat) from if_pos ⟨hH, hd⟩, show flatB x y z cs d = true from decide_eq_true ⟨hH, hd⟩, decide_eq_true hd]
  obtain ⟨n, rfl⟩ : ∃ n : Nat, d = n := ⟨d.toNat, by omega⟩
  rw [Int.toNat_natCast]
  have hn2 : n < 2 := by omega
  obtain ⟨_, _, hM4, hN4, hN1⟩ := ln_side hH.1 hn2
  have b8 : Live (M ++ [some (.row [.I x, .I y, .I z, .ref t 0 cs.length] true 0), some (.row (intL []) true 1)]) (M.length + 1) (.row (intL []) true 1) := Live.newj rfl
  have hpq : Pre M (M ++ [some (.row [.I x, .I y, .I z, .ref t 0 cs.length] true 0), some (.row (intL []) true 1)]) := Pre.app _ _
  simp (disch := omega) only [↓SXd, SXu, slBounds, ↓sop, ↓aop, ↓reduceIte, LV.cells, AOp.dst, LV.I, LV.B, LV.U, LV.S, LV.nil, Nat.reduceEqDiff, Nat.reduceAdd, Nat.reduceMul, Nat.reduceSub, Nat.reduceLeDiff, Nat.reduceBEq, Nat.reduceDiv, Nat.reduceMod, Int.reduceToNat, Int.reduceLT, Int.reduceLE, Int.reduceAdd, Int.reduceSub, Int.reduceMul, Int.reduceEq, Int.reduceNeg, reduceCtorEq, resV, resAll, ARes.ev, LV.flat, ite_true, ite_false, exists_eq_left', exists_eq_left, keyOf, implies_true, fillC, capOf]
  refine callR_of (h_l10Lines h.app hH hn2) ?_
  rintro _ N ⟨w, rfl, hT, hp⟩
  have c8 := b8.pre hp
  have hpN := hpq.trans hp
  have hMN := hpN.1
  have hLl := linesH_len (x := x) (y := y) (dir := n) (m := lnM x y n) (ts := topsOf x y cs)
  have hLg := fun i (hi : i < lnM x y n) => linesH_get (x := x) (y := y) (dir := n) (m := lnM x y n) (ts := topsOf x y cs) hi
  clear hno b8 hp
  generalize linesH x y n (topsOf x y cs) (lnM x y n) = L at hT hLl hLg ⊢
  simp (disch := omega) only [↓SXd, SXu, slBounds, ↓sop, ↓aop, ↓reduceIte, LV.cells, AOp.dst, LV.I, LV.B, LV.U, LV.S, LV.nil, Nat.reduceEqDiff, Nat.reduceAdd, Nat.reduceMul, Nat.reduceSub, Nat.reduceLeDiff, Nat.reduceBEq, Nat.reduceDiv, Nat.reduceMod, Int.reduceToNat, Int.reduceLT, Int.reduceLE, Int.reduceAdd, Int.reduceSub, Int.reduceMul, Int.reduceEq, Int.reduceNeg, reduceCtorEq, resV, resAll, ARes.ev, LV.flat, ite_true, ite_false, exists_eq_left', exists_eq_left, keyOf, implies_true, fillC, capOf]
  refine ev_loop (fun m fr N' => ∃ (i u : Nat), i + m = lnM x y n ∧ Pre M N' ∧ (u = M.length + 1 ∨ N.length ≤ u) ∧ Live N' u (.row (intL (sgtL x y n b (topsOf x y cs) i)) true 1) ∧
    fr 2 = .B b ∧ fr 8 = .ref u 0 (sgtL x y n b (topsOf x y cs) i).length ∧ fr 9 = .ref w 0 L.length ∧ fr 10 = .I i ∧ N.length ≤ N'.length ∧ ∀ q, M.length + 2 ≤ q → q < N.length → N'[q]? = N[q]?) (lnM x y n)
    ⟨0, M.length + 1, by omega, hpN, .inl rfl, c8, rfl, rfl, rfl, rfl, Nat.le_refl _, fun _ _ _ => rfl⟩ ?_
  rintro m fr N' ⟨i, u, hi, hP, hu, bu, f2, f8, f9, f10, hNN, hold⟩
  simp only [List.length_append, List.length_cons, List.length_nil] at hT
  have hT' := hT.hold hold
  have hTv := hT'.v
  simp (disch := omega) only [f2, f8, f9, f10, ↓SXd, SXu, slBounds, ↓sop, ↓aop, ↓reduceIte, LV.cells, AOp.dst, LV.I, LV.B, LV.U, LV.S, LV.nil, Nat.reduceEqDiff, Nat.reduceAdd, Nat.reduceMul, Nat.reduceSub, Nat.reduceLeDiff, Nat.reduceBEq, Nat.reduceDiv, Nat.reduceMod, Int.reduceToNat, Int.reduceLT, Int.reduceLE, Int.reduceAdd, Int.reduceSub, Int.reduceMul, Int.reduceEq, Int.reduceNeg, reduceCtorEq, resV, resAll, ARes.ev, LV.flat, ite_true, ite_false, exists_eq_left', exists_eq_left, keyOf, implies_true, fillC, capOf]
  refine condC_dec (fun hlt => ?_) (fun hlt => ?_)
  · have hiM : i < lnM x y n := by omega
    obtain ⟨t1, u1, e1, hg, hI⟩ := hTv.at (i := i) (by omega)
    injection e1 with e1 _ _
    subst e1
    have hgi := hLg i hiM
    have hll : (L.getD i []).length = lnN x y n := by rw [hgi, lineH_len]
    generalize hl' : (if b then (L.getD i []).reverse else L.getD i []) = l'
    have hl'l : l'.length = lnN x y n := by
      rw [← hl']
      split
      · rw [List.length_reverse]; exact hll
      · exact hll
    have hget : ∀ k, k < lnN x y n → l'.getD k 0 = if b then (L.getD i []).getD (lnN x y n - 1 - k) 0 else (L.getD i []).getD k 0 := fun k hk => by
      cases b with
      | false => rw [← hl']; rfl
      | true =>
        rw [← hl']
        show ((L.getD i []).reverse).getD k 0 = (L.getD i []).getD (lnN x y n - 1 - k) 0
        rw [List.getD_eq_getElem?_getD, List.getElem?_reverse (by omega), hll, ← List.getD_eq_getElem?_getD]
    have hss : sgtL x y n b (topsOf x y cs) (i + 1) = sgtL x y n b (topsOf x y cs) i ++ [(seen l').2] := by
      have e := sgtL_succ (x := x) (y := y) (dir := n) (b := b) (ts := topsOf x y cs) (m := i)
      rw [← hgi] at e
      rw [e, hl']
    have hsl := sgtL_len (x := x) (y := y) (dir := n) (b := b) (ts := topsOf x y cs) (m := i)
    generalize L.getD i [] = ln at hg hI hll hget
    simp (disch := omega) only [f2, f8, f9, f10, hg, Nat.mul_one, Nat.zero_add, hll, ↓SXd, SXu, slBounds, ↓sop, ↓aop, ↓reduceIte, LV.cells, AOp.dst, LV.I, LV.B, LV.U, LV.S, LV.nil, Nat.reduceEqDiff, Nat.reduceAdd, Nat.reduceMul, Nat.reduceSub, Nat.reduceLeDiff, Nat.reduceBEq, Nat.reduceDiv, Nat.reduceMod, Int.reduceToNat, Int.reduceLT, Int.reduceLE, Int.reduceAdd, Int.reduceSub, Int.reduceMul, Int.reduceEq, Int.reduceNeg, reduceCtorEq, resV, resAll, ARes.ev, LV.flat, ite_true, ite_false, exists_eq_left', exists_eq_left, keyOf, implies_true, fillC, capOf]
    refine ev_loop (fun m2 fr N2 => ∃ k : Nat, k + m2 = lnN x y n ∧ N2 = N' ∧ fr 2 = .B b ∧ fr 8 = .ref u 0 (sgtL x y n b (topsOf x y cs) i).length ∧ fr 9 = .ref w 0 L.length ∧ fr 10 = .I i ∧ fr 11 = .I ((l'.take k).foldl seeStep (0, 0)).1 ∧ fr 12 = .I ((l'.take k).foldl seeStep (0, 0)).2 ∧ fr 13 = .I (lnN x y n : Nat) ∧ fr 14 = .I k) (lnN x y n)
      ⟨0, by omega, rfl, f2, f8, f9, f10, rfl, rfl, rfl, rfl⟩ ?_
    clear f2 f8 f9 f10
    rintro m2 fr N' ⟨k, hk, rfl, f2, f8, f9, f10, f11, f12, f13, f14⟩
    simp (disch := omega) only [f2, f8, f9, f10, f11, f12, f13, f14, ↓SXd, SXu, slBounds, ↓sop, ↓aop, ↓reduceIte, LV.cells, AOp.dst, LV.I, LV.B, LV.U, LV.S, LV.nil, Nat.reduceEqDiff, Nat.reduceAdd, Nat.reduceMul, Nat.reduceSub, Nat.reduceLeDiff, Nat.reduceBEq, Nat.reduceDiv, Nat.reduceMod, Int.reduceToNat, Int.reduceLT, Int.reduceLE, Int.reduceAdd, Int.reduceSub, Int.reduceMul, Int.reduceEq, Int.reduceNeg, reduceCtorEq, resV, resAll, ARes.ev, LV.flat, ite_true, ite_false, exists_eq_left', exists_eq_left, keyOf, implies_true, fillC, capOf]
    refine condC_dec (fun hlt2 => ?_) (fun hlt2 => ?_)
    · have hkN : k < lnN x y n := by omega
      have hst := take_succ_foldl seeStep (0, 0) l' k 0 (by omega)
      have hcnt := see_cnt (l'.take k) (0, 0)
      have htl := List.length_take_le k l'
      simp only at hcnt
      have hgk := hget k hkN
      have hc1 := Ints.get hI (k := k) (by omega)
      have hc2 := Ints.get hI (k := lnN x y n - 1 - k) (by omega)
      rw [Nat.zero_add] at hc1 hc2
      have hki : ((lnN x y n : Nat) : Int) - 1 - k = ((lnN x y n - 1 - k : Nat) : Int) := by omega
      generalize (l'.take k).foldl seeStep (0, 0) = s at f11 f12 hst hcnt
      generalize hs' : (l'.take (k + 1)).foldl seeStep (0, 0) = s' at hst
      cases b with
      | false =>
        rw [if_neg (by simp)] at hgk
        rw [hgk] at hst
        by_cases hv : ln.getD k 0 > s.1
        · rw [show seeStep s (ln.getD k 0) = (ln.getD k 0, s.2 + 1) from if_pos hv] at hst
          simp (disch := omega) only [f2, f8, f9, f10, f11, f12, f13, f14, hg, hc1, Nat.mul_one, Nat.zero_add, hv, ↓SXd, SXu, slBounds, ↓sop, ↓aop, ↓reduceIte, LV.cells, AOp.dst, LV.I, LV.B, LV.U, LV.S, LV.nil, Nat.reduceEqDiff, Nat.reduceAdd, Nat.reduceMul, Nat.reduceSub, Nat.reduceLeDiff, Nat.reduceBEq, Nat.reduceDiv, Nat.reduceMod, Int.reduceToNat, Int.reduceLT, Int.reduceLE, Int.reduceAdd, Int.reduceSub, Int.reduceMul, Int.reduceEq, Int.reduceNeg, reduceCtorEq, resV, resAll, ARes.ev, LV.flat, ite_true, ite_false, exists_eq_left', exists_eq_left, keyOf, implies_true, fillC, capOf]
          exact ⟨m2 - 1, by omega, k + 1, by omega, rfl, f2, f8, f9, f10, by rw [hs', hst]; rfl, by rw [hs', hst]; rfl, f13, eqI (natI _)⟩
        · rw [show seeStep s (ln.getD k 0) = s from if_neg hv] at hst
          simp (disch := omega) only [f2, f8, f9, f10, f11, f12, f13, f14, hg, hc1, Nat.mul_one, Nat.zero_add, hv, ↓SXd, SXu, slBounds, ↓sop, ↓aop, ↓reduceIte, LV.cells, AOp.dst, LV.I, LV.B, LV.U, LV.S, LV.nil, Nat.reduceEqDiff, Nat.reduceAdd, Nat.reduceMul, Nat.reduceSub, Nat.reduceLeDiff, Nat.reduceBEq, Nat.reduceDiv, Nat.reduceMod, Int.reduceToNat, Int.reduceLT, Int.reduceLE, Int.reduceAdd, Int.reduceSub, Int.reduceMul, Int.reduceEq, Int.reduceNeg, reduceCtorEq, resV, resAll, ARes.ev, LV.flat, ite_true, ite_false, exists_eq_left', exists_eq_left, keyOf, implies_true, fillC, capOf]
          exact ⟨m2 - 1, by omega, k + 1, by omega, rfl, f2, f8, f9, f10, f11.trans (by rw [hs', hst]), f12.trans (by rw [hs', hst]), f13, eqI (natI _)⟩
      | true =>
        rw [if_pos rfl] at hgk
        rw [hgk] at hst
        by_cases hv : ln.getD (lnN x y n - 1 - k) 0 > s.1
        · rw [show seeStep s (ln.getD (lnN x y n - 1 - k) 0) = (ln.getD (lnN x y n - 1 - k) 0, s.2 + 1) from if_pos hv] at hst
          simp (disch := omega) only [f2, f8, f9, f10, f11, f12, f13, f14, hg, hc1, hki, hc2, Nat.mul_one, Nat.zero_add, hv, ↓SXd, SXu, slBounds, ↓sop, ↓aop, ↓reduceIte, LV.cells, AOp.dst, LV.I, LV.B, LV.U, LV.S, LV.nil, Nat.reduceEqDiff, Nat.reduceAdd, Nat.reduceMul, Nat.reduceSub, Nat.reduceLeDiff, Nat.reduceBEq, Nat.reduceDiv, Nat.reduceMod, Int.reduceToNat, Int.reduceLT, Int.reduceLE, Int.reduceAdd, Int.reduceSub, Int.reduceMul, Int.reduceEq, Int.reduceNeg, reduceCtorEq, resV, resAll, ARes.ev, LV.flat, ite_true, ite_false, exists_eq_left', exists_eq_left, keyOf, implies_true, fillC, capOf]
          exact ⟨m2 - 1, by omega, k + 1, by omega, rfl, f2, f8, f9, f10, by rw [hs', hst]; rfl, by rw [hs', hst]; rfl, f13, eqI (natI _)⟩
        · rw [show seeStep s (ln.getD (lnN x y n - 1 - k) 0) = s from if_neg hv] at hst
          simp (disch := omega) only [f2, f8, f9, f10, f11, f12, f13, f14, hg, hc1, hki, hc2, Nat.mul_one, Nat.zero_add, hv, ↓SXd, SXu, slBounds, ↓sop, ↓aop, ↓reduceIte, LV.cells, AOp.dst, LV.I, LV.B, LV.U, LV.S, LV.nil, Nat.reduceEqDiff, Nat.reduceAdd, Nat.reduceMul, Nat.reduceSub, Nat.reduceLeDiff, Nat.reduceBEq, Nat.reduceDiv, Nat.reduceMod, Int.reduceToNat, Int.reduceLT, Int.reduceLE, Int.reduceAdd, Int.reduceSub, Int.reduceMul, Int.reduceEq, Int.reduceNeg, reduceCtorEq, resV, resAll, ARes.ev, LV.flat, ite_true, ite_false, exists_eq_left', exists_eq_left, keyOf, implies_true, fillC, capOf]
          exact ⟨m2 - 1, by omega, k + 1, by omega, rfl, f2, f8, f9, f10, f11.trans (by rw [hs', hst]), f12.trans (by rw [hs', hst]), f13, eqI (natI _)⟩
    · have hkN : k = l'.length := by omega
      subst hkN
      rw [List.take_length] at f11 f12
      simp (disch := omega) only [f2, f8, f9, f10, f11, f12, f13, f14, ↓SXd, SXu, slBounds, ↓sop, ↓aop, ↓reduceIte, LV.cells, AOp.dst, LV.I, LV.B, LV.U, LV.S, LV.nil, Nat.reduceEqDiff, Nat.reduceAdd, Nat.reduceMul, Nat.reduceSub, Nat.reduceLeDiff, Nat.reduceBEq, Nat.reduceDiv, Nat.reduceMod, Int.reduceToNat, Int.reduceLT, Int.reduceLE, Int.reduceAdd, Int.reduceSub, Int.reduceMul, Int.reduceEq, Int.reduceNeg, reduceCtorEq, resV, resAll, ARes.ev, LV.flat, ite_true, ite_false, exists_eq_left', exists_eq_left, keyOf, implies_true, fillC, capOf]
      refine appendK_int bu (by omega) fun N5 l1 l2 l3 => ?_
      have hss2 : sgtL x y n b (topsOf x y cs) (i + 1) = sgtL x y n b (topsOf x y cs) i ++ [(l'.foldl seeStep (0, 0)).2] := hss
      rw [← hss2] at l2 ⊢
      simp (disch := omega) only [f2, f8, f9, f10, f11, f12, f13, f14, ↓SXd, SXu, slBounds, ↓sop, ↓aop, ↓reduceIte, LV.cells, AOp.dst, LV.I, LV.B, LV.U, LV.S, LV.nil, Nat.reduceEqDiff, Nat.reduceAdd, Nat.reduceMul, Nat.reduceSub, Nat.reduceLeDiff, Nat.reduceBEq, Nat.reduceDiv, Nat.reduceMod, Int.reduceToNat, Int.reduceLT, Int.reduceLE, Int.reduceAdd, Int.reduceSub, Int.reduceMul, Int.reduceEq, Int.reduceNeg, reduceCtorEq, resV, resAll, ARes.ev, LV.flat, ite_true, ite_false, exists_eq_left', exists_eq_left, keyOf, implies_true, fillC, capOf]
      exact ⟨m - 1, by omega, i + 1, N'.length + 1, by omega, pre_step hP (by rcases hu with e | e <;> omega) (j := 2) l1 l3, .inr (by omega), l2, f2, rfl, f9, eqI (natI _), by omega, fun q q1 q2 => by rw [l3 q (by rcases hu with e | e <;> omega) (by omega)]; exact hold q q1 q2⟩
  · have hiM : i = lnM x y n := by omega
    subst hiM
    simp (disch := omega) only [f2, f8, f9, f10, ↓SXd, SXu, slBounds, ↓sop, ↓aop, ↓reduceIte, LV.cells, AOp.dst, LV.I, LV.B, LV.U, LV.S, LV.nil, Nat.reduceEqDiff, Nat.reduceAdd, Nat.reduceMul, Nat.reduceSub, Nat.reduceLeDiff, Nat.reduceBEq, Nat.reduceDiv, Nat.reduceMod, Int.reduceToNat, Int.reduceLT, Int.reduceLE, Int.reduceAdd, Int.reduceSub, Int.reduceMul, Int.reduceEq, Int.reduceNeg, reduceCtorEq, resV, resAll, ARes.ev, LV.flat, ite_true, ite_false, exists_eq_left', exists_eq_left, keyOf, implies_true, fillC, capOf]
    exact ⟨_, rfl, .inr ⟨_, _, rfl, bu.has⟩, hP⟩
theorem h_sSkyLine (hn : cs.length ≤ 1000000000) {d : Int} : CallsR PG F.spec_SkyLine [.agg [.I x, .I y, .I z, .ref t 0 cs.length], .I d] M (IntsQ M (skyOf x y z cs d) (flatB x y z cs d)) := by
  refine callsR_run K.spec_SkyLine rfl ?_
  simp (disch := omega) only [C.spec_SkyLine, ↓SXd, SXu, slBounds, ↓sop, ↓aop, ↓reduceIte, LV.cells, AOp.dst, LV.I, LV.B, LV.U, LV.S, LV.nil, Nat.reduceEqDiff, Nat.reduceAdd, Nat.reduceMul, Nat.reduceSub, Nat.reduceLeDiff, Nat.reduceBEq, Nat.reduceDiv, Nat.reduceMod, Int.reduceToNat, Int.reduceLT, Int.reduceLE, Int.reduceAdd, Int.reduceSub, Int.reduceMul, Int.reduceEq, Int.reduceNeg, reduceCtorEq, resV, resAll, ARes.ev, LV.flat, ite_true, ite_false, exists_eq_left', exists_eq_left, keyOf, implies_true, fillC, capOf]
  refine callK_of (h_l2Heap h.app hn) ?_
  simp (disch := omega) only [↓SXd, SXu, slBounds, ↓sop, ↓aop, ↓reduceIte, LV.cells, AOp.dst, LV.I, LV.B, LV.U, LV.S, LV.nil, Nat.reduceEqDiff, Nat.reduceAdd, Nat.reduceMul, Nat.reduceSub, Nat.reduceLeDiff, Nat.reduceBEq, Nat.reduceDiv, Nat.reduceMod, Int.reduceToNat, Int.reduceLT, Int.reduceLE, Int.reduceAdd, Int.reduceSub, Int.reduceMul, Int.reduceEq, Int.reduceNeg, reduceCtorEq, resV, resAll, ARes.ev, LV.flat, ite_true, ite_false, exists_eq_left', exists_eq_left, keyOf, implies_true, fillC, capOf]
  have hno : ∀ hx : ¬ FlatOK x y z cs d, skyOf x y z cs d = [] ∧ flatB x y z cs d = false := fun hx => ⟨if_neg hx, decide_eq_false hx⟩
  by_cases hH : HeapOK x y z cs
  rotate_left
  · rw [(hno fun e => hH e.1).1, (hno fun e => hH e.1).2]
    simp (disch := omega) only [hH, ↓SXd, SXu, slBounds, ↓sop, ↓aop, ↓reduceIte, LV.cells, AOp.dst, LV.I, LV.B, LV.U, LV.S, LV.nil, Nat.reduceEqDiff, Nat.reduceAdd, Nat.reduceMul, Nat.reduceSub, Nat.reduceLeDiff, Nat.reduceBEq, Nat.reduceDiv, Nat.reduceMod, Int.reduceToNat, Int.reduceLT, Int.reduceLE, Int.reduceAdd, Int.reduceSub, Int.reduceMul, Int.reduceEq, Int.reduceNeg, reduceCtorEq, resV, resAll, ARes.ev, LV.flat, ite_true, ite_false, exists_eq_left', exists_eq_left, keyOf, implies_true, fillC, capOf]
    exact ⟨_, rfl, .inr ⟨_, _, rfl, (Live.newj (j := 1) rfl : Live _ _ (.row (intL []) true 1)).has⟩, Pre.app _ _⟩
  simp (disch := omega) only [hH, ↓SXd, SXu, slBounds, ↓sop, ↓aop, ↓reduceIte, LV.cells, AOp.dst, LV.I, LV.B, LV.U, LV.S, LV.nil, Nat.reduceEqDiff, Nat.reduceAdd, Nat.reduceMul, Nat.reduceSub, Nat.reduceLeDiff, Nat.reduceBEq, Nat.reduceDiv, Nat.reduceMod, Int.reduceToNat, Int.reduceLT, Int.reduceLE, Int.reduceAdd, Int.reduceSub, Int.reduceMul, Int.reduceEq, Int.reduceNeg, reduceCtorEq, resV, resAll, ARes.ev, LV.flat, ite_true, ite_false, exists_eq_left', exists_eq_left, keyOf, implies_true, fillC, capOf]
  refine callK_of (h_l1In) ?_
  simp (disch := omega) only [↓SXd, SXu, slBounds, ↓sop, ↓aop, ↓reduceIte, LV.cells, AOp.dst, LV.I, LV.B, LV.U, LV.S, LV.nil, Nat.reduceEqDiff, Nat.reduceAdd, Nat.reduceMul, Nat.reduceSub, Nat.reduceLeDiff, Nat.reduceBEq, Nat.reduceDiv, Nat.reduceMod, Int.reduceToNat, Int.reduceLT, Int.reduceLE, Int.reduceAdd, Int.reduceSub, Int.reduceMul, Int.reduceEq, Int.reduceNeg, reduceCtorEq, resV, resAll, ARes.ev, LV.flat, ite_true, ite_false, exists_eq_left', exists_eq_left, keyOf, implies_true, fillC, capOf]
  by_cases hd : 0 ≤ d ∧ d ≤ 1
  rotate_left
  · rw [(hno fun e => hd e.2).1, (hno fun e => hd e.2).2, decide_eq_false hd]
    simp (disch := omega) only [↓SXd, SXu, slBounds, ↓sop, ↓aop, ↓reduceIte, LV.cells, AOp.dst, LV.I, LV.B, LV.U, LV.S, LV.nil, Nat.reduceEqDiff, Nat.reduceAdd, Nat.reduceMul, Nat.reduceSub, Nat.reduceLeDiff, Nat.reduceBEq, Nat.reduceDiv, Nat.reduceMod, Int.reduceToNat, Int.reduceLT, Int.reduceLE, Int.reduceAdd, Int.reduceSub, Int.reduceMul, Int.reduceEq, Int.reduceNeg, reduceCtorEq, resV, resAll, ARes.ev, LV.flat, ite_true, ite_false, exists_eq_left', exists_eq_left, keyOf, implies_true, fillC, capOf]
    exact ⟨_, rfl, .inr ⟨_, _, rfl, (Live.newj (j := 1) rfl : Live _ _ (.row (intL []) true 1)).has⟩, Pre.app _ _⟩
  rw [show skyOf x y z cs d = skyL x y d.toNat (topsOf x y cs) (lnM x y d.toNat) from if_pos ⟨hH, hd⟩, show flatB x y z cs d = true from decide_eq_true ⟨hH, hd⟩, decide_eq_true hd]
  obtain ⟨n, rfl⟩ : ∃ n : Nat, d = n := ⟨d.toNat, by omega⟩
  rw [Int.toNat_natCast]
  have hn2 : n < 2 := by omega
  obtain ⟨_, _, hM4, hN4, hN1⟩ := ln_side hH.1 hn2
  have b8 : Live (M ++ [some (.row [.I x, .I y, .I z, .ref t 0 cs.length] true 0), some (.row (intL []) true 1)]) (M.length + 1) (.row (intL []) true 1) := Live.newj rfl
  have hpq : Pre M (M ++ [some (.row [.I x, .I y, .I z, .ref t 0 cs.length] true 0), some (.row (intL []) true 1)]) := Pre.app _ _
  simp (disch := omega) only [↓SXd, SXu, slBounds, ↓sop, ↓aop, ↓reduceIte, LV.cells, AOp.dst, LV.I, LV.B, LV.U, LV.S, LV.nil, Nat.reduceEqDiff, Nat.reduceAdd, Nat.reduceMul, Nat.reduceSub, Nat.reduceLeDiff, Nat.reduceBEq, Nat.reduceDiv, Nat.reduceMod, Int.reduceToNat, Int.reduceLT, Int.reduceLE, Int.reduceAdd, Int.reduceSub, Int.reduceMul, Int.reduceEq, Int.reduceNeg, reduceCtorEq, resV, resAll, ARes.ev, LV.flat, ite_true, ite_false, exists_eq_left', exists_eq_left, keyOf, implies_true, fillC, capOf]
  refine callR_of (h_l10Lines h.app hH hn2) ?_
  rintro _ N ⟨w, rfl, hT, hp⟩
  have c8 := b8.pre hp
  have hpN := hpq.trans hp
  have hMN := hpN.1
  have hLl := linesH_len (x := x) (y := y) (dir := n) (m := lnM x y n) (ts := topsOf x y cs)
  have hLg := fun i (hi : i < lnM x y n) => linesH_get (x := x) (y := y) (dir := n) (m := lnM x y n) (ts := topsOf x y cs) hi
  clear hno b8 hp
  generalize linesH x y n (topsOf x y cs) (lnM x y n) = L at hT hLl hLg ⊢
  simp (disch := omega) only [↓SXd, SXu, slBounds, ↓sop, ↓aop, ↓reduceIte, LV.cells, AOp.dst, LV.I, LV.B, LV.U, LV.S, LV.nil, Nat.reduceEqDiff, Nat.reduceAdd, Nat.reduceMul, Nat.reduceSub, Nat.reduceLeDiff, Nat.reduceBEq, Nat.reduceDiv, Nat.reduceMod, Int.reduceToNat, Int.reduceLT, Int.reduceLE, Int.reduceAdd, Int.reduceSub, Int.reduceMul, Int.reduceEq, Int.reduceNeg, reduceCtorEq, resV, resAll, ARes.ev, LV.flat, ite_true, ite_false, exists_eq_left', exists_eq_left, keyOf, implies_true, fillC, capOf]
  refine ev_loop (fun m fr N' => ∃ (i u : Nat), i + m = lnM x y n ∧ Pre M N' ∧ (u = M.length + 1 ∨ N.length ≤ u) ∧ Live N' u (.row (intL (skyL x y n (topsOf x y cs) i)) true 1) ∧
    fr 6 = .ref u 0 (skyL x y n (topsOf x y cs) i).length ∧ fr 7 = .ref w 0 L.length ∧ fr 8 = .I i ∧ N.length ≤ N'.length ∧ ∀ q, M.length + 2 ≤ q → q < N.length → N'[q]? = N[q]?) (lnM x y n)
    ⟨0, M.length + 1, by omega, hpN, .inl rfl, c8, rfl, rfl, rfl, Nat.le_refl _, fun _ _ _ => rfl⟩ ?_
  rintro m fr N' ⟨i, u, hi, hP, hu, bu, f6, f7, f8, hNN, hold⟩
  simp only [List.length_append, List.length_cons, List.length_nil] at hT
  have hTv := (hT.hold hold).v
  simp (disch := omega) only [f6, f7, f8, ↓SXd, SXu, slBounds, ↓sop, ↓aop, ↓reduceIte, LV.cells, AOp.dst, LV.I, LV.B, LV.U, LV.S, LV.nil, Nat.reduceEqDiff, Nat.reduceAdd, Nat.reduceMul, Nat.reduceSub, Nat.reduceLeDiff, Nat.reduceBEq, Nat.reduceDiv, Nat.reduceMod, Int.reduceToNat, Int.reduceLT, Int.reduceLE, Int.reduceAdd, Int.reduceSub, Int.reduceMul, Int.reduceEq, Int.reduceNeg, reduceCtorEq, resV, resAll, ARes.ev, LV.flat, ite_true, ite_false, exists_eq_left', exists_eq_left, keyOf, implies_true, fillC, capOf]
  refine condC_dec (fun hlt => ?_) (fun hlt => ?_)
  · have hiM : i < lnM x y n := by omega
    obtain ⟨t1, u1, e1, hg, hI⟩ := hTv.at (i := i) (by omega)
    injection e1 with e1 _ _
    subst e1
    have hgi := hLg i hiM
    have hll : (L.getD i []).length = lnN x y n := by rw [hgi, lineH_len]
    have hss : skyL x y n (topsOf x y cs) (i + 1) = skyL x y n (topsOf x y cs) i ++ [(L.getD i []).foldl max 0] := by rw [skyL_succ, ← hgi]; rfl
    have hsl := skyL_len (x := x) (y := y) (dir := n) (ts := topsOf x y cs) (m := i)
    generalize L.getD i [] = ln at hg hI hll hss
    simp (disch := omega) only [f6, f7, f8, hg, Nat.mul_one, Nat.zero_add, hll, ↓SXd, SXu, slBounds, ↓sop, ↓aop, ↓reduceIte, LV.cells, AOp.dst, LV.I, LV.B, LV.U, LV.S, LV.nil, Nat.reduceEqDiff, Nat.reduceAdd, Nat.reduceMul, Nat.reduceSub, Nat.reduceLeDiff, Nat.reduceBEq, Nat.reduceDiv, Nat.reduceMod, Int.reduceToNat, Int.reduceLT, Int.reduceLE, Int.reduceAdd, Int.reduceSub, Int.reduceMul, Int.reduceEq, Int.reduceNeg, reduceCtorEq, resV, resAll, ARes.ev, LV.flat, ite_true, ite_false, exists_eq_left', exists_eq_left, keyOf, implies_true, fillC, capOf]
    refine ev_loop (fun m2 fr N2 => ∃ k : Nat, k + m2 = ln.length ∧ N2 = N' ∧ fr 6 = .ref u 0 (skyL x y n (topsOf x y cs) i).length ∧ fr 7 = .ref w 0 L.length ∧ fr 8 = .I i ∧ fr 9 = .I ((ln.take k).foldl max 0) ∧ fr 10 = .I k) ln.length
      ⟨0, by omega, rfl, f6, f7, f8, rfl, rfl⟩ ?_
    clear f6 f7 f8
    rintro m2 fr N' ⟨k, hk, rfl, f6, f7, f8, f9, f10⟩
    simp (disch := omega) only [f6, f7, f8, f9, f10, hg, Nat.mul_one, Nat.zero_add, ↓SXd, SXu, slBounds, ↓sop, ↓aop, ↓reduceIte, LV.cells, AOp.dst, LV.I, LV.B, LV.U, LV.S, LV.nil, Nat.reduceEqDiff, Nat.reduceAdd, Nat.reduceMul, Nat.reduceSub, Nat.reduceLeDiff, Nat.reduceBEq, Nat.reduceDiv, Nat.reduceMod, Int.reduceToNat, Int.reduceLT, Int.reduceLE, Int.reduceAdd, Int.reduceSub, Int.reduceMul, Int.reduceEq, Int.reduceNeg, reduceCtorEq, resV, resAll, ARes.ev, LV.flat, ite_true, ite_false, exists_eq_left', exists_eq_left, keyOf, implies_true, fillC, capOf]
    refine condC_dec (fun hlt2 => ?_) (fun hlt2 => ?_)
    · have hkN : k < ln.length := by omega
      have hst := take_succ_foldl max 0 ln k 0 hkN
      have hc1 := Ints.get hI (k := k) hkN
      rw [Nat.zero_add] at hc1
      simp (disch := omega) only [f6, f7, f8, f9, f10, hg, hc1, Nat.mul_one, Nat.zero_add, ↓SXd, SXu, slBounds, ↓sop, ↓aop, ↓reduceIte, LV.cells, AOp.dst, LV.I, LV.B, LV.U, LV.S, LV.nil, Nat.reduceEqDiff, Nat.reduceAdd, Nat.reduceMul, Nat.reduceSub, Nat.reduceLeDiff, Nat.reduceBEq, Nat.reduceDiv, Nat.reduceMod, Int.reduceToNat, Int.reduceLT, Int.reduceLE, Int.reduceAdd, Int.reduceSub, Int.reduceMul, Int.reduceEq, Int.reduceNeg, reduceCtorEq, resV, resAll, ARes.ev, LV.flat, ite_true, ite_false, exists_eq_left', exists_eq_left, keyOf, implies_true, fillC, capOf]
      refine callK_of (h_l1Most) ?_
      simp (disch := omega) only [f6, f7, f8, f9, f10, ↓SXd, SXu, slBounds, ↓sop, ↓aop, ↓reduceIte, LV.cells, AOp.dst, LV.I, LV.B, LV.U, LV.S, LV.nil, Nat.reduceEqDiff, Nat.reduceAdd, Nat.reduceMul, Nat.reduceSub, Nat.reduceLeDiff, Nat.reduceBEq, Nat.reduceDiv, Nat.reduceMod, Int.reduceToNat, Int.reduceLT, Int.reduceLE, Int.reduceAdd, Int.reduceSub, Int.reduceMul, Int.reduceEq, Int.reduceNeg, reduceCtorEq, resV, resAll, ARes.ev, LV.flat, ite_true, ite_false, exists_eq_left', exists_eq_left, keyOf, implies_true, fillC, capOf]
      exact ⟨m2 - 1, by omega, k + 1, by omega, rfl, f6, f7, f8, by rw [hst]; rfl, eqI (natI _)⟩
    · have hkN : k = ln.length := by omega
      subst hkN
      rw [List.take_length] at f9
      simp (disch := omega) only [f6, f7, f8, f9, f10, ↓SXd, SXu, slBounds, ↓sop, ↓aop, ↓reduceIte, LV.cells, AOp.dst, LV.I, LV.B, LV.U, LV.S, LV.nil, Nat.reduceEqDiff, Nat.reduceAdd, Nat.reduceMul, Nat.reduceSub, Nat.reduceLeDiff, Nat.reduceBEq, Nat.reduceDiv, Nat.reduceMod, Int.reduceToNat, Int.reduceLT, Int.reduceLE, Int.reduceAdd, Int.reduceSub, Int.reduceMul, Int.reduceEq, Int.reduceNeg, reduceCtorEq, resV, resAll, ARes.ev, LV.flat, ite_true, ite_false, exists_eq_left', exists_eq_left, keyOf, implies_true, fillC, capOf]
      refine appendK_int bu (by omega) fun N5 l1 l2 l3 => ?_
      rw [← hss] at l2 ⊢
      simp (disch := omega) only [f6, f7, f8, f9, f10, ↓SXd, SXu, slBounds, ↓sop, ↓aop, ↓reduceIte, LV.cells, AOp.dst, LV.I, LV.B, LV.U, LV.S, LV.nil, Nat.reduceEqDiff, Nat.reduceAdd, Nat.reduceMul, Nat.reduceSub, Nat.reduceLeDiff, Nat.reduceBEq, Nat.reduceDiv, Nat.reduceMod, Int.reduceToNat, Int.reduceLT, Int.reduceLE, Int.reduceAdd, Int.reduceSub, Int.reduceMul, Int.reduceEq, Int.reduceNeg, reduceCtorEq, resV, resAll, ARes.ev, LV.flat, ite_true, ite_false, exists_eq_left', exists_eq_left, keyOf, implies_true, fillC, capOf]
      exact ⟨m - 1, by omega, i + 1, N'.length + 1, by omega, pre_step hP (by rcases hu with e | e <;> omega) (j := 2) l1 l3, .inr (by omega), l2, rfl, f7, eqI (natI _), by omega, fun q q1 q2 => by rw [l3 q (by rcases hu with e | e <;> omega) (by omega)]; exact hold q q1 q2⟩
  · have hiM : i = lnM x y n := by omega
    subst hiM
    simp (disch := omega) only [f6, f7, f8, ↓SXd, SXu, slBounds, ↓sop, ↓aop, ↓reduceIte, LV.cells, AOp.dst, LV.I, LV.B, LV.U, LV.S, LV.nil, Nat.reduceEqDiff, Nat.reduceAdd, Nat.reduceMul, Nat.reduceSub, Nat.reduceLeDiff, Nat.reduceBEq, Nat.reduceDiv, Nat.reduceMod, Int.reduceToNat, Int.reduceLT, Int.reduceLE, Int.reduceAdd, Int.reduceSub, Int.reduceMul, Int.reduceEq, Int.reduceNeg, reduceCtorEq, resV, resAll, ARes.ev, LV.flat, ite_true, ite_false, exists_eq_left', exists_eq_left, keyOf, implies_true, fillC, capOf]
    exact ⟨_, rfl, .inr ⟨_, _, rfl, bu.has⟩, hP⟩
end
end Go.Ab

/- The abstract code of some functions (written by a program of mine from the translation, by way of prepF). -/
namespace Go.Ab.C
open Go.Ab
def impl_TopHeights : AFn :=
 ⟨1, 9, [.tmp 2, .tmp 3],
 .seq (.ops [(none, .box 1 (.t 0)),
 (none, .mv 2 (.c .nil)),
 (none, .mv 3 (.c (.B false)))])
 (.seq (.seq (.ops [(none, .loadN 4 4 (.t 1)),
 (none, .call (some 5) F.impl_IsHeap [(.t 4)]),
 (none, .un 6 .not (.t 5))])
 (.cond (.t 6) (.seq (.ops [(none, .mv 2 (.c .nil)),
 (none, .mv 3 (.c (.B false)))])
 (.ret))
 (.skip)))
 (.seq (.ops [(none, .loadN 7 4 (.t 1)),
 (none, .call (some 8) F.impl_Heap_heights [(.t 7)]),
 (none, .mv 2 (.t 8)),
 (none, .mv 3 (.c (.B true)))])
 (.ret)))⟩
end Go.Ab.C

/- That the program has this code. -/
namespace Go.Ab.K
open Go Go.Ab
theorem impl_TopHeights : prepF Go.Proofs.Try.prog F.impl_TopHeights = some C.impl_TopHeights := by kernel_rfl
end Go.Ab.K

/- The abstract code of some functions (written by a program of mine from the translation, by way of prepF). -/
namespace Go.Ab.C
open Go.Ab
end Go.Ab.C

/- That the program has this code. -/
namespace Go.Ab.K
open Go Go.Ab
end Go.Ab.K

/- Contracts: least climbs, the program's side. -/
namespace Go.Ab
open Go
set_option linter.unusedSimpArgs false
set_option linter.unusedVariables false

end Go.Ab

/- Contracts: steps between columns and the climbs of walks, both sides; heights. -/
namespace Go.Ab
open Go
set_option linter.unusedSimpArgs false
set_option linter.unusedVariables false
set_option maxRecDepth 20000

/-- What StepColumns answers. -/
noncomputable def stepRes (x y z : Int) (cs : List Cell) (p s : Int) : Option (List Int) := by
  classical
  exact if HeapOK x y z cs ∧ (0 ≤ p ∧ p ≤ x * y - 1) ∧ 0 ≤ s then some (stepsOf x y (topsOf x y cs) p s) else none
/-- What TopHeights answers. -/
noncomputable def topRes (x y z : Int) (cs : List Cell) : Option (List Int) := by
  classical
  exact if HeapOK x y z cs then some (topsOf x y cs) else none
section
variable {x y z : Int} {t o : Nat} {cs : List Cell} {M : Mem} (h : Tri M t o cs) (hn : cs.length ≤ 1000000000)
include h hn
theorem g_TopHeights : CallsR PG F.impl_TopHeights [.agg [.I x, .I y, .I z, .ref t o cs.length]] M (IntsRes M (topRes x y z cs)) := by
  refine callsR_run K.impl_TopHeights rfl ?_
  simp (disch := omega) only [C.impl_TopHeights, ↓SXd, SXu, slBounds, ↓sop, ↓aop, ↓reduceIte, LV.cells, AOp.dst, LV.I, LV.B, LV.U, LV.S, LV.nil, Nat.reduceEqDiff, Nat.reduceAdd, Nat.reduceMul, Nat.reduceSub, Nat.reduceLeDiff, Nat.reduceBEq, Nat.reduceDiv, Nat.reduceMod, Int.reduceToNat, Int.reduceLT, Int.reduceLE, Int.reduceAdd, Int.reduceSub, Int.reduceMul, Int.reduceEq, Int.reduceNeg, reduceCtorEq, resV, resAll, ARes.ev, LV.flat, ite_true, ite_false, exists_eq_left', exists_eq_left, keyOf, implies_true, fillC, capOf]
  refine callK_of (g_IsHeap h.app hn) ?_
  simp (disch := omega) only [↓SXd, SXu, slBounds, ↓sop, ↓aop, ↓reduceIte, LV.cells, AOp.dst, LV.I, LV.B, LV.U, LV.S, LV.nil, Nat.reduceEqDiff, Nat.reduceAdd, Nat.reduceMul, Nat.reduceSub, Nat.reduceLeDiff, Nat.reduceBEq, Nat.reduceDiv, Nat.reduceMod, Int.reduceToNat, Int.reduceLT, Int.reduceLE, Int.reduceAdd, Int.reduceSub, Int.reduceMul, Int.reduceEq, Int.reduceNeg, reduceCtorEq, resV, resAll, ARes.ev, LV.flat, ite_true, ite_false, exists_eq_left', exists_eq_left, keyOf, implies_true, fillC, capOf]
  unfold topRes
  by_cases hH : HeapOK x y z cs
  · rw [if_pos hH]
    simp (disch := omega) only [hH, ↓SXd, SXu, slBounds, ↓sop, ↓aop, ↓reduceIte, LV.cells, AOp.dst, LV.I, LV.B, LV.U, LV.S, LV.nil, Nat.reduceEqDiff, Nat.reduceAdd, Nat.reduceMul, Nat.reduceSub, Nat.reduceLeDiff, Nat.reduceBEq, Nat.reduceDiv, Nat.reduceMod, Int.reduceToNat, Int.reduceLT, Int.reduceLE, Int.reduceAdd, Int.reduceSub, Int.reduceMul, Int.reduceEq, Int.reduceNeg, reduceCtorEq, resV, resAll, ARes.ev, LV.flat, ite_true, ite_false, exists_eq_left', exists_eq_left, keyOf, implies_true, fillC, capOf]
    refine callK_of (g_heights h.app hn hH) ?_
    simp (disch := omega) only [↓SXd, SXu, slBounds, ↓sop, ↓aop, ↓reduceIte, LV.cells, AOp.dst, LV.I, LV.B, LV.U, LV.S, LV.nil, Nat.reduceEqDiff, Nat.reduceAdd, Nat.reduceMul, Nat.reduceSub, Nat.reduceLeDiff, Nat.reduceBEq, Nat.reduceDiv, Nat.reduceMod, Int.reduceToNat, Int.reduceLT, Int.reduceLE, Int.reduceAdd, Int.reduceSub, Int.reduceMul, Int.reduceEq, Int.reduceNeg, reduceCtorEq, resV, resAll, ARes.ev, LV.flat, ite_true, ite_false, exists_eq_left', exists_eq_left, keyOf, implies_true, fillC, capOf]
    have hl := topsOf_len x y cs
    exact ⟨_, rfl, .inr ⟨_, [], by rw [Option.getD_some, hl], by rw [List.append_nil]; exact Live.newj (j := 1) rfl⟩, Newer.of (by omega), Pre.app _ _⟩
  · rw [if_neg hH]
    simp (disch := omega) only [hH, ↓SXd, SXu, slBounds, ↓sop, ↓aop, ↓reduceIte, LV.cells, AOp.dst, LV.I, LV.B, LV.U, LV.S, LV.nil, Nat.reduceEqDiff, Nat.reduceAdd, Nat.reduceMul, Nat.reduceSub, Nat.reduceLeDiff, Nat.reduceBEq, Nat.reduceDiv, Nat.reduceMod, Int.reduceToNat, Int.reduceLT, Int.reduceLE, Int.reduceAdd, Int.reduceSub, Int.reduceMul, Int.reduceEq, Int.reduceNeg, reduceCtorEq, resV, resAll, ARes.ev, LV.flat, ite_true, ite_false, exists_eq_left', exists_eq_left, keyOf, implies_true, fillC, capOf]
    exact ⟨_, rfl, SlI.nil, Newer.nil, Pre.app _ _⟩
end
end Go.Ab

/- Contracts: lines of columns, sights and sky lines of the program. -/
namespace Go.Ab
open Go
set_option linter.unusedSimpArgs false
set_option linter.unusedVariables false
set_option maxRecDepth 20000

theorem appendK_nilI {M : Mem} {v : Int} {A : LV → Mem → Prop} (hA : ∀ M', M'.length = M.length + 2 → Live M' (M.length + 1) (.row (intL [v]) true 1) → (∀ u, u < M.length → M'[u]? = M[u]?) → A (.ref (M.length + 1) 0 1) M') :
    appendK 1 8 (.val (.slice none 0 0)) (.ref M.length 0 1) (M ++ [some (.row [LV.val (.int .i64 v)] true 1)]) A := by
  have hw : getCells (M ++ [some (.row [LV.val (.int .i64 v)] true 1)]) M.length 0 (1 * 1) = some [LV.val (.int .i64 v)] := (Live.new (b := .row [LV.val (.int .i64 v)] true 1)).cells
  have := hA (M ++ [some (.row [LV.val (.int .i64 v)] true 1)] ++ [some (.row [LV.val (.int .i64 v)] true 1)]) (by simp) (by unfold Live; simp [intL]) fun u hu => by rw [List.append_assoc, List.getElem?_append_left hu]
  simp [appendK, lenS, winC, appV, appK, hw, andK]
  simpa using this
theorem g_Max {l : List Int} {u : Nat} {M : Mem} (h : Ints M u 0 l) (h0 : 0 < l.length) (hl : l.length ≤ 1000) (hp : ∀ a ∈ l, 0 ≤ a) : CallsTo PG F.slices_Max_Sint_int [.ref u 0 l.length] M (.I (mostL l)) M := by
  have hg0 := Ints.get h (k := 0) h0
  rw [Nat.zero_add] at hg0
  refine calls_run K.slices_Max_Sint_int rfl ?_
  have hlt : ¬ ((l.length : Nat) : Int) < 1 := by omega
  simp (disch := omega) only [C.slices_Max_Sint_int, hlt, hg0, Nat.mul_one, Nat.zero_add, ↓SXd, SXu, slBounds, ↓sop, ↓aop, ↓reduceIte, LV.cells, AOp.dst, LV.I, LV.B, LV.U, LV.S, LV.nil, Nat.reduceEqDiff, Nat.reduceAdd, Nat.reduceMul, Nat.reduceSub, Nat.reduceLeDiff, Nat.reduceBEq, Nat.reduceDiv, Nat.reduceMod, Int.reduceToNat, Int.reduceLT, Int.reduceLE, Int.reduceAdd, Int.reduceSub, Int.reduceMul, Int.reduceEq, Int.reduceNeg, reduceCtorEq, resV, resAll, ARes.ev, LV.flat, ite_true, ite_false, exists_eq_left', exists_eq_left, keyOf, implies_true, fillC, capOf]
  refine ev_loop (fun m fr M' => ∃ (k : Nat) (r : Int), k + m = l.length ∧ 1 ≤ k ∧ M' = M ∧ fr 0 = .ref u 0 l.length ∧ fr 3 = .I r ∧ fr 4 = .I k ∧ (∀ a ∈ l.take k, a ≤ r) ∧ r ∈ l.take k) (l.length - 1)
    ⟨1, l.getD 0 0, by omega, by omega, rfl, rfl, rfl, rfl, fun a ha => ?_, ?_⟩ ?_
  · obtain ⟨b, l', rfl⟩ : ∃ b l', l = b :: l' := by cases l with | nil => simp at h0 | cons b l' => exact ⟨b, l', rfl⟩
    simp at ha
    subst ha
    simp
  · obtain ⟨b, l', rfl⟩ : ∃ b l', l = b :: l' := by cases l with | nil => simp at h0 | cons b l' => exact ⟨b, l', rfl⟩
    simp
  rintro m fr M' ⟨k, r, hk, hk1, rfl, f0, f3, f4, h1, h2⟩
  simp (disch := omega) only [f0, f3, f4, ↓SXd, SXu, slBounds, ↓sop, ↓aop, ↓reduceIte, LV.cells, AOp.dst, LV.I, LV.B, LV.U, LV.S, LV.nil, Nat.reduceEqDiff, Nat.reduceAdd, Nat.reduceMul, Nat.reduceSub, Nat.reduceLeDiff, Nat.reduceBEq, Nat.reduceDiv, Nat.reduceMod, Int.reduceToNat, Int.reduceLT, Int.reduceLE, Int.reduceAdd, Int.reduceSub, Int.reduceMul, Int.reduceEq, Int.reduceNeg, reduceCtorEq, resV, resAll, ARes.ev, LV.flat, ite_true, ite_false, exists_eq_left', exists_eq_left, keyOf, implies_true, fillC, capOf]
  refine condC_dec (fun hlt2 => ?_) (fun hlt2 => ?_)
  · have hkl : k < l.length := by omega
    have hg := Ints.get h hkl
    rw [Nat.zero_add] at hg
    have e : l.take (k + 1) = l.take k ++ [l.getD k 0] := by rw [List.take_add_one, List.getElem?_eq_getElem hkl]; simp [hkl]
    simp (disch := omega) only [f0, f3, f4, hg, Nat.mul_one, Nat.zero_add, maxV, if_true, ite_true, ↓SXd, SXu, slBounds, ↓sop, ↓aop, ↓reduceIte, LV.cells, AOp.dst, LV.I, LV.B, LV.U, LV.S, LV.nil, Nat.reduceEqDiff, Nat.reduceAdd, Nat.reduceMul, Nat.reduceSub, Nat.reduceLeDiff, Nat.reduceBEq, Nat.reduceDiv, Nat.reduceMod, Int.reduceToNat, Int.reduceLT, Int.reduceLE, Int.reduceAdd, Int.reduceSub, Int.reduceMul, Int.reduceEq, Int.reduceNeg, reduceCtorEq, resV, resAll, ARes.ev, LV.flat, ite_true, ite_false, exists_eq_left', exists_eq_left, keyOf, implies_true, fillC, capOf]
    refine ⟨m - 1, by omega, k + 1, max r (l.getD k 0), by omega, by omega, rfl, f0, rfl, eqI (natI _), fun a ha => ?_, ?_⟩
    · rw [e] at ha
      rcases List.mem_append.1 ha with ha | ha
      · have := h1 a ha; omega
      · rw [List.mem_singleton.1 ha]; omega
    · rw [e]
      rcases Int.le_total r (l.getD k 0) with hh | hh
      · rw [Int.max_eq_right hh]; simp
      · rw [Int.max_eq_left hh]; exact List.mem_append_left _ h2
  · have hkl : k = l.length := by omega
    subst hkl
    rw [List.take_length] at h1 h2
    rw [most_eq hp h1 h2]
    simp (disch := omega) only [f0, f3, f4, ↓SXd, SXu, slBounds, ↓sop, ↓aop, ↓reduceIte, LV.cells, AOp.dst, LV.I, LV.B, LV.U, LV.S, LV.nil, Nat.reduceEqDiff, Nat.reduceAdd, Nat.reduceMul, Nat.reduceSub, Nat.reduceLeDiff, Nat.reduceBEq, Nat.reduceDiv, Nat.reduceMod, Int.reduceToNat, Int.reduceLT, Int.reduceLE, Int.reduceAdd, Int.reduceSub, Int.reduceMul, Int.reduceEq, Int.reduceNeg, reduceCtorEq, resV, resAll, ARes.ev, LV.flat, ite_true, ite_false, exists_eq_left', exists_eq_left, keyOf, implies_true, fillC, capOf]
    exact cmp_drop0 rfl
theorem g_Reverse {l : List Int} {u : Nat} {M : Mem} (h : Live M u (.row (intL l) true 1)) (hl : l.length ≤ 1000) (h0 : 0 < l.length) : CallsR PG F.slices_Reverse_Sint_int [.ref u 0 l.length] M fun v N => v = .tup [] ∧ Live N u (.row (intL l.reverse) true 1) ∧ N.length = M.length ∧ ∀ q, q ≠ u → N[q]? = M[q]? := by
  refine callsR_run K.slices_Reverse_Sint_int rfl ?_
  simp (disch := omega) only [C.slices_Reverse_Sint_int, ↓SXd, SXu, slBounds, ↓sop, ↓aop, ↓reduceIte, LV.cells, AOp.dst, LV.I, LV.B, LV.U, LV.S, LV.nil, Nat.reduceEqDiff, Nat.reduceAdd, Nat.reduceMul, Nat.reduceSub, Nat.reduceLeDiff, Nat.reduceBEq, Nat.reduceDiv, Nat.reduceMod, Int.reduceToNat, Int.reduceLT, Int.reduceLE, Int.reduceAdd, Int.reduceSub, Int.reduceMul, Int.reduceEq, Int.reduceNeg, reduceCtorEq, resV, resAll, ARes.ev, LV.flat, ite_true, ite_false, exists_eq_left', exists_eq_left, keyOf, implies_true, fillC, capOf]
  refine ev_loop (fun m fr M' => ∃ (k : Nat) (c : List Int), k + m = l.length ∧ c.length = l.length ∧ Live M' u (.row (intL c) true 1) ∧ M'.length = M.length ∧ (∀ q, q ≠ u → M'[q]? = M[q]?) ∧ (∀ q, q < l.length → c.getD q 0 = if q < k ∨ l.length - 1 - k < q then l.getD (l.length - 1 - q) 0 else l.getD q 0) ∧ 2 * k ≤ l.length + 1 ∧
    fr 0 = .ref u 0 l.length ∧ fr 2 = .I k ∧ fr 3 = .I ((l.length : Int) - 1 - k)) l.length
    ⟨0, l, by omega, rfl, h, rfl, fun _ _ => rfl, fun q hq => by rw [if_neg (by omega)], by omega, rfl, rfl, by rw [show ((l.length : Int) - 1 - (0 : Nat)) = (l.length : Int) - 1 by omega]; rfl⟩ ?_
  rintro m fr M' ⟨k, c, hk, hcl, hu, hM, hold, hg, h2k, f0, f2, f3⟩
  simp (disch := omega) only [f0, f2, f3, ↓SXd, SXu, slBounds, ↓sop, ↓aop, ↓reduceIte, LV.cells, AOp.dst, LV.I, LV.B, LV.U, LV.S, LV.nil, Nat.reduceEqDiff, Nat.reduceAdd, Nat.reduceMul, Nat.reduceSub, Nat.reduceLeDiff, Nat.reduceBEq, Nat.reduceDiv, Nat.reduceMod, Int.reduceToNat, Int.reduceLT, Int.reduceLE, Int.reduceAdd, Int.reduceSub, Int.reduceMul, Int.reduceEq, Int.reduceNeg, reduceCtorEq, resV, resAll, ARes.ev, LV.flat, ite_true, ite_false, exists_eq_left', exists_eq_left, keyOf, implies_true, fillC, capOf]
  refine condC_dec (fun hlt => ?_) (fun hlt => ?_)
  · have hk1 : k < l.length := by omega
    have hk2 : l.length - 1 - k < l.length := by omega
    have hki : (l.length : Int) - 1 - k = ((l.length - 1 - k : Nat) : Int) := by omega
    have g1 := Ints.get hu.has (k := k) (by omega)
    have g2 := Ints.get hu.has (k := l.length - 1 - k) (by omega)
    rw [Nat.zero_add] at g1 g2
    simp (disch := omega) only [f0, f2, f3, hki, g1, g2, Nat.mul_one, Nat.zero_add, ↓SXd, SXu, slBounds, ↓sop, ↓aop, ↓reduceIte, LV.cells, AOp.dst, LV.I, LV.B, LV.U, LV.S, LV.nil, Nat.reduceEqDiff, Nat.reduceAdd, Nat.reduceMul, Nat.reduceSub, Nat.reduceLeDiff, Nat.reduceBEq, Nat.reduceDiv, Nat.reduceMod, Int.reduceToNat, Int.reduceLT, Int.reduceLE, Int.reduceAdd, Int.reduceSub, Int.reduceMul, Int.reduceEq, Int.reduceNeg, reduceCtorEq, resV, resAll, ARes.ev, LV.flat, ite_true, ite_false, exists_eq_left', exists_eq_left, keyOf, implies_true, fillC, capOf]
    refine memK_int hu (show k < c.length by omega) fun N1 k1 k2 k3 => ?_
    simp (disch := omega) only [f0, f2, f3, ↓SXd, SXu, slBounds, ↓sop, ↓aop, ↓reduceIte, LV.cells, AOp.dst, LV.I, LV.B, LV.U, LV.S, LV.nil, Nat.reduceEqDiff, Nat.reduceAdd, Nat.reduceMul, Nat.reduceSub, Nat.reduceLeDiff, Nat.reduceBEq, Nat.reduceDiv, Nat.reduceMod, Int.reduceToNat, Int.reduceLT, Int.reduceLE, Int.reduceAdd, Int.reduceSub, Int.reduceMul, Int.reduceEq, Int.reduceNeg, reduceCtorEq, resV, resAll, ARes.ev, LV.flat, ite_true, ite_false, exists_eq_left', exists_eq_left, keyOf, implies_true, fillC, capOf]
    refine memK_int k2 (show l.length - 1 - k < (c.set k (c.getD (l.length - 1 - k) 0)).length by simp; omega) fun N2 w1 w2 w3 => ?_
    simp (disch := omega) only [f0, f2, f3, ↓SXd, SXu, slBounds, ↓sop, ↓aop, ↓reduceIte, LV.cells, AOp.dst, LV.I, LV.B, LV.U, LV.S, LV.nil, Nat.reduceEqDiff, Nat.reduceAdd, Nat.reduceMul, Nat.reduceSub, Nat.reduceLeDiff, Nat.reduceBEq, Nat.reduceDiv, Nat.reduceMod, Int.reduceToNat, Int.reduceLT, Int.reduceLE, Int.reduceAdd, Int.reduceSub, Int.reduceMul, Int.reduceEq, Int.reduceNeg, reduceCtorEq, resV, resAll, ARes.ev, LV.flat, ite_true, ite_false, exists_eq_left', exists_eq_left, keyOf, implies_true, fillC, capOf]
    have hul := hu.lt
    refine ⟨m - 1, by omega, k + 1, (c.set k (c.getD (l.length - 1 - k) 0)).set (l.length - 1 - k) (c.getD k 0), by omega, by simp [hcl], w2, by omega, fun q hq => ?_, fun q hq => ?_, by omega, f0, eqI (natI _), eqI (by omega)⟩
    · rcases Nat.lt_or_ge q N1.length with h1 | h1
      · rw [w3 q hq h1]
        rcases Nat.lt_or_ge q M'.length with h2 | h2
        · rw [k3 q hq h2]; exact hold q hq
        · omega
      · rw [List.getElem?_eq_none (by omega), List.getElem?_eq_none (by omega)]
    · have ge : ∀ (v : List Int) (i : Nat) (a : Int) (q : Nat), i < v.length → (v.set i a).getD q 0 = if i = q then a else v.getD q 0 := fun v i a q hi => by
        rw [List.getD_eq_getElem?_getD, List.getElem?_set]
        by_cases e : i = q
        · subst e; simp [hi]
        · simp [e]
      rw [ge _ _ _ _ (by simp; omega), ge _ _ _ _ (by omega), hg k hk1, hg _ hk2, hg q hq]
      by_cases e1 : l.length - 1 - k = q
      · rw [if_pos e1, if_neg (by omega), if_pos (by omega)]
        congr 1
        omega
      · rw [if_neg e1]
        by_cases e2 : k = q
        · rw [if_pos e2, if_neg (by omega), if_pos (by omega)]
          congr 1
          omega
        · rw [if_neg e2]
          by_cases e3 : q < k ∨ l.length - 1 - k < q
          · rw [if_pos e3, if_pos (by omega)]
          · rw [if_neg e3, if_neg (by omega)]
  · have hfin : c = l.reverse := by
      refine ints_same (by simp [hcl]) fun q hq => ?_
      rw [hcl] at hq
      rw [hg q hq, List.getD_eq_getElem?_getD (l := l.reverse), List.getElem?_reverse hq, ← List.getD_eq_getElem?_getD]
      split
      · rfl
      · rw [show l.length - 1 - q = q by omega]
    subst hfin
    simp (disch := omega) only [f0, f2, f3, ↓SXd, SXu, slBounds, ↓sop, ↓aop, ↓reduceIte, LV.cells, AOp.dst, LV.I, LV.B, LV.U, LV.S, LV.nil, Nat.reduceEqDiff, Nat.reduceAdd, Nat.reduceMul, Nat.reduceSub, Nat.reduceLeDiff, Nat.reduceBEq, Nat.reduceDiv, Nat.reduceMod, Int.reduceToNat, Int.reduceLT, Int.reduceLE, Int.reduceAdd, Int.reduceSub, Int.reduceMul, Int.reduceEq, Int.reduceNeg, reduceCtorEq, resV, resAll, ARes.ev, LV.flat, ite_true, ite_false, exists_eq_left', exists_eq_left, keyOf, implies_true, fillC, capOf]
    exact ⟨rfl, hu, hM, hold⟩
theorem g_isFlat {x y z d : Int} {t : Nat} {cs : List Cell} {M : Mem} (h : Tri M t 0 cs) (hn : cs.length ≤ 1000000000) : CallsTo PG F.impl_isFlat [.agg [.I x, .I y, .I z, .ref t 0 cs.length], .I d] M (.B (flatB x y z cs d)) M := by
  refine calls_run K.impl_isFlat rfl ?_
  simp (disch := omega) only [C.impl_isFlat, ↓SXd, SXu, slBounds, ↓sop, ↓aop, ↓reduceIte, LV.cells, AOp.dst, LV.I, LV.B, LV.U, LV.S, LV.nil, Nat.reduceEqDiff, Nat.reduceAdd, Nat.reduceMul, Nat.reduceSub, Nat.reduceLeDiff, Nat.reduceBEq, Nat.reduceDiv, Nat.reduceMod, Int.reduceToNat, Int.reduceLT, Int.reduceLE, Int.reduceAdd, Int.reduceSub, Int.reduceMul, Int.reduceEq, Int.reduceNeg, reduceCtorEq, resV, resAll, ARes.ev, LV.flat, ite_true, ite_false, exists_eq_left', exists_eq_left, keyOf, implies_true, fillC, capOf]
  refine callK_of (g_IsHeap h.app hn) ?_
  simp (disch := omega) only [↓SXd, SXu, slBounds, ↓sop, ↓aop, ↓reduceIte, LV.cells, AOp.dst, LV.I, LV.B, LV.U, LV.S, LV.nil, Nat.reduceEqDiff, Nat.reduceAdd, Nat.reduceMul, Nat.reduceSub, Nat.reduceLeDiff, Nat.reduceBEq, Nat.reduceDiv, Nat.reduceMod, Int.reduceToNat, Int.reduceLT, Int.reduceLE, Int.reduceAdd, Int.reduceSub, Int.reduceMul, Int.reduceEq, Int.reduceNeg, reduceCtorEq, resV, resAll, ARes.ev, LV.flat, ite_true, ite_false, exists_eq_left', exists_eq_left, keyOf, implies_true, fillC, capOf]
  by_cases hH : HeapOK x y z cs
  rotate_left
  · rw [show flatB x y z cs d = false from decide_eq_false fun e => hH e.1]
    simp (disch := omega) only [hH, ↓SXd, SXu, slBounds, ↓sop, ↓aop, ↓reduceIte, LV.cells, AOp.dst, LV.I, LV.B, LV.U, LV.S, LV.nil, Nat.reduceEqDiff, Nat.reduceAdd, Nat.reduceMul, Nat.reduceSub, Nat.reduceLeDiff, Nat.reduceBEq, Nat.reduceDiv, Nat.reduceMod, Int.reduceToNat, Int.reduceLT, Int.reduceLE, Int.reduceAdd, Int.reduceSub, Int.reduceMul, Int.reduceEq, Int.reduceNeg, reduceCtorEq, resV, resAll, ARes.ev, LV.flat, ite_true, ite_false, exists_eq_left', exists_eq_left, keyOf, implies_true, fillC, capOf]
    exact cmp_drop rfl
  simp (disch := omega) only [hH, ↓SXd, SXu, slBounds, ↓sop, ↓aop, ↓reduceIte, LV.cells, AOp.dst, LV.I, LV.B, LV.U, LV.S, LV.nil, Nat.reduceEqDiff, Nat.reduceAdd, Nat.reduceMul, Nat.reduceSub, Nat.reduceLeDiff, Nat.reduceBEq, Nat.reduceDiv, Nat.reduceMod, Int.reduceToNat, Int.reduceLT, Int.reduceLE, Int.reduceAdd, Int.reduceSub, Int.reduceMul, Int.reduceEq, Int.reduceNeg, reduceCtorEq, resV, resAll, ARes.ev, LV.flat, ite_true, ite_false, exists_eq_left', exists_eq_left, keyOf, implies_true, fillC, capOf]
  refine callK_of (g_within) ?_
  simp (disch := omega) only [↓SXd, SXu, slBounds, ↓sop, ↓aop, ↓reduceIte, LV.cells, AOp.dst, LV.I, LV.B, LV.U, LV.S, LV.nil, Nat.reduceEqDiff, Nat.reduceAdd, Nat.reduceMul, Nat.reduceSub, Nat.reduceLeDiff, Nat.reduceBEq, Nat.reduceDiv, Nat.reduceMod, Int.reduceToNat, Int.reduceLT, Int.reduceLE, Int.reduceAdd, Int.reduceSub, Int.reduceMul, Int.reduceEq, Int.reduceNeg, reduceCtorEq, resV, resAll, ARes.ev, LV.flat, ite_true, ite_false, exists_eq_left', exists_eq_left, keyOf, implies_true, fillC, capOf]
  rw [show flatB x y z cs d = decide (0 ≤ d ∧ d ≤ 1) from decide_eq_decide.2 ⟨fun e => e.2, fun e => ⟨hH, e⟩⟩]
  exact cmp_drop rfl
/-- A row of a table in the making: nothing yet, or a block of its own. -/
def RowM (N : Mem) (r : LV) (l : List Int) (u : Nat) : Prop := (l = [] ∧ r = .nil) ∨ (l ≠ [] ∧ r = .ref u 0 l.length ∧ Live N u (.row (intL l) true 1))
theorem RowM.at {N N' : Mem} {r : LV} {l : List Int} {u : Nat} (h : RowM N r l u) (hk : l ≠ [] → N'[u]? = N[u]?) : RowM N' r l u := by
  rcases h with h | ⟨h1, h2, h3⟩
  · exact .inl h
  · refine .inr ⟨h1, h2, ?_⟩
    unfold Live at h3 ⊢
    rw [hk h1]; exact h3
theorem nil_rows (n : Nat) : (List.replicate n [LV.val (Value.slice none 0 0)]).flatten = List.replicate n LV.nil := by
  induction n with
  | zero => rfl
  | succ n ih => simp only [List.replicate_succ, List.flatten_cons, ih]; rfl
theorem oth_lt {x y : Int} {dir p : Nat} (hx : 1 ≤ x ∧ x ≤ 4) (hy : 1 ≤ y ∧ y ≤ 4) (hd : dir < 2) (hp : p < (x * y).toNat) : othN y.toNat dir p < lnM x y dir := by
  obtain ⟨a, rfl⟩ : ∃ a : Nat, x = a := ⟨x.toNat, by omega⟩
  obtain ⟨b, rfl⟩ : ∃ b : Nat, y = b := ⟨y.toNat, by omega⟩
  rw [show ((a : Int) * b).toNat = a * b by rw [← Int.natCast_mul, Int.toNat_natCast]] at hp
  unfold othN lnM
  rcases (show dir = 0 ∨ dir = 1 by omega) with rfl | rfl
  · simp only [if_true, Int.toNat_natCast]
    exact Nat.mod_lt _ (by omega)
  · simp only [Nat.one_ne_zero, if_false, Int.toNat_natCast]
    exact Nat.div_lt_of_lt_mul (by rw [Nat.mul_comm]; exact hp)
theorem g_rows {x y z : Int} {t dir : Nat} {cs : List Cell} {M : Mem} (h : Tri M t 0 cs) (hn : cs.length ≤ 1000000000) (hH : HeapOK x y z cs) (hd : dir < 2) : CallsR PG F.impl_Heap_rows [.agg [.I x, .I y, .I z, .ref t 0 cs.length], .I dir] M fun v N => ∃ (tb : Nat) (us : Nat → Nat) (refs : List LV), v = .ref tb 0 (lnM x y dir) ∧ Live N tb (.row refs true 1) ∧ refs.length = lnM x y dir ∧ M.length ≤ tb ∧ Pre M N ∧
    (∀ i, i < lnM x y dir → refs[i]? = some (.ref (us i) 0 (lnN x y dir)) ∧ Live N (us i) (.row (intL (lineH x y dir (topsOf x y cs) i (lnN x y dir))) true 1) ∧ M.length ≤ us i ∧ us i ≠ tb) ∧ ∀ i j, i < lnM x y dir → j < lnM x y dir → i ≠ j → us i ≠ us j := by
  have hS := hH.1
  have hlen := hH.len
  obtain ⟨sA, sB, hM4, hN4, hN1⟩ := ln_side hS hd
  have htl := topsOf_len x y cs
  have hb := mul_bound hS.1 hS.2.1
  have hix : [LV.I x, .I y, .I z][(1 - (dir : Int)).toNat]? = some (.I (lnM x y dir : Nat)) := by
    rw [← sA]
    rcases (show dir = 0 ∨ dir = 1 by omega) with rfl | rfl <;> rfl
  refine callsR_run K.impl_Heap_rows rfl ?_
  simp (disch := omega) only [C.impl_Heap_rows, ↓SXd, SXu, slBounds, ↓sop, ↓aop, ↓reduceIte, LV.cells, AOp.dst, LV.I, LV.B, LV.U, LV.S, LV.nil, Nat.reduceEqDiff, Nat.reduceAdd, Nat.reduceMul, Nat.reduceSub, Nat.reduceLeDiff, Nat.reduceBEq, Nat.reduceDiv, Nat.reduceMod, Int.reduceToNat, Int.reduceLT, Int.reduceLE, Int.reduceAdd, Int.reduceSub, Int.reduceMul, Int.reduceEq, Int.reduceNeg, reduceCtorEq, resV, resAll, ARes.ev, LV.flat, ite_true, ite_false, exists_eq_left', exists_eq_left, keyOf, implies_true, fillC, capOf]
  refine callK_of (g_box) ?_
  simp (disch := omega) only [hix, nil_rows, ↓SXd, SXu, slBounds, ↓sop, ↓aop, ↓reduceIte, LV.cells, AOp.dst, LV.I, LV.B, LV.U, LV.S, LV.nil, Nat.reduceEqDiff, Nat.reduceAdd, Nat.reduceMul, Nat.reduceSub, Nat.reduceLeDiff, Nat.reduceBEq, Nat.reduceDiv, Nat.reduceMod, Int.reduceToNat, Int.reduceLT, Int.reduceLE, Int.reduceAdd, Int.reduceSub, Int.reduceMul, Int.reduceEq, Int.reduceNeg, reduceCtorEq, resV, resAll, ARes.ev, LV.flat, ite_true, ite_false, exists_eq_left', exists_eq_left, keyOf, implies_true, fillC, capOf]
  refine callK_of (g_heights h.app hn hH) ?_
  simp (disch := omega) only [↓SXd, SXu, slBounds, ↓sop, ↓aop, ↓reduceIte, LV.cells, AOp.dst, LV.I, LV.B, LV.U, LV.S, LV.nil, Nat.reduceEqDiff, Nat.reduceAdd, Nat.reduceMul, Nat.reduceSub, Nat.reduceLeDiff, Nat.reduceBEq, Nat.reduceDiv, Nat.reduceMod, Int.reduceToNat, Int.reduceLT, Int.reduceLE, Int.reduceAdd, Int.reduceSub, Int.reduceMul, Int.reduceEq, Int.reduceNeg, reduceCtorEq, resV, resAll, ARes.ev, LV.flat, ite_true, ite_false, exists_eq_left', exists_eq_left, keyOf, implies_true, fillC, capOf]
  generalize hts : topsOf x y cs = ts at htl ⊢
  have hy0 : y ≠ 0 := by have := hS.2.1; omega
  refine ev_loop (fun m fr M' => ∃ (p : Nat) (us : Nat → Nat) (refs : List LV), p + m = (x * y).toNat ∧ Pre M M' ∧ M.length + 3 ≤ M'.length ∧ Live M' M.length (.row [.I x, .I y, .I z, .ref t 0 cs.length] true 0) ∧ Live M' (M.length + 1) (.row refs true 1) ∧ refs.length = lnM x y dir ∧ Live M' (M.length + 2) (.row (intL ts) true 1) ∧
    (∀ i, i < lnM x y dir → ∃ r, refs[i]? = some r ∧ RowM M' r (rowP y dir ts i p) (us i) ∧ (rowP y dir ts i p ≠ [] → M.length + 3 ≤ us i ∧ us i < M'.length)) ∧ (∀ i j, i < lnM x y dir → j < lnM x y dir → i ≠ j → rowP y dir ts i p ≠ [] → rowP y dir ts j p ≠ [] → us i ≠ us j) ∧
    fr 1 = .I dir ∧ fr 2 = .ptr M.length 0 ∧ fr 5 = .ref (M.length + 1) 0 (lnM x y dir) ∧ fr 17 = .ref (M.length + 2) 0 (x * y).toNat ∧ fr 18 = .I ((x * y).toNat : Nat) ∧ fr 19 = .I p) (x * y).toNat
    ⟨0, fun _ => 0, List.replicate (lnM x y dir) .nil, by omega, Pre.app _ _, by simp, Live.new, Live.newj (j := 1) rfl, by simp, Live.newj (j := 2) rfl, fun i hi => ⟨.nil, by simp [hi], .inl ⟨rfl, rfl⟩, fun e => (e rfl).elim⟩, fun i j _ _ _ e => (e rfl).elim, rfl, rfl, rfl, rfl, rfl, rfl⟩ ?_
  rintro m fr M' ⟨p, us, refs, hp, hpre, hM', b2, bt, hrl, bh, hrow, hdis, f1, f2, f5, f17, f18, f19⟩
  simp (disch := omega) only [f1, f2, f5, f17, f18, f19, ↓SXd, SXu, slBounds, ↓sop, ↓aop, ↓reduceIte, LV.cells, AOp.dst, LV.I, LV.B, LV.U, LV.S, LV.nil, Nat.reduceEqDiff, Nat.reduceAdd, Nat.reduceMul, Nat.reduceSub, Nat.reduceLeDiff, Nat.reduceBEq, Nat.reduceDiv, Nat.reduceMod, Int.reduceToNat, Int.reduceLT, Int.reduceLE, Int.reduceAdd, Int.reduceSub, Int.reduceMul, Int.reduceEq, Int.reduceNeg, reduceCtorEq, resV, resAll, ARes.ev, LV.flat, ite_true, ite_false, exists_eq_left', exists_eq_left, keyOf, implies_true, fillC, capOf]
  refine condC_dec (fun hlt => ?_) (fun hlt => ?_)
  · have hpx : p < (x * y).toNat := by omega
    have ho := oth_lt hS.1 hS.2.1 hd hpx
    have hcell := bh.cell (o := p)
    rw [intL_get (by omega)] at hcell
    have hoi : [LV.I ((p : Int).tdiv y), .I ((p : Int).tmod y)][(1 - (dir : Int)).toNat]? = some (.I (othN y.toNat dir p : Nat)) := by
      have hyy := hS.2.1
      unfold othN
      rcases (show dir = 0 ∨ dir = 1 by omega) with rfl | rfl
      · show some (LV.I ((p : Int).tmod y)) = _
        rw [if_pos rfl, Int.tmod_eq_emod_of_nonneg (by omega)]
        congr 2
        rw [Int.natCast_emod]
        congr 1
      · show some (LV.I ((p : Int).tdiv y)) = _
        rw [if_neg (by omega), Int.tdiv_eq_ediv_of_nonneg (by omega)]
        congr 2
        rw [Int.natCast_ediv]
        congr 1
    have hdv := div_bound hS.2.1 (p := (p : Int)) (by omega)
    have hps := fun i => rowP_succ (y := y) (dir := dir) (i := i) (n := p) (ts := ts)
    generalize othN y.toNat dir p = o at ho hoi hps
    generalize ts.getD p 0 = hv at hcell hps
    obtain ⟨r, hr1, hr2, hr3⟩ := hrow o ho
    have hbr := bt.cell (o := o)
    rw [hr1] at hbr
    have hb2l := b2.lt
    have hbtl := bt.lt
    have hbhl := bh.lt
    simp (disch := omega) only [f1, f2, f5, f17, f18, f19, hcell, b2.cell, Nat.mul_one, Nat.zero_add, splice, hoi, ↓SXd, SXu, slBounds, ↓sop, ↓aop, ↓reduceIte, LV.cells, AOp.dst, LV.I, LV.B, LV.U, LV.S, LV.nil, Nat.reduceEqDiff, Nat.reduceAdd, Nat.reduceMul, Nat.reduceSub, Nat.reduceLeDiff, Nat.reduceBEq, Nat.reduceDiv, Nat.reduceMod, Int.reduceToNat, Int.reduceLT, Int.reduceLE, Int.reduceAdd, Int.reduceSub, Int.reduceMul, Int.reduceEq, Int.reduceNeg, reduceCtorEq, resV, resAll, ARes.ev, LV.flat, ite_true, ite_false, exists_eq_left', exists_eq_left, keyOf, implies_true, fillC, capOf]
    have hpN : Pre M' (M' ++ [some (.row [.I ((p : Int).tdiv y), .I ((p : Int).tmod y)] true 0)]) := Pre.app _ _
    have hN1 : (M' ++ [some (Blk.row [.I ((p : Int).tdiv y), .I ((p : Int).tmod y)] true 0)]).length = M'.length + 1 := by simp
    generalize M' ++ [some (Blk.row [.I ((p : Int).tdiv y), .I ((p : Int).tmod y)] true 0)] = N1 at hpN hN1 ⊢
    have c2 := b2.pre hpN
    have ct := bt.pre hpN
    have ch := bh.pre hpN
    have hbr := ct.cell (o := o)
    rw [hr1] at hbr
    have hpre1 := hpre.trans hpN
    have fin : ∀ (N2 N3 : Mem), N2.length = N1.length + 2 → Live N2 (N1.length + 1) (.row (intL (rowP y dir ts o p ++ [hv])) true 1) → (∀ q, q < N1.length → (rowP y dir ts o p ≠ [] → q ≠ us o) → N2[q]? = N1[q]?) → N3.length = N2.length → Live N3 (M.length + 1) (.row (refs.set o (.ref (N1.length + 1) 0 (rowP y dir ts o p ++ [hv]).length)) true 1) → (∀ q, q ≠ M.length + 1 → q < N2.length → N3[q]? = N2[q]?) →
        ∃ m', m' < m ∧ ∃ (p' : Nat) (us : Nat → Nat) (refs : List LV), p' + m' = (x * y).toNat ∧ Pre M N3 ∧ M.length + 3 ≤ N3.length ∧ Live N3 M.length (.row [.I x, .I y, .I z, .ref t 0 cs.length] true 0) ∧ Live N3 (M.length + 1) (.row refs true 1) ∧ refs.length = lnM x y dir ∧ Live N3 (M.length + 2) (.row (intL ts) true 1) ∧
          (∀ i, i < lnM x y dir → ∃ r, refs[i]? = some r ∧ RowM N3 r (rowP y dir ts i p') (us i) ∧ (rowP y dir ts i p' ≠ [] → M.length + 3 ≤ us i ∧ us i < N3.length)) ∧ (∀ i j, i < lnM x y dir → j < lnM x y dir → i ≠ j → rowP y dir ts i p' ≠ [] → rowP y dir ts j p' ≠ [] → us i ≠ us j) ∧
          fr 1 = .I dir ∧ fr 2 = .ptr M.length 0 ∧ fr 5 = .ref (M.length + 1) 0 (lnM x y dir) ∧ fr 17 = .ref (M.length + 2) 0 (x * y).toNat ∧ fr 18 = .I ((x * y).toNat : Nat) ∧ (.I ((p : Int) + 1) : LV) = .I p' := fun N2 N3 a1 a2 a3 a4 a5 a6 => by
      have same : ∀ q, q < N1.length → q ≠ M.length + 1 → (rowP y dir ts o p ≠ [] → q ≠ us o) → N3[q]? = N1[q]? := fun q q1 q2 q3 => by rw [a6 q q2 (by omega), a3 q q1 q3]
      have live : ∀ {q : Nat} {b : Blk}, Live N1 q b → q ≠ M.length + 1 → (rowP y dir ts o p ≠ [] → q ≠ us o) → Live N3 q b := fun {q b} hl q2 q3 => by
        have := hl.lt
        unfold Live at hl ⊢
        rw [same q this q2 q3]; exact hl
      obtain ⟨U, hU1, hU2⟩ : ∃ U : Nat → Nat, U o = N1.length + 1 ∧ ∀ i, i ≠ o → U i = us i := ⟨fun i => if i = o then N1.length + 1 else us i, if_pos rfl, fun i hio => if_neg hio⟩
      refine ⟨m - 1, by omega, p + 1, U, refs.set o (.ref (N1.length + 1) 0 (rowP y dir ts o p ++ [hv]).length), by omega, ?_, by omega, live c2 (by omega) (fun e => by have := hr3 e; omega), a5, by simp [hrl], live ch (by omega) (fun e => by have := hr3 e; omega), fun i hi => ?_, fun i j hi hj hij hni hnj => ?_, f1, f2, f5, f17, f18, eqI (natI _)⟩
      · exact ⟨by have := hpre1.1; omega, fun q hq => by rw [same q (by omega) (by omega) (fun e => by have := hr3 e; omega)]; exact hpre1.2 q hq⟩
      · rw [hps i]
        by_cases hio : i = o
        · subst hio
          rw [if_pos rfl, hU1]
          refine ⟨.ref (N1.length + 1) 0 (rowP y dir ts i p ++ [hv]).length, by rw [List.getElem?_set]; simp [hrl, hi], .inr ⟨by simp, rfl, ?_⟩, fun _ => ⟨by omega, by omega⟩⟩
          unfold Live at a2 ⊢
          rw [a6 _ (by omega) (by omega)]; exact a2
        · rw [if_neg (fun e => hio e.symm), hU2 i hio]
          obtain ⟨r', q1, q2, q3⟩ := hrow i hi
          refine ⟨r', by rw [List.getElem?_set_ne (fun e => hio e.symm)]; exact q1, q2.at fun e => ?_, fun e => by have := q3 e; omega⟩
          have h9 := q3 e
          rw [same _ (by omega) (by omega) (fun e2 => hdis i o hi ho hio e e2)]
          exact hpN.2 _ h9.2
      · rw [hps i] at hni
        rw [hps j] at hnj
        by_cases hio : i = o
        · subst hio
          rw [if_neg (fun e => hij e)] at hnj
          rw [hU1, hU2 j (fun e => hij e.symm)]
          obtain ⟨r', q1, q2, q3⟩ := hrow j hj
          have := q3 hnj
          omega
        · rw [if_neg (fun e => hio e.symm)] at hni
          by_cases hjo : j = o
          · subst hjo
            rw [hU2 i hio, hU1]
            obtain ⟨r', q1, q2, q3⟩ := hrow i hi
            have := q3 hni
            omega
          · rw [if_neg (fun e => hjo e.symm)] at hnj
            rw [hU2 i hio, hU2 j hjo]
            exact hdis i j hi hj hij hni hnj
    rcases hr2 with ⟨hr4, rfl⟩ | ⟨hr4, rfl, hr5⟩
    · simp (disch := omega) only [f1, f2, f5, f17, f18, f19, hbr, ↓SXd, SXu, slBounds, ↓sop, ↓aop, ↓reduceIte, LV.cells, AOp.dst, LV.I, LV.B, LV.U, LV.S, LV.nil, Nat.reduceEqDiff, Nat.reduceAdd, Nat.reduceMul, Nat.reduceSub, Nat.reduceLeDiff, Nat.reduceBEq, Nat.reduceDiv, Nat.reduceMod, Int.reduceToNat, Int.reduceLT, Int.reduceLE, Int.reduceAdd, Int.reduceSub, Int.reduceMul, Int.reduceEq, Int.reduceNeg, reduceCtorEq, resV, resAll, ARes.ev, LV.flat, ite_true, ite_false, exists_eq_left', exists_eq_left, keyOf, implies_true, fillC, capOf]
      refine appendK_nilI fun N2 l1 l2 l3 => ?_
      simp (disch := omega) only [f1, f2, f5, f17, f18, f19, ↓SXd, SXu, slBounds, ↓sop, ↓aop, ↓reduceIte, LV.cells, AOp.dst, LV.I, LV.B, LV.U, LV.S, LV.nil, Nat.reduceEqDiff, Nat.reduceAdd, Nat.reduceMul, Nat.reduceSub, Nat.reduceLeDiff, Nat.reduceBEq, Nat.reduceDiv, Nat.reduceMod, Int.reduceToNat, Int.reduceLT, Int.reduceLE, Int.reduceAdd, Int.reduceSub, Int.reduceMul, Int.reduceEq, Int.reduceNeg, reduceCtorEq, resV, resAll, ARes.ev, LV.flat, ite_true, ite_false, exists_eq_left', exists_eq_left, keyOf, implies_true, fillC, capOf]
      refine memK_at (ct.at (by rw [l3 _ ct.lt])) (show o < refs.length by omega) fun N3 w1 w2 w3 => ?_
      simp (disch := omega) only [f1, f2, f5, f17, f18, f19, ↓SXd, SXu, slBounds, ↓sop, ↓aop, ↓reduceIte, LV.cells, AOp.dst, LV.I, LV.B, LV.U, LV.S, LV.nil, Nat.reduceEqDiff, Nat.reduceAdd, Nat.reduceMul, Nat.reduceSub, Nat.reduceLeDiff, Nat.reduceBEq, Nat.reduceDiv, Nat.reduceMod, Int.reduceToNat, Int.reduceLT, Int.reduceLE, Int.reduceAdd, Int.reduceSub, Int.reduceMul, Int.reduceEq, Int.reduceNeg, reduceCtorEq, resV, resAll, ARes.ev, LV.flat, ite_true, ite_false, exists_eq_left', exists_eq_left, keyOf, implies_true, fillC, capOf]
      exact fin N2 N3 l1 (by rw [hr4]; exact l2) (fun q q1 _ => l3 q q1) w1 (by rw [hr4]; exact w2) w3
    · simp (disch := omega) only [f1, f2, f5, f17, f18, f19, hbr, ↓SXd, SXu, slBounds, ↓sop, ↓aop, ↓reduceIte, LV.cells, AOp.dst, LV.I, LV.B, LV.U, LV.S, LV.nil, Nat.reduceEqDiff, Nat.reduceAdd, Nat.reduceMul, Nat.reduceSub, Nat.reduceLeDiff, Nat.reduceBEq, Nat.reduceDiv, Nat.reduceMod, Int.reduceToNat, Int.reduceLT, Int.reduceLE, Int.reduceAdd, Int.reduceSub, Int.reduceMul, Int.reduceEq, Int.reduceNeg, reduceCtorEq, resV, resAll, ARes.ev, LV.flat, ite_true, ite_false, exists_eq_left', exists_eq_left, keyOf, implies_true, fillC, capOf]
      have hrl2 : (rowP y dir ts o p).length ≤ 1000 := by
        unfold rowP
        rw [List.length_map]
        have := List.length_filter_le (fun q => othN y.toNat dir q == o) (List.range p)
        rw [List.length_range] at this
        omega
      have h9 := hr3 hr4
      have hr6 : Live N1 (us o) (.row (intL (rowP y dir ts o p)) true 1) := hr5.pre hpN
      refine appendK_int hr6 (by omega) fun N2 l1 l2 l3 => ?_
      simp (disch := omega) only [f1, f2, f5, f17, f18, f19, ↓SXd, SXu, slBounds, ↓sop, ↓aop, ↓reduceIte, LV.cells, AOp.dst, LV.I, LV.B, LV.U, LV.S, LV.nil, Nat.reduceEqDiff, Nat.reduceAdd, Nat.reduceMul, Nat.reduceSub, Nat.reduceLeDiff, Nat.reduceBEq, Nat.reduceDiv, Nat.reduceMod, Int.reduceToNat, Int.reduceLT, Int.reduceLE, Int.reduceAdd, Int.reduceSub, Int.reduceMul, Int.reduceEq, Int.reduceNeg, reduceCtorEq, resV, resAll, ARes.ev, LV.flat, ite_true, ite_false, exists_eq_left', exists_eq_left, keyOf, implies_true, fillC, capOf]
      refine memK_at (ct.at (l3 _ (by omega) ct.lt)) (show o < refs.length by omega) fun N3 w1 w2 w3 => ?_
      simp (disch := omega) only [f1, f2, f5, f17, f18, f19, ↓SXd, SXu, slBounds, ↓sop, ↓aop, ↓reduceIte, LV.cells, AOp.dst, LV.I, LV.B, LV.U, LV.S, LV.nil, Nat.reduceEqDiff, Nat.reduceAdd, Nat.reduceMul, Nat.reduceSub, Nat.reduceLeDiff, Nat.reduceBEq, Nat.reduceDiv, Nat.reduceMod, Int.reduceToNat, Int.reduceLT, Int.reduceLE, Int.reduceAdd, Int.reduceSub, Int.reduceMul, Int.reduceEq, Int.reduceNeg, reduceCtorEq, resV, resAll, ARes.ev, LV.flat, ite_true, ite_false, exists_eq_left', exists_eq_left, keyOf, implies_true, fillC, capOf]
      exact fin N2 N3 l1 l2 (fun q q1 q2 => l3 q (q2 hr4) q1) w1 w2 w3
  · have hpx : p = (x * y).toNat := by omega
    subst hpx
    have hall := fun i (hi : i < lnM x y dir) => rowP_all (ts := ts) hS.1 hS.2.1 hd hi
    have hne : ∀ i, i < lnM x y dir → rowP y dir ts i (x * y).toNat ≠ [] := fun i hi e => by
      have := congrArg List.length (hall i hi)
      rw [e, lineH_len] at this
      simp at this
      omega
    simp (disch := omega) only [f1, f2, f5, f17, f18, f19, ↓SXd, SXu, slBounds, ↓sop, ↓aop, ↓reduceIte, LV.cells, AOp.dst, LV.I, LV.B, LV.U, LV.S, LV.nil, Nat.reduceEqDiff, Nat.reduceAdd, Nat.reduceMul, Nat.reduceSub, Nat.reduceLeDiff, Nat.reduceBEq, Nat.reduceDiv, Nat.reduceMod, Int.reduceToNat, Int.reduceLT, Int.reduceLE, Int.reduceAdd, Int.reduceSub, Int.reduceMul, Int.reduceEq, Int.reduceNeg, reduceCtorEq, resV, resAll, ARes.ev, LV.flat, ite_true, ite_false, exists_eq_left', exists_eq_left, keyOf, implies_true, fillC, capOf]
    refine ⟨M.length + 1, us, refs, rfl, bt, hrl, by omega, hpre, fun i hi => ?_, fun i j hi hj hij => hdis i j hi hj hij (hne i hi) (hne j hj)⟩
    obtain ⟨r, q1, q2, q3⟩ := hrow i hi
    obtain ⟨q4, q5⟩ := q3 (hne i hi)
    rcases q2 with q2 | ⟨_, q6, q7⟩
    · exact (hne i hi q2.1).elim
    · rw [hall i hi] at q6 q7
      rw [lineH_len] at q6
      exact ⟨by rw [q1, q6], q7, by omega, by omega⟩
end Go.Ab

/- Contracts: sights and sky lines of the program. -/
namespace Go.Ab
open Go
set_option linter.unusedSimpArgs false
set_option linter.unusedVariables false
set_option maxRecDepth 20000

section
variable {x y z : Int} {t : Nat} {cs : List Cell} {M : Mem} (h : Tri M t 0 cs)
include h
theorem g_SightsOf (hn : cs.length ≤ 1000000000) {d : Int} {b : Bool} : CallsR PG F.impl_SightsOf [.agg [.I x, .I y, .I z, .ref t 0 cs.length], .I d, .B b] M (IntsQ M (sgtOf x y z cs d b) (flatB x y z cs d)) := by
  refine callsR_run K.impl_SightsOf rfl ?_
  simp (disch := omega) only [C.impl_SightsOf, ↓SXd, SXu, slBounds, ↓sop, ↓aop, ↓reduceIte, LV.cells, AOp.dst, LV.I, LV.B, LV.U, LV.S, LV.nil, Nat.reduceEqDiff, Nat.reduceAdd, Nat.reduceMul, Nat.reduceSub, Nat.reduceLeDiff, Nat.reduceBEq, Nat.reduceDiv, Nat.reduceMod, Int.reduceToNat, Int.reduceLT, Int.reduceLE, Int.reduceAdd, Int.reduceSub, Int.reduceMul, Int.reduceEq, Int.reduceNeg, reduceCtorEq, resV, resAll, ARes.ev, LV.flat, ite_true, ite_false, exists_eq_left', exists_eq_left, keyOf, implies_true, fillC, capOf]
  refine callK_of (g_isFlat h.app hn) ?_
  simp (disch := omega) only [↓SXd, SXu, slBounds, ↓sop, ↓aop, ↓reduceIte, LV.cells, AOp.dst, LV.I, LV.B, LV.U, LV.S, LV.nil, Nat.reduceEqDiff, Nat.reduceAdd, Nat.reduceMul, Nat.reduceSub, Nat.reduceLeDiff, Nat.reduceBEq, Nat.reduceDiv, Nat.reduceMod, Int.reduceToNat, Int.reduceLT, Int.reduceLE, Int.reduceAdd, Int.reduceSub, Int.reduceMul, Int.reduceEq, Int.reduceNeg, reduceCtorEq, resV, resAll, ARes.ev, LV.flat, ite_true, ite_false, exists_eq_left', exists_eq_left, keyOf, implies_true, fillC, capOf]
  by_cases hF : FlatOK x y z cs d
  rotate_left
  · rw [show sgtOf x y z cs d b = [] from if_neg hF, show flatB x y z cs d = false from decide_eq_false hF]
    simp (disch := omega) only [↓SXd, SXu, slBounds, ↓sop, ↓aop, ↓reduceIte, LV.cells, AOp.dst, LV.I, LV.B, LV.U, LV.S, LV.nil, Nat.reduceEqDiff, Nat.reduceAdd, Nat.reduceMul, Nat.reduceSub, Nat.reduceLeDiff, Nat.reduceBEq, Nat.reduceDiv, Nat.reduceMod, Int.reduceToNat, Int.reduceLT, Int.reduceLE, Int.reduceAdd, Int.reduceSub, Int.reduceMul, Int.reduceEq, Int.reduceNeg, reduceCtorEq, resV, resAll, ARes.ev, LV.flat, ite_true, ite_false, exists_eq_left', exists_eq_left, keyOf, implies_true, fillC, capOf]
    exact ⟨_, rfl, .inl ⟨rfl, rfl⟩, Pre.app _ _⟩
  obtain ⟨hH, hd⟩ := id hF
  rw [show sgtOf x y z cs d b = sgtL x y d.toNat b (topsOf x y cs) (lnM x y d.toNat) from if_pos hF, show flatB x y z cs d = true from decide_eq_true hF]
  obtain ⟨n, rfl⟩ : ∃ n : Nat, d = n := ⟨d.toNat, by omega⟩
  rw [Int.toNat_natCast]
  have hn2 : n < 2 := by omega
  obtain ⟨_, _, hM4, hN4, hN1⟩ := ln_side hH.1 hn2
  have b8 : Live (M ++ [some (.row [.I x, .I y, .I z, .ref t 0 cs.length] true 0), some (.row (intL []) true 1)]) (M.length + 1) (.row (intL []) true 1) := Live.newj rfl
  have hpq : Pre M (M ++ [some (.row [.I x, .I y, .I z, .ref t 0 cs.length] true 0), some (.row (intL []) true 1)]) := Pre.app _ _
  simp (disch := omega) only [↓SXd, SXu, slBounds, ↓sop, ↓aop, ↓reduceIte, LV.cells, AOp.dst, LV.I, LV.B, LV.U, LV.S, LV.nil, Nat.reduceEqDiff, Nat.reduceAdd, Nat.reduceMul, Nat.reduceSub, Nat.reduceLeDiff, Nat.reduceBEq, Nat.reduceDiv, Nat.reduceMod, Int.reduceToNat, Int.reduceLT, Int.reduceLE, Int.reduceAdd, Int.reduceSub, Int.reduceMul, Int.reduceEq, Int.reduceNeg, reduceCtorEq, resV, resAll, ARes.ev, LV.flat, ite_true, ite_false, exists_eq_left', exists_eq_left, keyOf, implies_true, fillC, capOf]
  refine callR_of (g_rows h.app hn hH hn2) ?_
  rintro _ N ⟨tb, us, refs, rfl, bt, hrl, htb, hp, hrow, hdis⟩
  simp only [List.length_append, List.length_cons, List.length_nil] at htb hrow
  have c8 := b8.pre hp
  have hpN := hpq.trans hp
  have hMN := hpN.1
  clear b8 hp
  generalize hts : topsOf x y cs = ts at hrow ⊢
  simp (disch := omega) only [↓SXd, SXu, slBounds, ↓sop, ↓aop, ↓reduceIte, LV.cells, AOp.dst, LV.I, LV.B, LV.U, LV.S, LV.nil, Nat.reduceEqDiff, Nat.reduceAdd, Nat.reduceMul, Nat.reduceSub, Nat.reduceLeDiff, Nat.reduceBEq, Nat.reduceDiv, Nat.reduceMod, Int.reduceToNat, Int.reduceLT, Int.reduceLE, Int.reduceAdd, Int.reduceSub, Int.reduceMul, Int.reduceEq, Int.reduceNeg, reduceCtorEq, resV, resAll, ARes.ev, LV.flat, ite_true, ite_false, exists_eq_left', exists_eq_left, keyOf, implies_true, fillC, capOf]
  refine ev_loop (fun m fr N' => ∃ (i u : Nat), i + m = lnM x y n ∧ Pre M N' ∧ (u = M.length + 1 ∨ N.length ≤ u) ∧ Live N' u (.row (intL (sgtL x y n b ts i)) true 1) ∧
    fr 2 = .B b ∧ fr 8 = .ref u 0 (sgtL x y n b ts i).length ∧ fr 22 = .ref tb 0 (lnM x y n) ∧ fr 23 = .I (lnM x y n : Nat) ∧ fr 24 = .I i ∧ N.length ≤ N'.length ∧ ∀ q, M.length + 2 ≤ q → q < N.length → (∀ j, j < i → q ≠ us j) → N'[q]? = N[q]?) (lnM x y n)
    ⟨0, M.length + 1, by omega, hpN, .inl rfl, c8, rfl, rfl, rfl, rfl, rfl, Nat.le_refl _, fun _ _ _ _ => rfl⟩ ?_
  rintro m fr N' ⟨i, u, hi, hP, hu, bu, f2, f8, f22, f23, f24, hNN, hold⟩
  simp (disch := omega) only [f2, f8, f22, f23, f24, ↓SXd, SXu, slBounds, ↓sop, ↓aop, ↓reduceIte, LV.cells, AOp.dst, LV.I, LV.B, LV.U, LV.S, LV.nil, Nat.reduceEqDiff, Nat.reduceAdd, Nat.reduceMul, Nat.reduceSub, Nat.reduceLeDiff, Nat.reduceBEq, Nat.reduceDiv, Nat.reduceMod, Int.reduceToNat, Int.reduceLT, Int.reduceLE, Int.reduceAdd, Int.reduceSub, Int.reduceMul, Int.reduceEq, Int.reduceNeg, reduceCtorEq, resV, resAll, ARes.ev, LV.flat, ite_true, ite_false, exists_eq_left', exists_eq_left, keyOf, implies_true, fillC, capOf]
  refine condC_dec (fun hlt => ?_) (fun hlt => ?_)
  · have hiM : i < lnM x y n := by omega
    obtain ⟨r1, r2, r3, r4⟩ := hrow i hiM
    have btl := bt.lt
    have r2l := r2.lt
    have bt' : Live N' tb (.row refs true 1) := by
      unfold Live at bt ⊢
      rw [hold tb (by omega) btl (fun j hj => fun e => (hrow j (by omega)).2.2.2 e.symm)]; exact bt
    have bl' : Live N' (us i) (.row (intL (lineH x y n ts i (lnN x y n))) true 1) := by
      unfold Live at r2 ⊢
      rw [hold (us i) (by omega) r2l (fun j hj => hdis i j hiM (by omega) (by omega))]; exact r2
    have hg := bt'.cell (o := i)
    rw [r1] at hg
    have hss := sgtL_succ (x := x) (y := y) (dir := n) (b := b) (ts := ts) (m := i)
    have hsl := sgtL_len (x := x) (y := y) (dir := n) (b := b) (ts := ts) (m := i)
    have hll := lineH_len (x := x) (y := y) (dir := n) (ts := ts) (i := i) (n := lnN x y n)
    generalize lineH x y n ts i (lnN x y n) = ln at bl' hss hll
    have hl'l : (if b then ln.reverse else ln).length = lnN x y n := by split <;> simp [hll]
    simp (disch := omega) only [f2, f8, f22, f23, f24, hg, Nat.mul_one, Nat.zero_add, ↓SXd, SXu, slBounds, ↓sop, ↓aop, ↓reduceIte, LV.cells, AOp.dst, LV.I, LV.B, LV.U, LV.S, LV.nil, Nat.reduceEqDiff, Nat.reduceAdd, Nat.reduceMul, Nat.reduceSub, Nat.reduceLeDiff, Nat.reduceBEq, Nat.reduceDiv, Nat.reduceMod, Int.reduceToNat, Int.reduceLT, Int.reduceLE, Int.reduceAdd, Int.reduceSub, Int.reduceMul, Int.reduceEq, Int.reduceNeg, reduceCtorEq, resV, resAll, ARes.ev, LV.flat, ite_true, ite_false, exists_eq_left', exists_eq_left, keyOf, implies_true, fillC, capOf]
    refine cond_cut (fun fr' N2 => Live N2 (us i) (.row (intL (if b then ln.reverse else ln)) true 1) ∧ N2.length = N'.length ∧ (∀ q, q ≠ us i → N2[q]? = N'[q]?) ∧ fr' 2 = .B b ∧ fr' 8 = .ref u 0 (sgtL x y n b ts i).length ∧ fr' 10 = .ref (us i) 0 (lnN x y n) ∧ fr' 22 = .ref tb 0 (lnM x y n) ∧ fr' 23 = .I (lnM x y n : Nat) ∧ fr' 24 = .I i) ?_ ?_
    · cases b with
      | false =>
        simp (disch := omega) only [f2, f8, f22, f23, f24, ↓SXd, SXu, slBounds, ↓sop, ↓aop, ↓reduceIte, LV.cells, AOp.dst, LV.I, LV.B, LV.U, LV.S, LV.nil, Nat.reduceEqDiff, Nat.reduceAdd, Nat.reduceMul, Nat.reduceSub, Nat.reduceLeDiff, Nat.reduceBEq, Nat.reduceDiv, Nat.reduceMod, Int.reduceToNat, Int.reduceLT, Int.reduceLE, Int.reduceAdd, Int.reduceSub, Int.reduceMul, Int.reduceEq, Int.reduceNeg, reduceCtorEq, resV, resAll, ARes.ev, LV.flat, ite_true, ite_false, exists_eq_left', exists_eq_left, keyOf, implies_true, fillC, capOf]
        all_goals first | exact ⟨bl', rfl⟩ | exact ⟨bl', fun _ _ => rfl⟩ | exact bl' | exact ⟨bl', rfl, fun _ _ => rfl⟩
      | true =>
        have hrv := g_Reverse bl' (by omega) (by omega)
        rw [hll] at hrv
        simp (disch := omega) only [f2, f8, f22, f23, f24, ↓SXd, SXu, slBounds, ↓sop, ↓aop, ↓reduceIte, LV.cells, AOp.dst, LV.I, LV.B, LV.U, LV.S, LV.nil, Nat.reduceEqDiff, Nat.reduceAdd, Nat.reduceMul, Nat.reduceSub, Nat.reduceLeDiff, Nat.reduceBEq, Nat.reduceDiv, Nat.reduceMod, Int.reduceToNat, Int.reduceLT, Int.reduceLE, Int.reduceAdd, Int.reduceSub, Int.reduceMul, Int.reduceEq, Int.reduceNeg, reduceCtorEq, resV, resAll, ARes.ev, LV.flat, ite_true, ite_false, exists_eq_left', exists_eq_left, keyOf, implies_true, fillC, capOf]
        refine callR_of hrv ?_
        rintro _ N2 ⟨rfl, v1, v2, v3⟩
        simp (disch := omega) only [f2, f8, f22, f23, f24, ↓SXd, SXu, slBounds, ↓sop, ↓aop, ↓reduceIte, LV.cells, AOp.dst, LV.I, LV.B, LV.U, LV.S, LV.nil, Nat.reduceEqDiff, Nat.reduceAdd, Nat.reduceMul, Nat.reduceSub, Nat.reduceLeDiff, Nat.reduceBEq, Nat.reduceDiv, Nat.reduceMod, Int.reduceToNat, Int.reduceLT, Int.reduceLE, Int.reduceAdd, Int.reduceSub, Int.reduceMul, Int.reduceEq, Int.reduceNeg, reduceCtorEq, resV, resAll, ARes.ev, LV.flat, ite_true, ite_false, exists_eq_left', exists_eq_left, keyOf, implies_true, fillC, capOf]
        all_goals exact ⟨v1, v2, v3⟩
    clear f2 f8 f22 f23 f24
    rintro fr N2 ⟨w1, w2, w3, f2, f8, f10, f22, f23, f24⟩
    have hul := bu.lt
    have huu : u ≠ us i := by rcases hu with e | e <;> omega
    have cu : Live N2 u (.row (intL (sgtL x y n b ts i)) true 1) := by
      unfold Live at bu ⊢
      rw [w3 u huu]; exact bu
    have hP2 : Pre M N2 := ⟨by omega, fun q hq => by rw [w3 q (by omega)]; exact hP.2 q hq⟩
    generalize (if b then ln.reverse else ln) = l' at w1 hss hl'l
    simp (disch := omega) only [f2, f8, f10, f22, f23, f24, ↓SXd, SXu, slBounds, ↓sop, ↓aop, ↓reduceIte, LV.cells, AOp.dst, LV.I, LV.B, LV.U, LV.S, LV.nil, Nat.reduceEqDiff, Nat.reduceAdd, Nat.reduceMul, Nat.reduceSub, Nat.reduceLeDiff, Nat.reduceBEq, Nat.reduceDiv, Nat.reduceMod, Int.reduceToNat, Int.reduceLT, Int.reduceLE, Int.reduceAdd, Int.reduceSub, Int.reduceMul, Int.reduceEq, Int.reduceNeg, reduceCtorEq, resV, resAll, ARes.ev, LV.flat, ite_true, ite_false, exists_eq_left', exists_eq_left, keyOf, implies_true, fillC, capOf]
    refine ev_loop (fun m2 fr N3 => ∃ k : Nat, k + m2 = lnN x y n ∧ N3 = N2 ∧ fr 2 = .B b ∧ fr 8 = .ref u 0 (sgtL x y n b ts i).length ∧ fr 22 = .ref tb 0 (lnM x y n) ∧ fr 23 = .I (lnM x y n : Nat) ∧ fr 24 = .I i ∧ fr 11 = .I ((l'.take k).foldl seeStep (0, 0)).2 ∧ fr 12 = .I ((l'.take k).foldl seeStep (0, 0)).1 ∧ fr 31 = .ref (us i) 0 (lnN x y n) ∧ fr 32 = .I (lnN x y n : Nat) ∧ fr 33 = .I k) (lnN x y n)
      ⟨0, by omega, rfl, f2, f8, f22, f23, f24, rfl, rfl, rfl, rfl, rfl⟩ ?_
    clear f2 f8 f10 f22 f23 f24
    rintro m2 fr N2 ⟨k, hk, rfl, f2, f8, f22, f23, f24, f11, f12, f31, f32, f33⟩
    simp (disch := omega) only [f2, f8, f22, f23, f24, f11, f12, f31, f32, f33, ↓SXd, SXu, slBounds, ↓sop, ↓aop, ↓reduceIte, LV.cells, AOp.dst, LV.I, LV.B, LV.U, LV.S, LV.nil, Nat.reduceEqDiff, Nat.reduceAdd, Nat.reduceMul, Nat.reduceSub, Nat.reduceLeDiff, Nat.reduceBEq, Nat.reduceDiv, Nat.reduceMod, Int.reduceToNat, Int.reduceLT, Int.reduceLE, Int.reduceAdd, Int.reduceSub, Int.reduceMul, Int.reduceEq, Int.reduceNeg, reduceCtorEq, resV, resAll, ARes.ev, LV.flat, ite_true, ite_false, exists_eq_left', exists_eq_left, keyOf, implies_true, fillC, capOf]
    refine condC_dec (fun hlt2 => ?_) (fun hlt2 => ?_)
    · have hkN : k < lnN x y n := by omega
      have hst := take_succ_foldl seeStep (0, 0) l' k 0 (by omega)
      have hcnt := see_cnt (l'.take k) (0, 0)
      have htl := List.length_take_le k l'
      simp only at hcnt
      have hc1 := Ints.get w1.has (k := k) (by omega)
      rw [Nat.zero_add] at hc1
      generalize (l'.take k).foldl seeStep (0, 0) = s at f11 f12 hst hcnt
      generalize hs' : (l'.take (k + 1)).foldl seeStep (0, 0) = s' at hst
      by_cases hv : l'.getD k 0 > s.1
      · rw [show seeStep s (l'.getD k 0) = (l'.getD k 0, s.2 + 1) from if_pos hv] at hst
        simp (disch := omega) only [f2, f8, f22, f23, f24, f11, f12, f31, f32, f33, hc1, Nat.mul_one, Nat.zero_add, hv, ↓SXd, SXu, slBounds, ↓sop, ↓aop, ↓reduceIte, LV.cells, AOp.dst, LV.I, LV.B, LV.U, LV.S, LV.nil, Nat.reduceEqDiff, Nat.reduceAdd, Nat.reduceMul, Nat.reduceSub, Nat.reduceLeDiff, Nat.reduceBEq, Nat.reduceDiv, Nat.reduceMod, Int.reduceToNat, Int.reduceLT, Int.reduceLE, Int.reduceAdd, Int.reduceSub, Int.reduceMul, Int.reduceEq, Int.reduceNeg, reduceCtorEq, resV, resAll, ARes.ev, LV.flat, ite_true, ite_false, exists_eq_left', exists_eq_left, keyOf, implies_true, fillC, capOf]
        exact ⟨m2 - 1, by omega, k + 1, by omega, rfl, f2, f8, f22, f23, f24, by rw [hs', hst]; rfl, by rw [hs', hst]; rfl, f31, f32, eqI (natI _)⟩
      · rw [show seeStep s (l'.getD k 0) = s from if_neg hv] at hst
        simp (disch := omega) only [f2, f8, f22, f23, f24, f11, f12, f31, f32, f33, hc1, Nat.mul_one, Nat.zero_add, hv, ↓SXd, SXu, slBounds, ↓sop, ↓aop, ↓reduceIte, LV.cells, AOp.dst, LV.I, LV.B, LV.U, LV.S, LV.nil, Nat.reduceEqDiff, Nat.reduceAdd, Nat.reduceMul, Nat.reduceSub, Nat.reduceLeDiff, Nat.reduceBEq, Nat.reduceDiv, Nat.reduceMod, Int.reduceToNat, Int.reduceLT, Int.reduceLE, Int.reduceAdd, Int.reduceSub, Int.reduceMul, Int.reduceEq, Int.reduceNeg, reduceCtorEq, resV, resAll, ARes.ev, LV.flat, ite_true, ite_false, exists_eq_left', exists_eq_left, keyOf, implies_true, fillC, capOf]
        exact ⟨m2 - 1, by omega, k + 1, by omega, rfl, f2, f8, f22, f23, f24, f11.trans (by rw [hs', hst]), f12.trans (by rw [hs', hst]), f31, f32, eqI (natI _)⟩
    · have hkN : k = l'.length := by omega
      subst hkN
      rw [List.take_length] at f11
      have hss2 : sgtL x y n b ts (i + 1) = sgtL x y n b ts i ++ [(l'.foldl seeStep (0, 0)).2] := hss
      simp (disch := omega) only [f2, f8, f22, f23, f24, f11, f12, f31, f32, f33, ↓SXd, SXu, slBounds, ↓sop, ↓aop, ↓reduceIte, LV.cells, AOp.dst, LV.I, LV.B, LV.U, LV.S, LV.nil, Nat.reduceEqDiff, Nat.reduceAdd, Nat.reduceMul, Nat.reduceSub, Nat.reduceLeDiff, Nat.reduceBEq, Nat.reduceDiv, Nat.reduceMod, Int.reduceToNat, Int.reduceLT, Int.reduceLE, Int.reduceAdd, Int.reduceSub, Int.reduceMul, Int.reduceEq, Int.reduceNeg, reduceCtorEq, resV, resAll, ARes.ev, LV.flat, ite_true, ite_false, exists_eq_left', exists_eq_left, keyOf, implies_true, fillC, capOf]
      refine appendK_int cu (by omega) fun N5 l1 l2 l3 => ?_
      rw [← hss2] at l2 ⊢
      simp (disch := omega) only [f2, f8, f22, f23, f24, f11, f12, f31, f32, f33, ↓SXd, SXu, slBounds, ↓sop, ↓aop, ↓reduceIte, LV.cells, AOp.dst, LV.I, LV.B, LV.U, LV.S, LV.nil, Nat.reduceEqDiff, Nat.reduceAdd, Nat.reduceMul, Nat.reduceSub, Nat.reduceLeDiff, Nat.reduceBEq, Nat.reduceDiv, Nat.reduceMod, Int.reduceToNat, Int.reduceLT, Int.reduceLE, Int.reduceAdd, Int.reduceSub, Int.reduceMul, Int.reduceEq, Int.reduceNeg, reduceCtorEq, resV, resAll, ARes.ev, LV.flat, ite_true, ite_false, exists_eq_left', exists_eq_left, keyOf, implies_true, fillC, capOf]
      exact ⟨m - 1, by omega, i + 1, N2.length + 1, by omega, pre_step hP2 (by rcases hu with e | e <;> omega) (j := 2) l1 l3, .inr (by omega), l2, f2, rfl, f22, f23, eqI (natI _), by omega, fun q q1 q2 q3 => by rw [l3 q (by rcases hu with e | e <;> omega) (by omega), w3 q (q3 i (by omega))]; exact hold q q1 q2 (fun j hj => q3 j (by omega))⟩
  · have hiM : i = lnM x y n := by omega
    subst hiM
    simp (disch := omega) only [f2, f8, f22, f23, f24, ↓SXd, SXu, slBounds, ↓sop, ↓aop, ↓reduceIte, LV.cells, AOp.dst, LV.I, LV.B, LV.U, LV.S, LV.nil, Nat.reduceEqDiff, Nat.reduceAdd, Nat.reduceMul, Nat.reduceSub, Nat.reduceLeDiff, Nat.reduceBEq, Nat.reduceDiv, Nat.reduceMod, Int.reduceToNat, Int.reduceLT, Int.reduceLE, Int.reduceAdd, Int.reduceSub, Int.reduceMul, Int.reduceEq, Int.reduceNeg, reduceCtorEq, resV, resAll, ARes.ev, LV.flat, ite_true, ite_false, exists_eq_left', exists_eq_left, keyOf, implies_true, fillC, capOf]
    exact ⟨_, rfl, .inr ⟨_, _, rfl, bu.has⟩, hP⟩
theorem g_SkyLine (hn : cs.length ≤ 1000000000) {d : Int} : CallsR PG F.impl_SkyLine [.agg [.I x, .I y, .I z, .ref t 0 cs.length], .I d] M (IntsQ M (skyOf x y z cs d) (flatB x y z cs d)) := by
  refine callsR_run K.impl_SkyLine rfl ?_
  simp (disch := omega) only [C.impl_SkyLine, ↓SXd, SXu, slBounds, ↓sop, ↓aop, ↓reduceIte, LV.cells, AOp.dst, LV.I, LV.B, LV.U, LV.S, LV.nil, Nat.reduceEqDiff, Nat.reduceAdd, Nat.reduceMul, Nat.reduceSub, Nat.reduceLeDiff, Nat.reduceBEq, Nat.reduceDiv, Nat.reduceMod, Int.reduceToNat, Int.reduceLT, Int.reduceLE, Int.reduceAdd, Int.reduceSub, Int.reduceMul, Int.reduceEq, Int.reduceNeg, reduceCtorEq, resV, resAll, ARes.ev, LV.flat, ite_true, ite_false, exists_eq_left', exists_eq_left, keyOf, implies_true, fillC, capOf]
  refine callK_of (g_isFlat h.app hn) ?_
  simp (disch := omega) only [↓SXd, SXu, slBounds, ↓sop, ↓aop, ↓reduceIte, LV.cells, AOp.dst, LV.I, LV.B, LV.U, LV.S, LV.nil, Nat.reduceEqDiff, Nat.reduceAdd, Nat.reduceMul, Nat.reduceSub, Nat.reduceLeDiff, Nat.reduceBEq, Nat.reduceDiv, Nat.reduceMod, Int.reduceToNat, Int.reduceLT, Int.reduceLE, Int.reduceAdd, Int.reduceSub, Int.reduceMul, Int.reduceEq, Int.reduceNeg, reduceCtorEq, resV, resAll, ARes.ev, LV.flat, ite_true, ite_false, exists_eq_left', exists_eq_left, keyOf, implies_true, fillC, capOf]
  by_cases hF : FlatOK x y z cs d
  rotate_left
  · rw [show skyOf x y z cs d = [] from if_neg hF, show flatB x y z cs d = false from decide_eq_false hF]
    simp (disch := omega) only [↓SXd, SXu, slBounds, ↓sop, ↓aop, ↓reduceIte, LV.cells, AOp.dst, LV.I, LV.B, LV.U, LV.S, LV.nil, Nat.reduceEqDiff, Nat.reduceAdd, Nat.reduceMul, Nat.reduceSub, Nat.reduceLeDiff, Nat.reduceBEq, Nat.reduceDiv, Nat.reduceMod, Int.reduceToNat, Int.reduceLT, Int.reduceLE, Int.reduceAdd, Int.reduceSub, Int.reduceMul, Int.reduceEq, Int.reduceNeg, reduceCtorEq, resV, resAll, ARes.ev, LV.flat, ite_true, ite_false, exists_eq_left', exists_eq_left, keyOf, implies_true, fillC, capOf]
    exact ⟨_, rfl, .inl ⟨rfl, rfl⟩, Pre.app _ _⟩
  obtain ⟨hH, hd⟩ := id hF
  rw [show skyOf x y z cs d = skyL x y d.toNat (topsOf x y cs) (lnM x y d.toNat) from if_pos hF, show flatB x y z cs d = true from decide_eq_true hF]
  obtain ⟨n, rfl⟩ : ∃ n : Nat, d = n := ⟨d.toNat, by omega⟩
  rw [Int.toNat_natCast]
  have hn2 : n < 2 := by omega
  obtain ⟨_, _, hM4, hN4, hN1⟩ := ln_side hH.1 hn2
  have b8 : Live (M ++ [some (.row [.I x, .I y, .I z, .ref t 0 cs.length] true 0), some (.row (intL []) true 1)]) (M.length + 1) (.row (intL []) true 1) := Live.newj rfl
  have hpq : Pre M (M ++ [some (.row [.I x, .I y, .I z, .ref t 0 cs.length] true 0), some (.row (intL []) true 1)]) := Pre.app _ _
  have hlow := topsOf_lowz hH
  simp (disch := omega) only [↓SXd, SXu, slBounds, ↓sop, ↓aop, ↓reduceIte, LV.cells, AOp.dst, LV.I, LV.B, LV.U, LV.S, LV.nil, Nat.reduceEqDiff, Nat.reduceAdd, Nat.reduceMul, Nat.reduceSub, Nat.reduceLeDiff, Nat.reduceBEq, Nat.reduceDiv, Nat.reduceMod, Int.reduceToNat, Int.reduceLT, Int.reduceLE, Int.reduceAdd, Int.reduceSub, Int.reduceMul, Int.reduceEq, Int.reduceNeg, reduceCtorEq, resV, resAll, ARes.ev, LV.flat, ite_true, ite_false, exists_eq_left', exists_eq_left, keyOf, implies_true, fillC, capOf]
  refine callR_of (g_rows h.app hn hH hn2) ?_
  rintro _ N ⟨tb, us, refs, rfl, bt, hrl, htb, hp, hrow, hdis⟩
  simp only [List.length_append, List.length_cons, List.length_nil] at htb hrow
  have c8 := b8.pre hp
  have hpN := hpq.trans hp
  have hMN := hpN.1
  clear b8 hp
  generalize hts : topsOf x y cs = ts at hrow hlow ⊢
  simp (disch := omega) only [↓SXd, SXu, slBounds, ↓sop, ↓aop, ↓reduceIte, LV.cells, AOp.dst, LV.I, LV.B, LV.U, LV.S, LV.nil, Nat.reduceEqDiff, Nat.reduceAdd, Nat.reduceMul, Nat.reduceSub, Nat.reduceLeDiff, Nat.reduceBEq, Nat.reduceDiv, Nat.reduceMod, Int.reduceToNat, Int.reduceLT, Int.reduceLE, Int.reduceAdd, Int.reduceSub, Int.reduceMul, Int.reduceEq, Int.reduceNeg, reduceCtorEq, resV, resAll, ARes.ev, LV.flat, ite_true, ite_false, exists_eq_left', exists_eq_left, keyOf, implies_true, fillC, capOf]
  refine ev_loop (fun m fr N' => ∃ (i u : Nat), i + m = lnM x y n ∧ Pre M N' ∧ (u = M.length + 1 ∨ N.length ≤ u) ∧ Live N' u (.row (intL (skyL x y n ts i)) true 1) ∧
    fr 6 = .ref u 0 (skyL x y n ts i).length ∧ fr 16 = .ref tb 0 (lnM x y n) ∧ fr 17 = .I (lnM x y n : Nat) ∧ fr 18 = .I i ∧ N.length ≤ N'.length ∧ ∀ q, M.length + 2 ≤ q → q < N.length → N'[q]? = N[q]?) (lnM x y n)
    ⟨0, M.length + 1, by omega, hpN, .inl rfl, c8, rfl, rfl, rfl, rfl, Nat.le_refl _, fun _ _ _ => rfl⟩ ?_
  rintro m fr N' ⟨i, u, hi, hP, hu, bu, f6, f16, f17, f18, hNN, hold⟩
  simp (disch := omega) only [f6, f16, f17, f18, ↓SXd, SXu, slBounds, ↓sop, ↓aop, ↓reduceIte, LV.cells, AOp.dst, LV.I, LV.B, LV.U, LV.S, LV.nil, Nat.reduceEqDiff, Nat.reduceAdd, Nat.reduceMul, Nat.reduceSub, Nat.reduceLeDiff, Nat.reduceBEq, Nat.reduceDiv, Nat.reduceMod, Int.reduceToNat, Int.reduceLT, Int.reduceLE, Int.reduceAdd, Int.reduceSub, Int.reduceMul, Int.reduceEq, Int.reduceNeg, reduceCtorEq, resV, resAll, ARes.ev, LV.flat, ite_true, ite_false, exists_eq_left', exists_eq_left, keyOf, implies_true, fillC, capOf]
  refine condC_dec (fun hlt => ?_) (fun hlt => ?_)
  · have hiM : i < lnM x y n := by omega
    obtain ⟨r1, r2, r3, r4⟩ := hrow i hiM
    have btl := bt.lt
    have r2l := r2.lt
    have bt' : Live N' tb (.row refs true 1) := by
      unfold Live at bt ⊢
      rw [hold tb (by omega) btl]; exact bt
    have bl' : Live N' (us i) (.row (intL (lineH x y n ts i (lnN x y n))) true 1) := by
      unfold Live at r2 ⊢
      rw [hold (us i) (by omega) r2l]; exact r2
    have hg := bt'.cell (o := i)
    rw [r1] at hg
    have hss := skyL_succ (x := x) (y := y) (dir := n) (ts := ts) (m := i)
    have hsl := skyL_len (x := x) (y := y) (dir := n) (ts := ts) (m := i)
    have hll := lineH_len (x := x) (y := y) (dir := n) (ts := ts) (i := i) (n := lnN x y n)
    have hpos : ∀ a ∈ lineH x y n ts i (lnN x y n), 0 ≤ a := fun a ha => by
      obtain ⟨k, _, rfl⟩ := List.mem_map.1 ha
      exact (hlow _).1
    have hmx := g_Max (u := us i) bl'.has (by omega) (by omega) hpos
    rw [hll] at hmx
    simp (disch := omega) only [f6, f16, f17, f18, hg, Nat.mul_one, Nat.zero_add, ↓SXd, SXu, slBounds, ↓sop, ↓aop, ↓reduceIte, LV.cells, AOp.dst, LV.I, LV.B, LV.U, LV.S, LV.nil, Nat.reduceEqDiff, Nat.reduceAdd, Nat.reduceMul, Nat.reduceSub, Nat.reduceLeDiff, Nat.reduceBEq, Nat.reduceDiv, Nat.reduceMod, Int.reduceToNat, Int.reduceLT, Int.reduceLE, Int.reduceAdd, Int.reduceSub, Int.reduceMul, Int.reduceEq, Int.reduceNeg, reduceCtorEq, resV, resAll, ARes.ev, LV.flat, ite_true, ite_false, exists_eq_left', exists_eq_left, keyOf, implies_true, fillC, capOf]
    refine callK_of hmx ?_
    simp (disch := omega) only [f6, f16, f17, f18, ↓SXd, SXu, slBounds, ↓sop, ↓aop, ↓reduceIte, LV.cells, AOp.dst, LV.I, LV.B, LV.U, LV.S, LV.nil, Nat.reduceEqDiff, Nat.reduceAdd, Nat.reduceMul, Nat.reduceSub, Nat.reduceLeDiff, Nat.reduceBEq, Nat.reduceDiv, Nat.reduceMod, Int.reduceToNat, Int.reduceLT, Int.reduceLE, Int.reduceAdd, Int.reduceSub, Int.reduceMul, Int.reduceEq, Int.reduceNeg, reduceCtorEq, resV, resAll, ARes.ev, LV.flat, ite_true, ite_false, exists_eq_left', exists_eq_left, keyOf, implies_true, fillC, capOf]
    refine appendK_int bu (by omega) fun N5 l1 l2 l3 => ?_
    rw [← hss] at l2 ⊢
    simp (disch := omega) only [f6, f16, f17, f18, ↓SXd, SXu, slBounds, ↓sop, ↓aop, ↓reduceIte, LV.cells, AOp.dst, LV.I, LV.B, LV.U, LV.S, LV.nil, Nat.reduceEqDiff, Nat.reduceAdd, Nat.reduceMul, Nat.reduceSub, Nat.reduceLeDiff, Nat.reduceBEq, Nat.reduceDiv, Nat.reduceMod, Int.reduceToNat, Int.reduceLT, Int.reduceLE, Int.reduceAdd, Int.reduceSub, Int.reduceMul, Int.reduceEq, Int.reduceNeg, reduceCtorEq, resV, resAll, ARes.ev, LV.flat, ite_true, ite_false, exists_eq_left', exists_eq_left, keyOf, implies_true, fillC, capOf]
    exact ⟨m - 1, by omega, i + 1, N'.length + 1, by omega, pre_step hP (by rcases hu with e | e <;> omega) (j := 2) l1 l3, .inr (by omega), l2, rfl, f16, f17, eqI (natI _), by omega, fun q q1 q2 => by rw [l3 q (by rcases hu with e | e <;> omega) (by omega)]; exact hold q q1 q2⟩
  · have hiM : i = lnM x y n := by omega
    subst hiM
    simp (disch := omega) only [f6, f16, f17, f18, ↓SXd, SXu, slBounds, ↓sop, ↓aop, ↓reduceIte, LV.cells, AOp.dst, LV.I, LV.B, LV.U, LV.S, LV.nil, Nat.reduceEqDiff, Nat.reduceAdd, Nat.reduceMul, Nat.reduceSub, Nat.reduceLeDiff, Nat.reduceBEq, Nat.reduceDiv, Nat.reduceMod, Int.reduceToNat, Int.reduceLT, Int.reduceLE, Int.reduceAdd, Int.reduceSub, Int.reduceMul, Int.reduceEq, Int.reduceNeg, reduceCtorEq, resV, resAll, ARes.ev, LV.flat, ite_true, ite_false, exists_eq_left', exists_eq_left, keyOf, implies_true, fillC, capOf]
    exact ⟨_, rfl, .inr ⟨_, _, rfl, bu.has⟩, hP⟩
end
end Go.Ab

/- The abstract code of some functions (written by a program of mine from the translation, by way of prepF). -/
namespace Go.Ab.C
open Go.Ab
def spec_PeaksOf : AFn :=
 ⟨1, 58, [.tmp 2, .tmp 3],
 .seq (.ops [(none, .box 1 (.t 0)),
 (none, .mv 2 (.c .nil)),
 (none, .mv 3 (.c (.B false)))])
 (.seq (.ops [(none, .buildSl 10 0 1 [] []),
 (none, .mv 4 (.t 10))])
 (.seq (.seq (.ops [(none, .loadN 11 4 (.t 1)),
 (none, .call (some 12) F.spec_l2Heap [(.t 11)]),
 (none, .un 13 .not (.t 12))])
 (.cond (.t 13) (.seq (.ops [(none, .mv 14 (.t 4)),
 (none, .mv 2 (.t 14)),
 (none, .mv 3 (.c (.B false)))])
 (.ret))
 (.skip)))
 (.seq (.ops [(none, .loadN 15 4 (.t 1)),
 (none, .call (some 16) F.spec_l2Tops [(.t 15)]),
 (none, .mv 5 (.t 16))])
 (.seq (.seq (.ops [(none, .mv 6 (.c (.I 0)))])
 (.block 0 (.loop (.seq (.seq (.ops [(none, .mv 17 (.t 6)),
 (none, .mv 18 (.t 5)),
 (none, .len 19 (.t 18)),
 (none, .bin 20 .lss (.t 17) (.t 19))])
 (.cond (.t 20) (.skip)
 (.exit 0)))
 (.seq (.block 1 (.seq (.draw [⟨(none, .mv 23 (.t 5)), [], []⟩,
 ⟨(none, .mv 24 (.t 6)), [], []⟩,
 ⟨(none, .idxS 25 1 (.t 23) (.t 24)), [], []⟩,
 ⟨(none, .load1 26 (.t 25)), [], []⟩,
 ⟨(none, .bin 27 .gtr (.t 26) (.c (.I 0))), [], []⟩,
 ⟨(none, .loadN 28 4 (.t 1)), [], []⟩,
 ⟨(none, .mv 29 (.t 6)), [], []⟩,
 ⟨(none, .call (some 30) F.spec_l10Next [(.t 28), (.t 29)]), [], [0, 1, 2, 3, 4]⟩,
 ⟨(none, .mv 7 (.t 27)), [], []⟩,
 ⟨(none, .mv 8 (.t 30)), [], []⟩])
 (.seq (.seq (.ops [(none, .mv 9 (.c (.I 0)))])
 (.block 2 (.loop (.seq (.seq (.ops [(none, .mv 31 (.t 9)),
 (none, .mv 32 (.t 8)),
 (none, .len 33 (.t 32)),
 (none, .bin 34 .lss (.t 31) (.t 33))])
 (.cond (.t 34) (.skip)
 (.exit 2)))
 (.seq (.block 3 (.draw [⟨(none, .mv 37 (.t 7)), [], []⟩,
 ⟨(none, .mv 38 (.t 37)), [], []⟩,
 ⟨(some (38, true), .mv 39 (.t 5)), [], []⟩,
 ⟨(some (38, true), .mv 40 (.t 8)), [], []⟩,
 ⟨(some (38, true), .mv 41 (.t 9)), [], []⟩,
 ⟨(some (38, true), .idxS 42 1 (.t 40) (.t 41)), [], []⟩,
 ⟨(some (38, true), .load1 43 (.t 42)), [], []⟩,
 ⟨(some (38, true), .idxS 44 1 (.t 39) (.t 43)), [], []⟩,
 ⟨(some (38, true), .load1 45 (.t 44)), [], []⟩,
 ⟨(some (38, true), .mv 46 (.t 5)), [], []⟩,
 ⟨(some (38, true), .mv 47 (.t 6)), [], []⟩,
 ⟨(some (38, true), .idxS 48 1 (.t 46) (.t 47)), [], []⟩,
 ⟨(some (38, true), .load1 49 (.t 48)), [], []⟩,
 ⟨(some (38, true), .bin 50 .lss (.t 45) (.t 49)), [], []⟩,
 ⟨(none, .pick 51 (.t 38) (.t 50) (.c (.B false))), [], []⟩,
 ⟨(none, .mv 7 (.t 51)), [], []⟩]))
 (.ops [(none, .mv 35 (.t 9)),
 (none, .bin 36 .add (.t 35) (.c (.I 1))),
 (none, .mv 9 (.t 36))]))))))
 (.seq (.ops [(none, .mv 52 (.t 7))])
 (.cond (.t 52) (.ops [(none, .mv 53 (.t 4)),
 (none, .mv 54 (.t 6)),
 (none, .buildSl 55 1 1 [(.I 0)] [(0, 1, (.t 54))]),
 (none, .append 56 1 8 (.t 53) (.t 55)),
 (none, .mv 4 (.t 56))])
 (.skip))))))
 (.ops [(none, .mv 21 (.t 6)),
 (none, .bin 22 .add (.t 21) (.c (.I 1))),
 (none, .mv 6 (.t 22))]))))))
 (.seq (.ops [(none, .mv 57 (.t 4)),
 (none, .mv 2 (.t 57)),
 (none, .mv 3 (.c (.B true)))])
 (.ret))))))⟩
def spec_LevelCounts : AFn :=
 ⟨1, 33, [.tmp 2, .tmp 3],
 .seq (.ops [(none, .box 1 (.t 0)),
 (none, .mv 2 (.c .nil)),
 (none, .mv 3 (.c (.B false)))])
 (.seq (.seq (.ops [(none, .loadN 7 4 (.t 1)),
 (none, .call (some 8) F.spec_l2Heap [(.t 7)]),
 (none, .un 9 .not (.t 8))])
 (.cond (.t 9) (.seq (.ops [(none, .buildSl 10 0 1 [] []),
 (none, .mv 2 (.t 10)),
 (none, .mv 3 (.c (.B false)))])
 (.ret))
 (.skip)))
 (.seq (.draw [⟨(none, .fieldAddr 11 (.t 1) 2), [], []⟩,
 ⟨(none, .load1 12 (.t 11)), [], []⟩,
 ⟨(none, .bin 13 .add (.t 12) (.c (.I 1))), [], []⟩,
 ⟨(none, .loadN 15 4 (.t 1)), [], []⟩,
 ⟨(none, .mksl 14 1 8 [(.I 0)] (.t 13) (.t 13)), [], []⟩,
 ⟨(none, .call (some 16) F.spec_l2Tops [(.t 15)]), [4], [0, 1, 2]⟩,
 ⟨(none, .mv 4 (.t 14)), [], []⟩,
 ⟨(none, .mv 5 (.t 16)), [], []⟩])
 (.seq (.seq (.ops [(none, .mv 6 (.c (.I 0)))])
 (.block 0 (.loop (.seq (.seq (.ops [(none, .mv 17 (.t 6)),
 (none, .mv 18 (.t 5)),
 (none, .len 19 (.t 18)),
 (none, .bin 20 .lss (.t 17) (.t 19))])
 (.cond (.t 20) (.skip)
 (.exit 0)))
 (.seq (.block 1 (.ops [(none, .mv 23 (.t 4)),
 (none, .mv 24 (.t 5)),
 (none, .mv 25 (.t 6)),
 (none, .idxS 26 1 (.t 24) (.t 25)),
 (none, .load1 27 (.t 26)),
 (none, .idxS 28 1 (.t 23) (.t 27)),
 (none, .load1 29 (.t 28)),
 (none, .bin 30 .add (.t 29) (.c (.I 1))),
 (none, .idxS 31 1 (.t 23) (.t 27)),
 (none, .store 1 (.t 31) (.t 30))]))
 (.ops [(none, .mv 21 (.t 6)),
 (none, .bin 22 .add (.t 21) (.c (.I 1))),
 (none, .mv 6 (.t 22))]))))))
 (.seq (.ops [(none, .mv 32 (.t 4)),
 (none, .mv 2 (.t 32)),
 (none, .mv 3 (.c (.B true)))])
 (.ret)))))⟩
def impl_PeaksOf : AFn :=
 ⟨1, 38, [.tmp 2, .tmp 3],
 .seq (.ops [(none, .box 1 (.t 0)),
 (none, .mv 2 (.c .nil)),
 (none, .mv 3 (.c (.B false)))])
 (.seq (.seq (.ops [(none, .loadN 8 4 (.t 1)),
 (none, .call (some 9) F.impl_IsHeap [(.t 8)]),
 (none, .un 10 .not (.t 9))])
 (.cond (.t 10) (.seq (.ops [(none, .mv 2 (.c .nil)),
 (none, .mv 3 (.c (.B false)))])
 (.ret))
 (.skip)))
 (.seq (.ops [(none, .loadN 11 4 (.t 1)),
 (none, .call (some 12) F.impl_Heap_top [(.t 11)]),
 (none, .buildSl 13 0 1 [] []),
 (none, .alloc 4 [.nil, (.I 0)]),
 (none, .store 2 (.t 4) (.t 12)),
 (none, .mv 5 (.t 13))])
 (.seq (.seq (.ops [(none, .fieldAddr 14 (.t 4) 0),
 (none, .load1 15 (.t 14)),
 (none, .len 16 (.t 15)),
 (none, .mv 17 (.c (.I 0)))])
 (.block 0 (.loop (.seq (.ops [(none, .bin 18 .lss (.t 17) (.t 16))])
 (.seq (.cond (.t 18) (.skip)
 (.exit 0))
 (.seq (.block 1 (.seq (.ops [(none, .mv 19 (.t 17)),
 (none, .idxS 20 1 (.t 15) (.t 17)),
 (none, .load1 21 (.t 20)),
 (none, .alloc 7 [(.I 0)]),
 (none, .mv 6 (.t 19)),
 (none, .store 1 (.t 7) (.t 21))])
 (.seq (.ops [(none, .load1 22 (.t 7)),
 (none, .bin 23 .gtr (.t 22) (.c (.I 0))),
 (none, .mv 24 (.t 23)),
 (some (24, true), .loadN 25 2 (.t 4)),
 (some (24, true), .mv 26 (.t 6)),
 (some (24, true), .call (some 27) F.impl_top_near [(.t 25), (.t 26)]),
 (some (24, true), .mkf 28 F.impl_PeaksOf_1 [(.t 4), (.t 7)]),
 (some (24, true), .call (some 29) F.slices_ContainsFunc_Sint_int [(.t 27), (.t 28)]),
 (some (24, true), .un 30 .not (.t 29)),
 (none, .pick 31 (.t 24) (.t 30) (.c (.B false)))])
 (.cond (.t 31) (.ops [(none, .mv 32 (.t 5)),
 (none, .mv 33 (.t 6)),
 (none, .buildSl 34 1 1 [(.I 0)] [(0, 1, (.t 33))]),
 (none, .append 35 1 8 (.t 32) (.t 34)),
 (none, .mv 5 (.t 35))])
 (.skip)))))
 (.ops [(none, .bin 36 .add (.t 17) (.c (.I 1))),
 (none, .mv 17 (.t 36))])))))))
 (.seq (.ops [(none, .mv 37 (.t 5)),
 (none, .mv 2 (.t 37)),
 (none, .mv 3 (.c (.B true)))])
 (.ret)))))⟩
def impl_PeaksOf_1 : AFn :=
 ⟨3, 12, [.tmp 4],
 .seq (.ops [(none, .mv 4 (.c (.B false)))])
 (.seq (.draw [⟨(none, .fieldAddr 5 (.t 1) 0), [], []⟩,
 ⟨(none, .load1 6 (.t 5)), [], []⟩,
 ⟨(none, .mv 7 (.t 0)), [], []⟩,
 ⟨(none, .idxS 8 1 (.t 6) (.t 7)), [], []⟩,
 ⟨(none, .load1 9 (.t 8)), [], []⟩,
 ⟨(none, .load1 10 (.t 2)), [], []⟩,
 ⟨(none, .bin 11 .geq (.t 9) (.t 10)), [], []⟩,
 ⟨(none, .mv 4 (.t 11)), [], []⟩])
 (.ret))⟩
def impl_LevelCounts : AFn :=
 ⟨1, 29, [.tmp 2, .tmp 3],
 .seq (.ops [(none, .box 1 (.t 0)),
 (none, .mv 2 (.c .nil)),
 (none, .mv 3 (.c (.B false)))])
 (.seq (.seq (.ops [(none, .loadN 7 4 (.t 1)),
 (none, .call (some 8) F.impl_IsHeap [(.t 7)]),
 (none, .un 9 .not (.t 8))])
 (.cond (.t 9) (.seq (.ops [(none, .mv 2 (.c .nil)),
 (none, .mv 3 (.c (.B false)))])
 (.ret))
 (.skip)))
 (.seq (.ops [(none, .fieldAddr 10 (.t 1) 2),
 (none, .load1 11 (.t 10)),
 (none, .bin 12 .add (.t 11) (.c (.I 1))),
 (none, .mksl 13 1 8 [(.I 0)] (.t 12) (.t 12)),
 (none, .mv 4 (.t 13))])
 (.seq (.seq (.ops [(none, .loadN 14 4 (.t 1)),
 (none, .call (some 15) F.impl_Heap_heights [(.t 14)]),
 (none, .len 16 (.t 15)),
 (none, .mv 17 (.c (.I 0)))])
 (.block 0 (.loop (.seq (.ops [(none, .bin 18 .lss (.t 17) (.t 16))])
 (.seq (.cond (.t 18) (.skip)
 (.exit 0))
 (.seq (.block 1 (.seq (.ops [(none, .idxS 19 1 (.t 15) (.t 17)),
 (none, .load1 20 (.t 19)),
 (none, .mv 6 (.t 20))])
 (.ops [(none, .mv 21 (.t 4)),
 (none, .mv 22 (.t 6)),
 (none, .idxS 23 1 (.t 21) (.t 22)),
 (none, .load1 24 (.t 23)),
 (none, .bin 25 .add (.t 24) (.c (.I 1))),
 (none, .idxS 26 1 (.t 21) (.t 22)),
 (none, .store 1 (.t 26) (.t 25))])))
 (.ops [(none, .bin 27 .add (.t 17) (.c (.I 1))),
 (none, .mv 17 (.t 27))])))))))
 (.seq (.ops [(none, .mv 28 (.t 4)),
 (none, .mv 2 (.t 28)),
 (none, .mv 3 (.c (.B true)))])
 (.ret)))))⟩
def slices_ContainsFunc_Sint_int : AFn :=
 ⟨2, 9, [.tmp 4],
 .seq (.ops [(none, .mv 4 (.c (.B false)))])
 (.seq (.ops [(none, .mv 5 (.t 0)),
 (none, .mv 6 (.t 1)),
 (none, .call (some 7) F.slices_IndexFunc_Sint_int [(.t 5), (.t 6)]),
 (none, .bin 8 .geq (.t 7) (.c (.I 0))),
 (none, .mv 4 (.t 8))])
 (.ret))⟩
end Go.Ab.C

/- That the program has this code. -/
namespace Go.Ab.K
open Go Go.Ab
theorem spec_PeaksOf : prepF Go.Proofs.Try.prog F.spec_PeaksOf = some C.spec_PeaksOf := by kernel_rfl
theorem spec_LevelCounts : prepF Go.Proofs.Try.prog F.spec_LevelCounts = some C.spec_LevelCounts := by kernel_rfl
theorem impl_PeaksOf : prepF Go.Proofs.Try.prog F.impl_PeaksOf = some C.impl_PeaksOf := by kernel_rfl
theorem impl_PeaksOf_1 : prepF Go.Proofs.Try.prog F.impl_PeaksOf_1 = some C.impl_PeaksOf_1 := by kernel_rfl
theorem impl_LevelCounts : prepF Go.Proofs.Try.prog F.impl_LevelCounts = some C.impl_LevelCounts := by kernel_rfl
theorem slices_ContainsFunc_Sint_int : prepF Go.Proofs.Try.prog F.slices_ContainsFunc_Sint_int = some C.slices_ContainsFunc_Sint_int := by kernel_rfl
end Go.Ab.K
