/- Parts of the proof of FnExactFirstFewestSaid: Wk C_Wl K_Wl C_Wg K_Wg Wg Wl LFirstFewest Ra Rb Rc. -/
import Derived.Test.YtjpdjjeddagjlaaA5
import Derived.Test.YtjpdjjeddagjlaaA4
import Derived.Test.YtjpdjjeddagjlaaA8
import Derived.Test.YtjpdjjeddagjlaaA3
import Derived.Test.YtjpdjjeddagjlaaProg
import Derived.KernelRfl
import Derived.Below
import Derived.Lib.SmallJoins
import Derived.Deep.Slices
import Derived.Laws.IdiomArrays
import Derived.ChangeSlices
set_option linter.all false
/- Contracts: FewestCubes and FirstFewest, the reference's side. -/
namespace Go.Ab
open Go
set_option linter.unusedSimpArgs false
set_option linter.unusedVariables false
set_option maxRecDepth 20000

def SmallS (x y z : Int) (tp fr sd : List Int) : Prop := Fits x y z tp fr sd ∧ x * y * z ≤ 27
instance (x y z : Int) (tp fr sd : List Int) : Decidable (SmallS x y z tp fr sd) := by unfold SmallS; exact inferInstance
def fewCells (x y z : Int) (tp fr sd : List Int) : List Cell := (fewR y z (lits tp fr sd) (pick x y z (allowedB y z tp fr sd))).getD []
def fewOf (x y z : Int) (tp fr sd : List Int) : Int × Bool := if SmallS x y z tp fr sd then (((fewCells x y z tp fr sd).length : Nat), true) else (0, false)
def firstFew (x y z : Int) (tp fr sd : List Int) : Option Hp := if SmallS x y z tp fr sd then some ⟨x, y, z, fewCells x y z tp fr sd⟩ else none
theorem few_len {x y z : Int} {tp fr sd : List Int} (h : Fits x y z tp fr sd) : (fewCells x y z tp fr sd).length ≤ 64 := by
  obtain ⟨k, r, h1, _, _, h4, h5⟩ := few_ex h
  unfold fewCells
  rw [h4, Option.getD_some, h5]
  have := pick_len h.1.1 (allowedB y z tp fr sd)
  omega
theorem firstFew_len {x y z : Int} {tp fr sd : List Int} : ((firstFew x y z tp fr sd).getD Hp.none).cs.length ≤ 1000000000 := by
  unfold firstFew
  split
  · rename_i h
    have := few_len h.1
    simp only [Option.getD_some]; omega
  · simp [Hp.none]
section
variable {x y z : Int} {t o t' o' t2 o2 : Nat} {tp fr sd : List Int} {M : Mem} (h1 : Ints M t o tp) (h2 : Ints M t' o' fr) (h3 : Ints M t2 o2 sd)
include h1 h2 h3
theorem h_l3Fewest (hF : Fits x y z tp fr sd) : CallsR PG F.spec_l3Fewest [.agg [.I x, .I y, .I z, .ref t o tp.length, .ref t' o' fr.length, .ref t2 o2 sd.length]] M
    fun v N => ∃ u : Nat, v = .agg [.I x, .I y, .I z, .ref u 0 (fewCells x y z tp fr sd).length] ∧ Live N u (.row (triL (fewCells x y z tp fr sd)) true 3) ∧ M.length ≤ u ∧ Pre M N := by
  have hok := hF.1
  have hS := hok.1
  obtain ⟨k, r, hk, hr, hnone, hfr, hrl⟩ := few_ex hF
  have hfc : fewCells x y z tp fr sd = r := by unfold fewCells; rw [hfr]; rfl
  rw [hfc]
  have hAl := pick_len hS (allowedB y z tp fr sd)
  have hAin : ∀ c ∈ pick x y z (allowedB y z tp fr sd), c.inBox x y z := fun c hc => ((mem_pick hS).1 hc).1
  refine callsR_run K.spec_l3Fewest rfl ?_
  simp (disch := omega) only [C.spec_l3Fewest, ↓SXd, SXu, slBounds, ↓sop, ↓aop, ↓reduceIte, LV.cells, AOp.dst, LV.I, LV.B, LV.U, LV.S, LV.nil, Nat.reduceEqDiff, Nat.reduceAdd, Nat.reduceMul, Nat.reduceSub, Nat.reduceLeDiff, Nat.reduceBEq, Nat.reduceDiv, Nat.reduceMod, Int.reduceToNat, Int.reduceLT, Int.reduceLE, Int.reduceAdd, Int.reduceSub, Int.reduceMul, Int.reduceEq, Int.reduceNeg, reduceCtorEq, resV, resAll, ARes.ev, LV.flat, ite_true, ite_false, exists_eq_left', exists_eq_left, keyOf, implies_true, fillC, capOf]
  refine callH_of (h_l3Allowed h1.app h2.app h3.app hok) ?_
  intro a N ha hp hl
  have hM : Pre M N := (Pre.app _ _).trans hp
  have b1 : Live N M.length (.row [.I x, .I y, .I z, .ref t o tp.length, .ref t' o' fr.length, .ref t2 o2 sd.length] true 0) := Live.new.pre hp
  have b2 : Live N (M.length + 1) (.row [.I 0, .I 0, .I 0, .nil] true 0) := (Live.newj rfl).pre hp
  have hsearch := h_l3Search (x := x) (y := y) (z := z) (t := t) (o := o) (t' := t') (o' := o') (t2 := t2) (o2 := o2) (a := a) (w := true) hok hAin hAl
  generalize pick x y z (allowedB y z tp fr sd) = A at hk hr hnone hAl hl hsearch ⊢
  simp (disch := omega) only [↓SXd, SXu, slBounds, ↓sop, ↓aop, ↓reduceIte, LV.cells, AOp.dst, LV.I, LV.B, LV.U, LV.S, LV.nil, Nat.reduceEqDiff, Nat.reduceAdd, Nat.reduceMul, Nat.reduceSub, Nat.reduceLeDiff, Nat.reduceBEq, Nat.reduceDiv, Nat.reduceMod, Int.reduceToNat, Int.reduceLT, Int.reduceLE, Int.reduceAdd, Int.reduceSub, Int.reduceMul, Int.reduceEq, Int.reduceNeg, reduceCtorEq, resV, resAll, ARes.ev, LV.flat, ite_true, ite_false, exists_eq_left', exists_eq_left, keyOf, implies_true, fillC, capOf]
  refine ev_loop (fun m fr1 M' => ∃ j : Nat, j + m = A.length + 1 ∧ j ≤ k ∧ Pre N M' ∧ fr1 1 = .ptr M.length 0 ∧ fr1 2 = .ptr (M.length + 1) 0 ∧ fr1 3 = .ref a 0 A.length ∧ fr1 4 = .I j) (A.length + 1)
    ⟨0, by omega, by omega, Pre.refl _, rfl, rfl, rfl, rfl⟩ ?_
  rintro m fr1 M' ⟨j, hj, hjk, hpr, f1, f2, f3, f4⟩
  have hjA : (j : Int) ≤ A.length := by omega
  simp (disch := omega) only [f1, f2, f3, f4, hjA, (b1.pre hpr).cells, ↓SXd, SXu, slBounds, ↓sop, ↓aop, ↓reduceIte, LV.cells, AOp.dst, LV.I, LV.B, LV.U, LV.S, LV.nil, Nat.reduceEqDiff, Nat.reduceAdd, Nat.reduceMul, Nat.reduceSub, Nat.reduceLeDiff, Nat.reduceBEq, Nat.reduceDiv, Nat.reduceMod, Int.reduceToNat, Int.reduceLT, Int.reduceLE, Int.reduceAdd, Int.reduceSub, Int.reduceMul, Int.reduceEq, Int.reduceNeg, reduceCtorEq, resV, resAll, ARes.ev, LV.flat, ite_true, ite_false, exists_eq_left', exists_eq_left, keyOf, implies_true, fillC, capOf]
  have hpM := (hM.trans hpr).app' (L := [some (.row [] true 3)])
  refine callR_of (hsearch j (by omega) j (ch := []) (i0 := 0) (q := M'.length) (M := M' ++ [some (.row [] true 3)]) (by simp) (by omega) (h1.pre hpM) (h2.pre hpM) (h3.pre hpM) ((hl.pre hpr).app) Live.new (by simp)) ?_
  rintro _ N2 ⟨u, rfl, hu, hul, hp2⟩
  rw [List.drop_zero] at hu ⊢
  have hul2 : M'.length ≤ u := by
    rcases hul with h | h
    · omega
    · simp at h; omega
  have hpN2 : Pre N N2 := hpr.trans ((Pre.app _ _).trans hp2)
  cases hf : fc y z (lits tp fr sd) A [] j with
  | none =>
    have hjne : j ≠ k := fun e => by rw [e, hr] at hf; cases hf
    simp (disch := omega) only [f1, f2, f3, f4, Option.isSome_none, ↓SXd, SXu, slBounds, ↓sop, ↓aop, ↓reduceIte, LV.cells, AOp.dst, LV.I, LV.B, LV.U, LV.S, LV.nil, Nat.reduceEqDiff, Nat.reduceAdd, Nat.reduceMul, Nat.reduceSub, Nat.reduceLeDiff, Nat.reduceBEq, Nat.reduceDiv, Nat.reduceMod, Int.reduceToNat, Int.reduceLT, Int.reduceLE, Int.reduceAdd, Int.reduceSub, Int.reduceMul, Int.reduceEq, Int.reduceNeg, reduceCtorEq, resV, resAll, ARes.ev, LV.flat, ite_true, ite_false, exists_eq_left', exists_eq_left, keyOf, implies_true, fillC, capOf]
    exact ⟨m - 1, by omega, j + 1, by omega, by omega, hpN2, f1, f2, f3, eqI (natI _)⟩
  | some r' =>
    have hjk2 : j = k := by
      rcases Nat.lt_or_ge j k with h | h
      · rw [hnone j h] at hf; cases hf
      · omega
    subst hjk2
    rw [hr] at hf
    cases hf
    rw [hr] at hu
    simp only [Option.getD_some] at hu ⊢
    have hrl2 : r.length ≤ 64 := by omega
    simp (disch := omega) only [f1, f2, f3, f4, Option.isSome_some, (b1.pre hpN2).cell, ↓SXd, SXu, slBounds, ↓sop, ↓aop, ↓reduceIte, LV.cells, AOp.dst, LV.I, LV.B, LV.U, LV.S, LV.nil, Nat.reduceEqDiff, Nat.reduceAdd, Nat.reduceMul, Nat.reduceSub, Nat.reduceLeDiff, Nat.reduceBEq, Nat.reduceDiv, Nat.reduceMod, Int.reduceToNat, Int.reduceLT, Int.reduceLE, Int.reduceAdd, Int.reduceSub, Int.reduceMul, Int.reduceEq, Int.reduceNeg, reduceCtorEq, resV, resAll, ARes.ev, LV.flat, ite_true, ite_false, exists_eq_left', exists_eq_left, keyOf, implies_true, fillC, capOf]
    have huN := hu.lt
    refine callK_of (h_l2Empty) ?_
    simp (disch := omega) only [↓SXd, SXu, slBounds, ↓sop, ↓aop, ↓reduceIte, LV.cells, AOp.dst, LV.I, LV.B, LV.U, LV.S, LV.nil, Nat.reduceEqDiff, Nat.reduceAdd, Nat.reduceMul, Nat.reduceSub, Nat.reduceLeDiff, Nat.reduceBEq, Nat.reduceDiv, Nat.reduceMod, Int.reduceToNat, Int.reduceLT, Int.reduceLE, Int.reduceAdd, Int.reduceSub, Int.reduceMul, Int.reduceEq, Int.reduceNeg, reduceCtorEq, resV, resAll, ARes.ev, LV.flat, ite_true, ite_false, exists_eq_left', exists_eq_left, keyOf, implies_true, fillC, capOf]
    refine callK_of (h_l2Made (t := u) (by simp; omega)) ?_
    simp (disch := omega) only [f1, f2, f3, f4, ↓SXd, SXu, slBounds, ↓sop, ↓aop, ↓reduceIte, LV.cells, AOp.dst, LV.I, LV.B, LV.U, LV.S, LV.nil, Nat.reduceEqDiff, Nat.reduceAdd, Nat.reduceMul, Nat.reduceSub, Nat.reduceLeDiff, Nat.reduceBEq, Nat.reduceDiv, Nat.reduceMod, Int.reduceToNat, Int.reduceLT, Int.reduceLE, Int.reduceAdd, Int.reduceSub, Int.reduceMul, Int.reduceEq, Int.reduceNeg, reduceCtorEq, resV, resAll, ARes.ev, LV.flat, ite_true, ite_false, exists_eq_left', exists_eq_left, keyOf, implies_true, fillC, capOf]
    refine memK_box (vs := [.I x, .I y, .I z, .ref u 0 r.length]) (((b2.pre hpN2)).app) rfl fun N3 q1 q2 q3 => ?_
    simp (disch := omega) only [f1, f2, f3, f4, q2.cells, ↓SXd, SXu, slBounds, ↓sop, ↓aop, ↓reduceIte, LV.cells, AOp.dst, LV.I, LV.B, LV.U, LV.S, LV.nil, Nat.reduceEqDiff, Nat.reduceAdd, Nat.reduceMul, Nat.reduceSub, Nat.reduceLeDiff, Nat.reduceBEq, Nat.reduceDiv, Nat.reduceMod, Int.reduceToNat, Int.reduceLT, Int.reduceLE, Int.reduceAdd, Int.reduceSub, Int.reduceMul, Int.reduceEq, Int.reduceNeg, reduceCtorEq, resV, resAll, ARes.ev, LV.flat, ite_true, ite_false, exists_eq_left', exists_eq_left, keyOf, implies_true, fillC, capOf]
    have hlM : M.length + 1 < N2.length := (b2.pre hpN2).lt
    have hlMM := hM.1
    have hprl := hpr.1
    have hb2l := b2.lt
    refine ⟨u, rfl, live_step hu.app (by omega) q3, by omega, pre_step ((hM.trans hpN2).app') (by omega) (j := 0) q1 q3⟩
theorem h_l3Small (l1 : tp.length ≤ 1000000000) (l2 : fr.length ≤ 1000000000) (l3 : sd.length ≤ 1000000000) : CallsTo PG F.spec_l3Small [.agg [.I x, .I y, .I z, .ref t o tp.length, .ref t' o' fr.length, .ref t2 o2 sd.length]] M (.B (decide (SmallS x y z tp fr sd))) M := by
  refine calls_run K.spec_l3Small rfl ?_
  simp (disch := omega) only [C.spec_l3Small, ↓SXd, SXu, slBounds, ↓sop, ↓aop, ↓reduceIte, LV.cells, AOp.dst, LV.I, LV.B, LV.U, LV.S, LV.nil, Nat.reduceEqDiff, Nat.reduceAdd, Nat.reduceMul, Nat.reduceSub, Nat.reduceLeDiff, Nat.reduceBEq, Nat.reduceDiv, Nat.reduceMod, Int.reduceToNat, Int.reduceLT, Int.reduceLE, Int.reduceAdd, Int.reduceSub, Int.reduceMul, Int.reduceEq, Int.reduceNeg, reduceCtorEq, resV, resAll, ARes.ev, LV.flat, ite_true, ite_false, exists_eq_left', exists_eq_left, keyOf, implies_true, fillC, capOf]
  refine callK_of (h_l3Fit h1.app h2.app h3.app l1 l2 l3) ?_
  unfold SmallS
  by_cases hF : Fits x y z tp fr sd
  · rw [show decide (ShdOK x y z tp fr sd ∧ HasShd x y z tp fr sd (pick x y z (allowedB y z tp fr sd))) = true from decide_eq_true hF]
    have hv := vol_bound hF.1.1
    simp (disch := omega) only [hF, true_and, ↓SXd, SXu, slBounds, ↓sop, ↓aop, ↓reduceIte, LV.cells, AOp.dst, LV.I, LV.B, LV.U, LV.S, LV.nil, Nat.reduceEqDiff, Nat.reduceAdd, Nat.reduceMul, Nat.reduceSub, Nat.reduceLeDiff, Nat.reduceBEq, Nat.reduceDiv, Nat.reduceMod, Int.reduceToNat, Int.reduceLT, Int.reduceLE, Int.reduceAdd, Int.reduceSub, Int.reduceMul, Int.reduceEq, Int.reduceNeg, reduceCtorEq, resV, resAll, ARes.ev, LV.flat, ite_true, ite_false, exists_eq_left', exists_eq_left, keyOf, implies_true, fillC, capOf]
    exact cmp_drop rfl
  · rw [show decide (ShdOK x y z tp fr sd ∧ HasShd x y z tp fr sd (pick x y z (allowedB y z tp fr sd))) = false from decide_eq_false hF]
    simp (disch := omega) only [hF, false_and, ↓SXd, SXu, slBounds, ↓sop, ↓aop, ↓reduceIte, LV.cells, AOp.dst, LV.I, LV.B, LV.U, LV.S, LV.nil, Nat.reduceEqDiff, Nat.reduceAdd, Nat.reduceMul, Nat.reduceSub, Nat.reduceLeDiff, Nat.reduceBEq, Nat.reduceDiv, Nat.reduceMod, Int.reduceToNat, Int.reduceLT, Int.reduceLE, Int.reduceAdd, Int.reduceSub, Int.reduceMul, Int.reduceEq, Int.reduceNeg, reduceCtorEq, resV, resAll, ARes.ev, LV.flat, ite_true, ite_false, exists_eq_left', exists_eq_left, keyOf, implies_true, fillC, capOf]
    exact cmp_drop rfl
theorem h_sFirstFewest (l1 : tp.length ≤ 1000000000) (l2 : fr.length ≤ 1000000000) (l3 : sd.length ≤ 1000000000) : CallsR PG F.spec_FirstFewest [.agg [.I x, .I y, .I z, .ref t o tp.length, .ref t' o' fr.length, .ref t2 o2 sd.length]] M (HeapRes M (firstFew x y z tp fr sd) []) := by
  refine callsR_run K.spec_FirstFewest rfl ?_
  simp (disch := omega) only [C.spec_FirstFewest, ↓SXd, SXu, slBounds, ↓sop, ↓aop, ↓reduceIte, LV.cells, AOp.dst, LV.I, LV.B, LV.U, LV.S, LV.nil, Nat.reduceEqDiff, Nat.reduceAdd, Nat.reduceMul, Nat.reduceSub, Nat.reduceLeDiff, Nat.reduceBEq, Nat.reduceDiv, Nat.reduceMod, Int.reduceToNat, Int.reduceLT, Int.reduceLE, Int.reduceAdd, Int.reduceSub, Int.reduceMul, Int.reduceEq, Int.reduceNeg, reduceCtorEq, resV, resAll, ARes.ev, LV.flat, ite_true, ite_false, exists_eq_left', exists_eq_left, keyOf, implies_true, fillC, capOf]
  refine callK_of (h_l3Small h1.app h2.app h3.app l1 l2 l3) ?_
  simp (disch := omega) only [↓SXd, SXu, slBounds, ↓sop, ↓aop, ↓reduceIte, LV.cells, AOp.dst, LV.I, LV.B, LV.U, LV.S, LV.nil, Nat.reduceEqDiff, Nat.reduceAdd, Nat.reduceMul, Nat.reduceSub, Nat.reduceLeDiff, Nat.reduceBEq, Nat.reduceDiv, Nat.reduceMod, Int.reduceToNat, Int.reduceLT, Int.reduceLE, Int.reduceAdd, Int.reduceSub, Int.reduceMul, Int.reduceEq, Int.reduceNeg, reduceCtorEq, resV, resAll, ARes.ev, LV.flat, ite_true, ite_false, exists_eq_left', exists_eq_left, keyOf, implies_true, fillC, capOf]
  unfold firstFew
  by_cases hF : SmallS x y z tp fr sd
  · rw [if_pos hF]
    simp (disch := omega) only [hF, ↓SXd, SXu, slBounds, ↓sop, ↓aop, ↓reduceIte, LV.cells, AOp.dst, LV.I, LV.B, LV.U, LV.S, LV.nil, Nat.reduceEqDiff, Nat.reduceAdd, Nat.reduceMul, Nat.reduceSub, Nat.reduceLeDiff, Nat.reduceBEq, Nat.reduceDiv, Nat.reduceMod, Int.reduceToNat, Int.reduceLT, Int.reduceLE, Int.reduceAdd, Int.reduceSub, Int.reduceMul, Int.reduceEq, Int.reduceNeg, reduceCtorEq, resV, resAll, ARes.ev, LV.flat, ite_true, ite_false, exists_eq_left', exists_eq_left, keyOf, implies_true, fillC, capOf]
    refine callR_of (h_l3Fewest h1.app h2.app h3.app hF.1) ?_
    rintro _ N ⟨u, rfl, hu, hul, hp⟩
    have b2 : Live N (M.length + 1) (.row [.I 0, .I 0, .I 0, .nil] true 0) := (Live.newj rfl).pre hp
    simp (disch := omega) only [↓SXd, SXu, slBounds, ↓sop, ↓aop, ↓reduceIte, LV.cells, AOp.dst, LV.I, LV.B, LV.U, LV.S, LV.nil, Nat.reduceEqDiff, Nat.reduceAdd, Nat.reduceMul, Nat.reduceSub, Nat.reduceLeDiff, Nat.reduceBEq, Nat.reduceDiv, Nat.reduceMod, Int.reduceToNat, Int.reduceLT, Int.reduceLE, Int.reduceAdd, Int.reduceSub, Int.reduceMul, Int.reduceEq, Int.reduceNeg, reduceCtorEq, resV, resAll, ARes.ev, LV.flat, ite_true, ite_false, exists_eq_left', exists_eq_left, keyOf, implies_true, fillC, capOf]
    refine memK_box b2 (by simp) fun N3 q1 q2 q3 => ?_
    simp (disch := omega) only [q2.cells, ↓SXd, SXu, slBounds, ↓sop, ↓aop, ↓reduceIte, LV.cells, AOp.dst, LV.I, LV.B, LV.U, LV.S, LV.nil, Nat.reduceEqDiff, Nat.reduceAdd, Nat.reduceMul, Nat.reduceSub, Nat.reduceLeDiff, Nat.reduceBEq, Nat.reduceDiv, Nat.reduceMod, Int.reduceToNat, Int.reduceLT, Int.reduceLE, Int.reduceAdd, Int.reduceSub, Int.reduceMul, Int.reduceEq, Int.reduceNeg, reduceCtorEq, resV, resAll, ARes.ev, LV.flat, ite_true, ite_false, exists_eq_left', exists_eq_left, keyOf, implies_true, fillC, capOf]
    have hul2 : M.length + 2 ≤ u := by simpa using hul
    exact ⟨_, rfl, SlC.of (live_step hu (by omega) q3), Newer.of (by omega), pre_step ((Pre.app _ _).trans hp) (by omega) (j := 0) q1 q3⟩
  · rw [if_neg hF]
    simp (disch := omega) only [hF, splice, ↓SXd, SXu, slBounds, ↓sop, ↓aop, ↓reduceIte, LV.cells, AOp.dst, LV.I, LV.B, LV.U, LV.S, LV.nil, Nat.reduceEqDiff, Nat.reduceAdd, Nat.reduceMul, Nat.reduceSub, Nat.reduceLeDiff, Nat.reduceBEq, Nat.reduceDiv, Nat.reduceMod, Int.reduceToNat, Int.reduceLT, Int.reduceLE, Int.reduceAdd, Int.reduceSub, Int.reduceMul, Int.reduceEq, Int.reduceNeg, reduceCtorEq, resV, resAll, ARes.ev, LV.flat, ite_true, ite_false, exists_eq_left', exists_eq_left, keyOf, implies_true, fillC, capOf]
    exact ⟨_, rfl, SlC.nil, Newer.nil, Pre.app _ _⟩
end
end Go.Ab

/- The abstract code of some functions (written by a program of mine from the translation, by way of prepF). -/
namespace Go.Ab.C
open Go.Ab
def impl_Shadow_fewest : AFn :=
  ⟨1, 31, [.tmp 2, .tmp 3],
    .seq (.ops [(none, .box 1 (.t 0)),
       (none, .mv 2 (.c (.I 0))),
       (none, .mv 3 (.c (.B false)))])
    (.seq (.seq (.ops [(none, .loadN 5 6 (.t 1)),
         (none, .call (some 6) F.impl_isFitting [(.t 5)]),
         (none, .un 7 .not (.t 6)),
         (none, .mv 8 (.t 7)),
         (some (8, false), .loadN 9 6 (.t 1)),
         (some (8, false), .call (some 10) F.impl_Shadow_box [(.t 9)]),
         (some (8, false), .call (some 11) F.impl_box_size [(.t 10)]),
         (some (8, false), .bin 12 .gtr (.t 11) (.c (.I 27))),
         (none, .pick 13 (.t 8) (.c (.B true)) (.t 12))])
      (.cond (.t 13) (.seq (.ops [(none, .mv 2 (.c (.I 0))),
           (none, .mv 3 (.c (.B false)))])
        (.ret))
       (.skip)))
     (.seq (.ops [(none, .loadN 14 6 (.t 1)),
         (none, .call (some 15) F.impl_Shadow_must [(.t 14)]),
         (none, .call (some 16) F.impl_set_count [(.t 15)]),
         (none, .mv 4 (.t 16))])
      (.seq (.block 0 (.loop (.seq (.seq (.draw [⟨(none, .loadN 17 6 (.t 1)), [], []⟩,
              ⟨(none, .loadN 19 6 (.t 1)), [], []⟩,
              ⟨(none, .mv 21 (.t 4)), [], []⟩,
              ⟨(none, .loadN 22 6 (.t 1)), [], []⟩,
              ⟨(none, .call (some 18) F.impl_Shadow_needs [(.t 17)]), [], [1, 2, 3]⟩,
              ⟨(none, .call (some 20) F.impl_Shadow_must [(.t 19)]), [], [2, 3]⟩,
              ⟨(none, .call (some 23) F.impl_Shadow_must [(.t 22)]), [], [2]⟩,
              ⟨(none, .call (some 24) F.impl_set_count [(.t 23)]), [], [2]⟩,
              ⟨(none, .bin 25 .sub (.t 21) (.t 24)), [], []⟩,
              ⟨(none, .call (some 26) F.impl_canMeet [(.t 18), (.t 20), (.c (.U 0)), (.t 25)]), [], []⟩,
              ⟨(none, .un 27 .not (.t 26)), [], []⟩])
           (.cond (.t 27) (.skip)
            (.exit 0)))
          (.block 1 (.ops [(none, .mv 28 (.t 4)),
              (none, .bin 29 .add (.t 28) (.c (.I 1))),
              (none, .mv 4 (.t 29))])))))
       (.seq (.ops [(none, .mv 30 (.t 4)),
           (none, .mv 2 (.t 30)),
           (none, .mv 3 (.c (.B true)))])
        (.ret)))))⟩
def impl_FirstFewest : AFn :=
  ⟨1, 60, [.cellN 2 4, .tmp 3],
    .seq (.ops [(none, .box 1 (.t 0)),
       (none, .alloc 2 [(.I 0), (.I 0), (.I 0), .nil]),
       (none, .mv 3 (.c (.B false)))])
    (.seq (.ops [(none, .loadN 11 6 (.t 1)),
        (none, .call (some 12) F.impl_Shadow_fewest [(.t 11)]),
        (none, .mv 10 (.t 12)),
        (none, .extract 13 (.t 10) 0),
        (none, .extract 14 (.t 10) 1),
        (none, .mv 4 (.t 13)),
        (none, .mv 5 (.t 14))])
     (.seq (.seq (.ops [(none, .mv 15 (.t 5)),
          (none, .un 16 .not (.t 15))])
       (.cond (.t 16) (.seq (.ops [(none, .build 17 [(.I 0), (.I 0), (.I 0), .nil] []),
            (none, .store 4 (.t 2) (.t 17)),
            (none, .mv 3 (.c (.B false)))])
         (.ret))
        (.skip)))
      (.seq (.ops [(none, .mv 6 (.c (.U 0))),
          (none, .mv 7 (.c (.U 0)))])
       (.seq (.seq (.ops [(none, .loadN 18 6 (.t 1)),
            (none, .call (some 19) F.impl_Shadow_box [(.t 18)]),
            (none, .call (some 20) F.impl_box_size [(.t 19)]),
            (none, .mv 21 (.c (.I 0)))])
         (.block 0 (.loop (.seq (.ops [(none, .bin 22 .lss (.t 21) (.t 20))])
            (.seq (.cond (.t 22) (.skip)
              (.exit 0))
             (.seq (.block 1 (.seq (.ops [(none, .mv 23 (.t 21)),
                   (none, .mv 8 (.t 23))])
                (.seq (.ops [(none, .mv 24 (.t 8)),
                    (none, .bin 25 .shl (.c (.U 1)) (.t 24)),
                    (none, .mv 9 (.t 25))])
                 (.seq (.seq (.ops [(none, .mv 26 (.t 6)),
                      (none, .call (some 27) F.impl_set_count [(.t 26)]),
                      (none, .mv 28 (.t 4)),
                      (none, .bin 29 .eql (.t 27) (.t 28)),
                      (none, .mv 30 (.t 29)),
                      (some (30, false), .loadN 31 6 (.t 1)),
                      (some (30, false), .call (some 32) F.impl_Shadow_allowed [(.t 31)]),
                      (some (30, false), .mv 33 (.t 9)),
                      (some (30, false), .bin 34 .and (.t 32) (.t 33)),
                      (some (30, false), .bin 35 .eql (.t 34) (.c (.U 0))),
                      (none, .pick 36 (.t 30) (.c (.B true)) (.t 35))])
                   (.cond (.t 36) (.exit 1)
                    (.skip)))
                  (.seq (.ops [(none, .loadN 37 6 (.t 1)),
                      (none, .call (some 38) F.impl_Shadow_needs [(.t 37)]),
                      (none, .mv 39 (.t 6)),
                      (none, .mv 40 (.t 9)),
                      (none, .bin 41 .or (.t 39) (.t 40)),
                      (none, .mv 42 (.t 7)),
                      (none, .mv 43 (.t 4)),
                      (none, .mv 44 (.t 6)),
                      (none, .call (some 45) F.impl_set_count [(.t 44)]),
                      (none, .bin 46 .sub (.t 43) (.t 45)),
                      (none, .bin 47 .sub (.t 46) (.c (.I 1))),
                      (none, .call (some 48) F.impl_canMeet [(.t 38), (.t 41), (.t 42), (.t 47)])])
                   (.cond (.t 48) (.ops [(none, .mv 49 (.t 6)),
                       (none, .mv 50 (.t 9)),
                       (none, .bin 51 .or (.t 49) (.t 50)),
                       (none, .mv 6 (.t 51))])
                    (.ops [(none, .mv 52 (.t 7)),
                       (none, .mv 53 (.t 9)),
                       (none, .bin 54 .or (.t 52) (.t 53)),
                       (none, .mv 7 (.t 54))])))))))
              (.ops [(none, .bin 55 .add (.t 21) (.c (.I 1))),
                 (none, .mv 21 (.t 55))])))))))
        (.seq (.ops [(none, .loadN 56 6 (.t 1)),
            (none, .call (some 57) F.impl_Shadow_box [(.t 56)]),
            (none, .mv 58 (.t 6)),
            (none, .call (some 59) F.impl_box_heap [(.t 57), (.t 58)]),
            (none, .store 4 (.t 2) (.t 59)),
            (none, .mv 3 (.c (.B true)))])
         (.ret))))))⟩
end Go.Ab.C

/- That the program has this code. -/
namespace Go.Ab.K
open Go Go.Ab
theorem impl_Shadow_fewest : prepF Go.Proofs.Try.prog F.impl_Shadow_fewest = some C.impl_Shadow_fewest := by kernel_rfl
theorem impl_FirstFewest : prepF Go.Proofs.Try.prog F.impl_FirstFewest = some C.impl_FirstFewest := by kernel_rfl
end Go.Ab.K

/- The abstract code of some functions (written by a program of mine from the translation, by way of prepF). -/
namespace Go.Ab.C
open Go.Ab
def impl_canMeet : AFn :=
  ⟨4, 77, [.tmp 8],
    .seq (.ops [(none, .mv 8 (.c (.B false)))])
    (.seq (.ops [(none, .mv 9 (.c (.U 0))),
        (none, .mv 10 (.c (.B false))),
        (none, .mv 11 (.c (.I 0))),
        (none, .mv 12 (.c (.U 0)))])
     (.seq (.seq (.ops [(none, .mv 17 (.t 0)),
          (none, .len 18 (.t 17)),
          (none, .mv 19 (.c (.I 0)))])
       (.block 0 (.loop (.seq (.ops [(none, .bin 20 .lss (.t 19) (.t 18))])
          (.seq (.cond (.t 20) (.skip)
            (.exit 0))
           (.seq (.block 1 (.seq (.ops [(none, .idxS 21 1 (.t 17) (.t 19)),
                 (none, .load1 22 (.t 21)),
                 (none, .mv 14 (.t 22))])
              (.seq (.seq (.ops [(none, .mv 23 (.t 14)),
                   (none, .mv 24 (.t 1)),
                   (none, .bin 25 .and (.t 23) (.t 24)),
                   (none, .bin 26 .neq (.t 25) (.c (.U 0)))])
                (.cond (.t 26) (.exit 1)
                 (.skip)))
               (.seq (.ops [(none, .mv 27 (.t 14)),
                   (none, .mv 28 (.t 2)),
                   (none, .bin 29 .andNot (.t 27) (.t 28)),
                   (none, .mv 15 (.t 29))])
                (.seq (.seq (.ops [(none, .mv 30 (.t 15)),
                     (none, .bin 31 .eql (.t 30) (.c (.U 0)))])
                  (.cond (.t 31) (.seq (.ops [(none, .mv 8 (.c (.B false)))])
                    (.ret))
                   (.skip)))
                 (.seq (.seq (.ops [(none, .mv 32 (.t 10)),
                      (none, .un 33 .not (.t 32)),
                      (none, .mv 34 (.t 33)),
                      (some (34, false), .mv 35 (.t 15)),
                      (some (34, false), .call (some 36) F.impl_set_count [(.t 35)]),
                      (some (34, false), .mv 37 (.t 9)),
                      (some (34, false), .call (some 38) F.impl_set_count [(.t 37)]),
                      (some (34, false), .bin 39 .lss (.t 36) (.t 38)),
                      (none, .pick 40 (.t 34) (.c (.B true)) (.t 39))])
                   (.cond (.t 40) (.ops [(none, .mv 41 (.t 15)),
                       (none, .mv 9 (.t 41)),
                       (none, .mv 10 (.c (.B true)))])
                    (.skip)))
                  (.seq (.ops [(none, .mv 42 (.t 15)),
                      (none, .mv 43 (.t 12)),
                      (none, .bin 44 .and (.t 42) (.t 43)),
                      (none, .bin 45 .eql (.t 44) (.c (.U 0)))])
                   (.cond (.t 45) (.seq (.ops [(none, .mv 46 (.t 11)),
                        (none, .bin 47 .add (.t 46) (.c (.I 1))),
                        (none, .mv 11 (.t 47))])
                     (.ops [(none, .mv 48 (.t 12)),
                        (none, .mv 49 (.t 15)),
                        (none, .bin 50 .or (.t 48) (.t 49)),
                        (none, .mv 12 (.t 50))]))
                    (.skip)))))))))
            (.ops [(none, .bin 51 .add (.t 19) (.c (.I 1))),
               (none, .mv 19 (.t 51))])))))))
      (.seq (.seq (.ops [(none, .mv 52 (.t 10)),
           (none, .un 53 .not (.t 52))])
        (.cond (.t 53) (.seq (.ops [(none, .mv 8 (.c (.B true)))])
          (.ret))
         (.skip)))
       (.seq (.seq (.ops [(none, .mv 54 (.t 11)),
            (none, .mv 55 (.t 3)),
            (none, .bin 56 .gtr (.t 54) (.t 55))])
         (.cond (.t 56) (.seq (.ops [(none, .mv 8 (.c (.B false)))])
           (.ret))
          (.skip)))
        (.seq (.block 2 (.loop (.seq (.seq (.ops [(none, .mv 57 (.t 9)),
                (none, .bin 58 .neq (.t 57) (.c (.U 0)))])
             (.cond (.t 58) (.skip)
              (.exit 2)))
            (.block 3 (.seq (.ops [(none, .mv 59 (.t 9)),
                 (none, .mv 60 (.t 9)),
                 (none, .un 61 .neg (.t 60)),
                 (none, .bin 62 .and (.t 59) (.t 61)),
                 (none, .mv 16 (.t 62))])
              (.seq (.seq (.ops [(none, .mv 63 (.t 0)),
                   (none, .mv 64 (.t 1)),
                   (none, .mv 65 (.t 16)),
                   (none, .bin 66 .or (.t 64) (.t 65)),
                   (none, .mv 67 (.t 2)),
                   (none, .mv 68 (.t 3)),
                   (none, .bin 69 .sub (.t 68) (.c (.I 1))),
                   (none, .call (some 70) F.impl_canMeet [(.t 63), (.t 66), (.t 67), (.t 69)])])
                (.cond (.t 70) (.seq (.ops [(none, .mv 8 (.c (.B true)))])
                  (.ret))
                 (.skip)))
               (.seq (.ops [(none, .mv 71 (.t 2)),
                   (none, .mv 72 (.t 16)),
                   (none, .bin 73 .or (.t 71) (.t 72)),
                   (none, .mv 2 (.t 73))])
                (.ops [(none, .mv 74 (.t 9)),
                   (none, .mv 75 (.t 16)),
                   (none, .bin 76 .andNot (.t 74) (.t 75)),
                   (none, .mv 9 (.t 76))]))))))))
         (.seq (.ops [(none, .mv 8 (.c (.B false)))])
          (.ret)))))))⟩
end Go.Ab.C

/- That the program has this code. -/
namespace Go.Ab.K
open Go Go.Ab
theorem impl_canMeet : prepF Go.Proofs.Try.prog F.impl_canMeet = some C.impl_canMeet := by kernel_rfl
end Go.Ab.K

/- Contracts: the program's search for cells that meet all lines. -/
namespace Go.Ab
open Go
set_option linter.unusedSimpArgs false
set_option linter.unusedVariables false
set_option maxRecDepth 20000

section
variable {x y z : Int} (hS : Sides x y z)
include hS
theorem low_of {p : Cell → Bool} (h : bs x y z p ≠ 0#64) : ∃ c, c.inBox x y z ∧ p c = true ∧ (∀ d, d.inBox x y z → p d = true → ¬ d.lt c) := by
  cases hh : pick x y z p with
  | nil =>
    exact absurd ((bs_zero hS).2 fun c hc => by
      cases hpc : p c with
      | false => rfl
      | true => have := (mem_pick hS).2 ⟨hc, hpc⟩; rw [hh] at this; cases this) h
  | cons c rs =>
    have hcq := (mem_pick hS (p := p) (c := c)).1 (by rw [hh]; simp)
    refine ⟨c, hcq.1, hcq.2, fun d hd hpd hlt => ?_⟩
    have hm := (mem_pick hS).2 ⟨hd, hpd⟩
    have hs := pick_sorted hS p
    rw [hh] at hm hs
    rcases List.mem_cons.1 hm with rfl | hm
    · exact Cell.lt_irrefl _ hlt
    · exact Cell.lt_irrefl _ (Cell.lt_trans hlt ((List.pairwise_cons.1 hs).1 d hm))
theorem countP_lt {T : List Cell} {p q : Cell → Bool} (h : ∀ a ∈ T, p a = true → q a = true) (hx : ∃ a ∈ T, q a = true ∧ p a = false) : T.countP p + 1 ≤ T.countP q := by
  rw [List.countP_eq_length_filter, List.countP_eq_length_filter]
  exact filter_lt hS h hx

/-- Cells that meet with the chosen ones all lines. -/
def Good (y z : Int) (L : List (Nat × Nat)) (al : List Cell) (p w : Cell → Bool) (T : List Cell) : Prop := (∀ c ∈ T, w c = false) ∧ ∀ q ∈ L, ∃ c ∈ al, onLine y z q.1 q.2 c = true ∧ (p c = true ∨ c ∈ T)

theorem g_canMeet {A : Cell → Bool} {L : List (Nat × Nat)} (hL : L.length ≤ 64) : ∀ (n : Nat) {p w : Cell → Bool} {u : Nat} {M : Mem}, Live M u (.row (lineSets x y z A L) true 1) → n ≤ 1000 →
    CallsTo PG F.impl_canMeet [.ref u 0 L.length, .W (bs x y z p), .W (bs x y z w), .I n] M (.B (decide (Cov y z L (pick x y z A) p w n))) M := by
  intro n
  induction n using Nat.strongRecOn with
  | ind n ih =>
  intro p w u M hu hn
  have hal : ∀ q c, (c.inBox x y z ∧ inLine y z A q c = true) ↔ (c ∈ pick x y z A ∧ onLine y z q.1 q.2 c = true) := fun q c => by
    rw [mem_pick hS]; unfold inLine; rw [Bool.and_eq_true]
    exact ⟨fun ⟨a, b, c⟩ => ⟨⟨a, b⟩, c⟩, fun ⟨⟨a, b⟩, c⟩ => ⟨a, b, c⟩⟩
  refine calls_run K.impl_canMeet rfl ?_
  simp (disch := omega) only [C.impl_canMeet, ↓SXd, SXu, slBounds, ↓sop, ↓aop, ↓reduceIte, LV.cells, AOp.dst, LV.I, LV.B, LV.U, LV.S, LV.nil, Nat.reduceEqDiff, Nat.reduceAdd, Nat.reduceMul, Nat.reduceSub, Nat.reduceLeDiff, Nat.reduceBEq, Nat.reduceDiv, Nat.reduceMod, Int.reduceToNat, Int.reduceLT, Int.reduceLE, Int.reduceAdd, Int.reduceSub, Int.reduceMul, Int.reduceEq, Int.reduceNeg, reduceCtorEq, resV, resAll, ARes.ev, LV.flat, ite_true, ite_false, exists_eq_left', exists_eq_left, keyOf, implies_true, fillC, capOf]
  refine ev_loop (fun m fr M' => ∃ (i : Nat) (lp up : Cell → Bool) (fd : Bool) (a : Nat), i + m = L.length ∧ M' = M ∧
    fr 0 = .ref u 0 L.length ∧ fr 1 = .W (bs x y z p) ∧ fr 2 = .W (bs x y z w) ∧ fr 3 = .I n ∧ fr 9 = .W (bs x y z lp) ∧ fr 10 = .B fd ∧ fr 11 = .I a ∧ fr 12 = .W (bs x y z up) ∧ fr 17 = .ref u 0 L.length ∧ fr 18 = .I L.length ∧ fr 19 = .I i ∧
    (fd = false → a = 0 ∧ ∀ j, j < i → ∃ c ∈ pick x y z A, onLine y z (L.getD j (0, 0)).1 (L.getD j (0, 0)).2 c = true ∧ p c = true) ∧
    (fd = true → 1 ≤ a ∧ ∃ q ∈ L, lp = (fun c => inLine y z A q c && !w c) ∧ ∀ c ∈ pick x y z A, onLine y z q.1 q.2 c = true → p c = false) ∧
    (∀ T, Good y z L (pick x y z A) p w T → a ≤ T.countP up) ∧ a ≤ i ∧ ((∃ c, up c = true) → 1 ≤ a)) L.length
    ⟨0, fun _ => false, fun _ => false, false, 0, by omega, rfl, rfl, rfl, rfl, rfl, by rw [← bs_none hS]; rfl, rfl, rfl, by rw [← bs_none hS]; rfl, rfl, rfl, rfl, fun _ => ⟨rfl, by omega⟩, (by simp), fun T _ => by omega, by omega, by simp⟩ ?_
  rintro m fr M' ⟨i, lp, up, fd, a, hi, rfl, f0, f1, f2, f3, f9, f10, f11, f12, f17, f18, f19, hf0, hf1, hap, hai, hupa⟩
  simp (disch := omega) only [f0, f1, f2, f3, f9, f10, f11, f12, f17, f18, f19, ↓SXd, SXu, slBounds, ↓sop, ↓aop, ↓reduceIte, LV.cells, AOp.dst, LV.I, LV.B, LV.U, LV.S, LV.nil, Nat.reduceEqDiff, Nat.reduceAdd, Nat.reduceMul, Nat.reduceSub, Nat.reduceLeDiff, Nat.reduceBEq, Nat.reduceDiv, Nat.reduceMod, Int.reduceToNat, Int.reduceLT, Int.reduceLE, Int.reduceAdd, Int.reduceSub, Int.reduceMul, Int.reduceEq, Int.reduceNeg, reduceCtorEq, resV, resAll, ARes.ev, LV.flat, ite_true, ite_false, exists_eq_left', exists_eq_left, keyOf, implies_true, fillC, capOf]
  refine condC_dec (fun hlt => ?_) (fun hlt => ?_)
  · have hil : i < L.length := by omega
    have hg := hu.cell (o := i)
    rw [lineSets_get hil] at hg
    have hqL := getD_mem' (d := ((0, 0) : Nat × Nat)) hil
    have hext : ∀ {P : Nat × Nat → Prop}, (∀ j, j < i → P (L.getD j (0, 0))) → P (L.getD i (0, 0)) → ∀ j, j < i + 1 → P (L.getD j (0, 0)) := fun h1 h2 j hj => by
      rcases Nat.lt_or_ge j i with h3 | h3
      · exact h1 j h3
      · rw [show j = i by omega]; exact h2
    generalize hq : L.getD i (0, 0) = q at hg hqL hext
    simp (disch := omega) only [f0, f1, f2, f3, f9, f10, f11, f12, f17, f18, f19, hg, Nat.mul_one, Nat.zero_add, ↓SXd, SXu, slBounds, ↓sop, ↓aop, ↓reduceIte, LV.cells, AOp.dst, LV.I, LV.B, LV.U, LV.S, LV.nil, Nat.reduceEqDiff, Nat.reduceAdd, Nat.reduceMul, Nat.reduceSub, Nat.reduceLeDiff, Nat.reduceBEq, Nat.reduceDiv, Nat.reduceMod, Int.reduceToNat, Int.reduceLT, Int.reduceLE, Int.reduceAdd, Int.reduceSub, Int.reduceMul, Int.reduceEq, Int.reduceNeg, reduceCtorEq, resV, resAll, ARes.ev, LV.flat, ite_true, ite_false, exists_eq_left', exists_eq_left, keyOf, implies_true, fillC, capOf]
    rw [bs_and hS]
    by_cases hmet : ∃ c ∈ pick x y z A, onLine y z q.1 q.2 c = true ∧ p c = true
    · have hne : ¬ (bs x y z (fun c => inLine y z A q c && p c) = 0#64) := fun h0 => by
        obtain ⟨c, h1, h2, h3⟩ := hmet
        have h4 := (hal q c).2 ⟨h1, h2⟩
        have := (bs_zero hS).1 h0 c h4.1
        rw [h4.2, h3] at this; cases this
      simp (disch := omega) only [f0, f1, f2, f3, f9, f10, f11, f12, f17, f18, f19, hne, ↓SXd, SXu, slBounds, ↓sop, ↓aop, ↓reduceIte, LV.cells, AOp.dst, LV.I, LV.B, LV.U, LV.S, LV.nil, Nat.reduceEqDiff, Nat.reduceAdd, Nat.reduceMul, Nat.reduceSub, Nat.reduceLeDiff, Nat.reduceBEq, Nat.reduceDiv, Nat.reduceMod, Int.reduceToNat, Int.reduceLT, Int.reduceLE, Int.reduceAdd, Int.reduceSub, Int.reduceMul, Int.reduceEq, Int.reduceNeg, reduceCtorEq, resV, resAll, ARes.ev, LV.flat, ite_true, ite_false, exists_eq_left', exists_eq_left, keyOf, implies_true, fillC, capOf]
      exact ⟨m - 1, by omega, i + 1, lp, up, fd, a, by omega, rfl, f0, f1, f2, f3, f9, f10, f11, f12, f17, f18, eqI (natI _), fun h => ⟨(hf0 h).1, hext (P := fun q => ∃ c ∈ pick x y z A, onLine y z q.1 q.2 c = true ∧ p c = true) (hf0 h).2 hmet⟩, hf1, hap, by omega, hupa⟩
    · have hun : ∀ c ∈ pick x y z A, onLine y z q.1 q.2 c = true → p c = false := fun c h1 h2 => by
        cases h3 : p c with
        | false => rfl
        | true => exact absurd ⟨c, h1, h2, h3⟩ hmet
      have hze : bs x y z (fun c => inLine y z A q c && p c) = 0#64 := (bs_zero hS).2 fun c hc => by
        cases h3 : inLine y z A q c with
        | false => rfl
        | true => rw [hun c ((hal q c).1 ⟨hc, h3⟩).1 ((hal q c).1 ⟨hc, h3⟩).2]; rfl
      simp (disch := omega) only [f0, f1, f2, f3, f9, f10, f11, f12, f17, f18, f19, hze, ↓SXd, SXu, slBounds, ↓sop, ↓aop, ↓reduceIte, LV.cells, AOp.dst, LV.I, LV.B, LV.U, LV.S, LV.nil, Nat.reduceEqDiff, Nat.reduceAdd, Nat.reduceMul, Nat.reduceSub, Nat.reduceLeDiff, Nat.reduceBEq, Nat.reduceDiv, Nat.reduceMod, Int.reduceToNat, Int.reduceLT, Int.reduceLE, Int.reduceAdd, Int.reduceSub, Int.reduceMul, Int.reduceEq, Int.reduceNeg, reduceCtorEq, resV, resAll, ARes.ev, LV.flat, ite_true, ite_false, exists_eq_left', exists_eq_left, keyOf, implies_true, fillC, capOf]
      rw [bs_diff hS]
      by_cases hl0 : bs x y z (fun c => inLine y z A q c && !w c) = 0#64
      · simp (disch := omega) only [f0, f1, f2, f3, f9, f10, f11, f12, f17, f18, f19, hl0, ↓SXd, SXu, slBounds, ↓sop, ↓aop, ↓reduceIte, LV.cells, AOp.dst, LV.I, LV.B, LV.U, LV.S, LV.nil, Nat.reduceEqDiff, Nat.reduceAdd, Nat.reduceMul, Nat.reduceSub, Nat.reduceLeDiff, Nat.reduceBEq, Nat.reduceDiv, Nat.reduceMod, Int.reduceToNat, Int.reduceLT, Int.reduceLE, Int.reduceAdd, Int.reduceSub, Int.reduceMul, Int.reduceEq, Int.reduceNeg, reduceCtorEq, resV, resAll, ARes.ev, LV.flat, ite_true, ite_false, exists_eq_left', exists_eq_left, keyOf, implies_true, fillC, capOf]
        rw [decide_eq_false (by
          rintro ⟨T, _, h2, h3⟩
          obtain ⟨c, h4, h5, h6⟩ := h3 q hqL
          have h7 := (hal q c).2 ⟨h4, h5⟩
          have h8 := (bs_zero hS).1 hl0 c h7.1
          rcases h6 with h6 | h6
          · rw [hun c h4 h5] at h6; cases h6
          · rw [h7.2, h2 c h6] at h8; cases h8)]
        exact cmp_drop0 rfl
      · have hgrow : bs x y z (fun c => (inLine y z A q c && !w c) && up c) = 0#64 → ∀ T, Good y z L (pick x y z A) p w T → T.countP up + 1 ≤ T.countP fun c => up c || (inLine y z A q c && !w c) := fun h0 T hT => by
          refine countP_lt hS (fun c _ hc => by rw [hc]; rfl) ?_
          obtain ⟨c, h4, h5, h6⟩ := hT.2 q hqL
          rcases h6 with h6 | h6
          · rw [hun c h4 h5] at h6; cases h6
          · have h7 := (hal q c).2 ⟨h4, h5⟩
            have h8 := (bs_zero hS).1 h0 c h7.1
            rw [h7.2, hT.1 c h6] at h8
            have h9 : up c = false := by simpa using h8
            exact ⟨c, h6, by rw [h7.2, hT.1 c h6]; simp, h9⟩
        have hage : ¬ bs x y z (fun c => (inLine y z A q c && !w c) && up c) = 0#64 → 1 ≤ a := fun h0 => by
          refine hupa (Classical.byContradiction fun hno => h0 ((bs_zero hS).2 fun c hc => ?_))
          cases h3 : up c with
          | false => simp
          | true => exact absurd ⟨c, h3⟩ hno
        cases fd with
        | false =>
          simp (disch := omega) only [f0, f1, f2, f3, f9, f10, f11, f12, f17, f18, f19, hl0, ↓SXd, SXu, slBounds, ↓sop, ↓aop, ↓reduceIte, LV.cells, AOp.dst, LV.I, LV.B, LV.U, LV.S, LV.nil, Nat.reduceEqDiff, Nat.reduceAdd, Nat.reduceMul, Nat.reduceSub, Nat.reduceLeDiff, Nat.reduceBEq, Nat.reduceDiv, Nat.reduceMod, Int.reduceToNat, Int.reduceLT, Int.reduceLE, Int.reduceAdd, Int.reduceSub, Int.reduceMul, Int.reduceEq, Int.reduceNeg, reduceCtorEq, resV, resAll, ARes.ev, LV.flat, ite_true, ite_false, exists_eq_left', exists_eq_left, keyOf, implies_true, fillC, capOf]
          rw [bs_and hS]
          by_cases hds : bs x y z (fun c => (inLine y z A q c && !w c) && up c) = 0#64
          · simp (disch := omega) only [f0, f1, f2, f3, f9, f10, f11, f12, f17, f18, f19, hds, ↓SXd, SXu, slBounds, ↓sop, ↓aop, ↓reduceIte, LV.cells, AOp.dst, LV.I, LV.B, LV.U, LV.S, LV.nil, Nat.reduceEqDiff, Nat.reduceAdd, Nat.reduceMul, Nat.reduceSub, Nat.reduceLeDiff, Nat.reduceBEq, Nat.reduceDiv, Nat.reduceMod, Int.reduceToNat, Int.reduceLT, Int.reduceLE, Int.reduceAdd, Int.reduceSub, Int.reduceMul, Int.reduceEq, Int.reduceNeg, reduceCtorEq, resV, resAll, ARes.ev, LV.flat, ite_true, ite_false, exists_eq_left', exists_eq_left, keyOf, implies_true, fillC, capOf]
            rw [bs_or hS]
            exact ⟨m - 1, by omega, i + 1, (fun c => inLine y z A q c && !w c), fun c => up c || (inLine y z A q c && !w c), true, a + 1, by omega, rfl, f0, f1, f2, f3, rfl, rfl, eqI (natI _), rfl, f17, f18, eqI (natI _), by simp, fun _ => ⟨by omega, ⟨q, hqL, rfl, hun⟩⟩, fun T hT => Nat.le_trans (Nat.add_le_add_right (hap T hT) 1) (hgrow hds T hT), by omega, fun _ => by omega⟩
          · have ha1 : 1 ≤ a := hage hds
            simp (disch := omega) only [f0, f1, f2, f3, f9, f10, f11, f12, f17, f18, f19, hds, ↓SXd, SXu, slBounds, ↓sop, ↓aop, ↓reduceIte, LV.cells, AOp.dst, LV.I, LV.B, LV.U, LV.S, LV.nil, Nat.reduceEqDiff, Nat.reduceAdd, Nat.reduceMul, Nat.reduceSub, Nat.reduceLeDiff, Nat.reduceBEq, Nat.reduceDiv, Nat.reduceMod, Int.reduceToNat, Int.reduceLT, Int.reduceLE, Int.reduceAdd, Int.reduceSub, Int.reduceMul, Int.reduceEq, Int.reduceNeg, reduceCtorEq, resV, resAll, ARes.ev, LV.flat, ite_true, ite_false, exists_eq_left', exists_eq_left, keyOf, implies_true, fillC, capOf]
            exact ⟨m - 1, by omega, i + 1, (fun c => inLine y z A q c && !w c), up, true, a, by omega, rfl, f0, f1, f2, f3, rfl, rfl, f11, f12, f17, f18, eqI (natI _), by simp, fun _ => ⟨ha1, ⟨q, hqL, rfl, hun⟩⟩, hap, by omega, hupa⟩
        | true =>
          obtain ⟨ha1, hlq⟩ := hf1 rfl
          simp (disch := omega) only [f0, f1, f2, f3, f9, f10, f11, f12, f17, f18, f19, hl0, ↓SXd, SXu, slBounds, ↓sop, ↓aop, ↓reduceIte, LV.cells, AOp.dst, LV.I, LV.B, LV.U, LV.S, LV.nil, Nat.reduceEqDiff, Nat.reduceAdd, Nat.reduceMul, Nat.reduceSub, Nat.reduceLeDiff, Nat.reduceBEq, Nat.reduceDiv, Nat.reduceMod, Int.reduceToNat, Int.reduceLT, Int.reduceLE, Int.reduceAdd, Int.reduceSub, Int.reduceMul, Int.reduceEq, Int.reduceNeg, reduceCtorEq, resV, resAll, ARes.ev, LV.flat, ite_true, ite_false, exists_eq_left', exists_eq_left, keyOf, implies_true, fillC, capOf]
          refine callK_of (g_count) ?_
          simp (disch := omega) only [f0, f1, f2, f3, f9, f10, f11, f12, f17, f18, f19, ↓SXd, SXu, slBounds, ↓sop, ↓aop, ↓reduceIte, LV.cells, AOp.dst, LV.I, LV.B, LV.U, LV.S, LV.nil, Nat.reduceEqDiff, Nat.reduceAdd, Nat.reduceMul, Nat.reduceSub, Nat.reduceLeDiff, Nat.reduceBEq, Nat.reduceDiv, Nat.reduceMod, Int.reduceToNat, Int.reduceLT, Int.reduceLE, Int.reduceAdd, Int.reduceSub, Int.reduceMul, Int.reduceEq, Int.reduceNeg, reduceCtorEq, resV, resAll, ARes.ev, LV.flat, ite_true, ite_false, exists_eq_left', exists_eq_left, keyOf, implies_true, fillC, capOf]
          refine callK_of (g_count) ?_
          simp (disch := omega) only [f0, f1, f2, f3, f9, f10, f11, f12, f17, f18, f19, ↓SXd, SXu, slBounds, ↓sop, ↓aop, ↓reduceIte, LV.cells, AOp.dst, LV.I, LV.B, LV.U, LV.S, LV.nil, Nat.reduceEqDiff, Nat.reduceAdd, Nat.reduceMul, Nat.reduceSub, Nat.reduceLeDiff, Nat.reduceBEq, Nat.reduceDiv, Nat.reduceMod, Int.reduceToNat, Int.reduceLT, Int.reduceLE, Int.reduceAdd, Int.reduceSub, Int.reduceMul, Int.reduceEq, Int.reduceNeg, reduceCtorEq, resV, resAll, ARes.ev, LV.flat, ite_true, ite_false, exists_eq_left', exists_eq_left, keyOf, implies_true, fillC, capOf]
          refine condC_cut (fun fr' N' => ∃ lp', N' = M' ∧ fr' 0 = .ref u 0 L.length ∧ fr' 1 = .W (bs x y z p) ∧ fr' 2 = .W (bs x y z w) ∧ fr' 3 = .I n ∧ fr' 9 = .W (bs x y z lp') ∧ fr' 10 = .B true ∧ fr' 11 = .I a ∧ fr' 12 = .W (bs x y z up) ∧ fr' 15 = .W (bs x y z fun c => inLine y z A q c && !w c) ∧ fr' 17 = .ref u 0 L.length ∧ fr' 18 = .I L.length ∧ fr' 19 = .I i ∧ (∃ q ∈ L, lp' = (fun c => inLine y z A q c && !w c) ∧ ∀ c ∈ pick x y z A, onLine y z q.1 q.2 c = true → p c = false)) ?_ ?_
          · refine condC_dec (fun _ => ?_) (fun _ => ?_)
            · simp (disch := omega) only [f0, f1, f2, f3, f9, f10, f11, f12, f17, f18, f19, ↓SXd, SXu, slBounds, ↓sop, ↓aop, ↓reduceIte, LV.cells, AOp.dst, LV.I, LV.B, LV.U, LV.S, LV.nil, Nat.reduceEqDiff, Nat.reduceAdd, Nat.reduceMul, Nat.reduceSub, Nat.reduceLeDiff, Nat.reduceBEq, Nat.reduceDiv, Nat.reduceMod, Int.reduceToNat, Int.reduceLT, Int.reduceLE, Int.reduceAdd, Int.reduceSub, Int.reduceMul, Int.reduceEq, Int.reduceNeg, reduceCtorEq, resV, resAll, ARes.ev, LV.flat, ite_true, ite_false, exists_eq_left', exists_eq_left, keyOf, implies_true, fillC, capOf]
              exact ⟨_, rfl, f0, f1, f2, f3, rfl, rfl, f11, f12, rfl, f17, f18, f19, q, hqL, rfl, hun⟩
            · simp (disch := omega) only [f0, f1, f2, f3, f9, f10, f11, f12, f17, f18, f19, ↓SXd, SXu, slBounds, ↓sop, ↓aop, ↓reduceIte, LV.cells, AOp.dst, LV.I, LV.B, LV.U, LV.S, LV.nil, Nat.reduceEqDiff, Nat.reduceAdd, Nat.reduceMul, Nat.reduceSub, Nat.reduceLeDiff, Nat.reduceBEq, Nat.reduceDiv, Nat.reduceMod, Int.reduceToNat, Int.reduceLT, Int.reduceLE, Int.reduceAdd, Int.reduceSub, Int.reduceMul, Int.reduceEq, Int.reduceNeg, reduceCtorEq, resV, resAll, ARes.ev, LV.flat, ite_true, ite_false, exists_eq_left', exists_eq_left, keyOf, implies_true, fillC, capOf]
              exact ⟨lp, rfl, f0, f1, f2, f3, f9, f10, f11, f12, rfl, f17, f18, f19, hlq⟩
          · clear f0 f1 f2 f3 f9 f10 f11 f12 f17 f18 f19
            rintro fr N' ⟨lp, rfl, f0, f1, f2, f3, f9, f10, f11, f12, f15, f17, f18, f19, hlq⟩
            simp (disch := omega) only [f0, f1, f2, f3, f9, f10, f11, f12, f15, f17, f18, f19, ↓SXd, SXu, slBounds, ↓sop, ↓aop, ↓reduceIte, LV.cells, AOp.dst, LV.I, LV.B, LV.U, LV.S, LV.nil, Nat.reduceEqDiff, Nat.reduceAdd, Nat.reduceMul, Nat.reduceSub, Nat.reduceLeDiff, Nat.reduceBEq, Nat.reduceDiv, Nat.reduceMod, Int.reduceToNat, Int.reduceLT, Int.reduceLE, Int.reduceAdd, Int.reduceSub, Int.reduceMul, Int.reduceEq, Int.reduceNeg, reduceCtorEq, resV, resAll, ARes.ev, LV.flat, ite_true, ite_false, exists_eq_left', exists_eq_left, keyOf, implies_true, fillC, capOf]
            rw [bs_and hS]
            by_cases hds : bs x y z (fun c => (inLine y z A q c && !w c) && up c) = 0#64
            · simp (disch := omega) only [f0, f1, f2, f3, f9, f10, f11, f12, f15, f17, f18, f19, hds, ↓SXd, SXu, slBounds, ↓sop, ↓aop, ↓reduceIte, LV.cells, AOp.dst, LV.I, LV.B, LV.U, LV.S, LV.nil, Nat.reduceEqDiff, Nat.reduceAdd, Nat.reduceMul, Nat.reduceSub, Nat.reduceLeDiff, Nat.reduceBEq, Nat.reduceDiv, Nat.reduceMod, Int.reduceToNat, Int.reduceLT, Int.reduceLE, Int.reduceAdd, Int.reduceSub, Int.reduceMul, Int.reduceEq, Int.reduceNeg, reduceCtorEq, resV, resAll, ARes.ev, LV.flat, ite_true, ite_false, exists_eq_left', exists_eq_left, keyOf, implies_true, fillC, capOf]
              rw [bs_or hS]
              exact ⟨m - 1, by omega, i + 1, lp, fun c => up c || (inLine y z A q c && !w c), true, a + 1, by omega, rfl, f0, f1, f2, f3, f9, f10, eqI (natI _), rfl, f17, f18, eqI (natI _), by simp, fun _ => ⟨by omega, hlq⟩, fun T hT => Nat.le_trans (Nat.add_le_add_right (hap T hT) 1) (hgrow hds T hT), by omega, fun _ => by omega⟩
            · simp (disch := omega) only [f0, f1, f2, f3, f9, f10, f11, f12, f15, f17, f18, f19, hds, ↓SXd, SXu, slBounds, ↓sop, ↓aop, ↓reduceIte, LV.cells, AOp.dst, LV.I, LV.B, LV.U, LV.S, LV.nil, Nat.reduceEqDiff, Nat.reduceAdd, Nat.reduceMul, Nat.reduceSub, Nat.reduceLeDiff, Nat.reduceBEq, Nat.reduceDiv, Nat.reduceMod, Int.reduceToNat, Int.reduceLT, Int.reduceLE, Int.reduceAdd, Int.reduceSub, Int.reduceMul, Int.reduceEq, Int.reduceNeg, reduceCtorEq, resV, resAll, ARes.ev, LV.flat, ite_true, ite_false, exists_eq_left', exists_eq_left, keyOf, implies_true, fillC, capOf]
              exact ⟨m - 1, by omega, i + 1, lp, up, true, a, by omega, rfl, f0, f1, f2, f3, f9, f10, f11, f12, f17, f18, eqI (natI _), by simp, fun _ => ⟨ha1, hlq⟩, hap, by omega, hupa⟩
  · have : i = L.length := by omega
    subst this
    cases fd with
    | false =>
      simp (disch := omega) only [f0, f1, f2, f3, f9, f10, f11, f12, f17, f18, f19, ↓SXd, SXu, slBounds, ↓sop, ↓aop, ↓reduceIte, LV.cells, AOp.dst, LV.I, LV.B, LV.U, LV.S, LV.nil, Nat.reduceEqDiff, Nat.reduceAdd, Nat.reduceMul, Nat.reduceSub, Nat.reduceLeDiff, Nat.reduceBEq, Nat.reduceDiv, Nat.reduceMod, Int.reduceToNat, Int.reduceLT, Int.reduceLE, Int.reduceAdd, Int.reduceSub, Int.reduceMul, Int.reduceEq, Int.reduceNeg, reduceCtorEq, resV, resAll, ARes.ev, LV.flat, ite_true, ite_false, exists_eq_left', exists_eq_left, keyOf, implies_true, fillC, capOf]
      rw [decide_eq_true (by
        refine ⟨[], by simp, by simp, fun q hq => ?_⟩
        obtain ⟨j, hj, e⟩ := List.getElem_of_mem hq
        have e' : L.getD j (0, 0) = q := by simpa [hj] using e
        obtain ⟨c, h4, h5, h6⟩ := (hf0 rfl).2 j hj
        rw [e'] at h5
        exact ⟨c, h4, h5, .inl h6⟩)]
      exact cmp_drop0 rfl
    | true =>
      obtain ⟨ha1, q, hqL, hlp, hun⟩ := hf1 rfl
      subst hlp
      simp (disch := omega) only [f0, f1, f2, f3, f9, f10, f11, f12, f17, f18, f19, ↓SXd, SXu, slBounds, ↓sop, ↓aop, ↓reduceIte, LV.cells, AOp.dst, LV.I, LV.B, LV.U, LV.S, LV.nil, Nat.reduceEqDiff, Nat.reduceAdd, Nat.reduceMul, Nat.reduceSub, Nat.reduceLeDiff, Nat.reduceBEq, Nat.reduceDiv, Nat.reduceMod, Int.reduceToNat, Int.reduceLT, Int.reduceLE, Int.reduceAdd, Int.reduceSub, Int.reduceMul, Int.reduceEq, Int.reduceNeg, reduceCtorEq, resV, resAll, ARes.ev, LV.flat, ite_true, ite_false, exists_eq_left', exists_eq_left, keyOf, implies_true, fillC, capOf]
      by_cases han : (a : Int) > n
      · simp (disch := omega) only [f0, f1, f2, f3, f9, f10, f11, f12, f17, f18, f19, han, ↓SXd, SXu, slBounds, ↓sop, ↓aop, ↓reduceIte, LV.cells, AOp.dst, LV.I, LV.B, LV.U, LV.S, LV.nil, Nat.reduceEqDiff, Nat.reduceAdd, Nat.reduceMul, Nat.reduceSub, Nat.reduceLeDiff, Nat.reduceBEq, Nat.reduceDiv, Nat.reduceMod, Int.reduceToNat, Int.reduceLT, Int.reduceLE, Int.reduceAdd, Int.reduceSub, Int.reduceMul, Int.reduceEq, Int.reduceNeg, reduceCtorEq, resV, resAll, ARes.ev, LV.flat, ite_true, ite_false, exists_eq_left', exists_eq_left, keyOf, implies_true, fillC, capOf]
        rw [decide_eq_false (by
          rintro ⟨T, h1, h2, h3⟩
          have h4 := hap T ⟨h2, h3⟩
          have h5 := List.countP_le_length (p := up) (l := T)
          omega)]
        exact cmp_drop0 rfl
      · have hn1 : ((n : Int) - 1) = ((n - 1 : Nat) : Int) := by omega
        simp (disch := omega) only [f0, f1, f2, f3, f9, f10, f11, f12, f17, f18, f19, han, ↓SXd, SXu, slBounds, ↓sop, ↓aop, ↓reduceIte, LV.cells, AOp.dst, LV.I, LV.B, LV.U, LV.S, LV.nil, Nat.reduceEqDiff, Nat.reduceAdd, Nat.reduceMul, Nat.reduceSub, Nat.reduceLeDiff, Nat.reduceBEq, Nat.reduceDiv, Nat.reduceMod, Int.reduceToNat, Int.reduceLT, Int.reduceLE, Int.reduceAdd, Int.reduceSub, Int.reduceMul, Int.reduceEq, Int.reduceNeg, reduceCtorEq, resV, resAll, ARes.ev, LV.flat, ite_true, ite_false, exists_eq_left', exists_eq_left, keyOf, implies_true, fillC, capOf]
        refine ev_loop (fun m2 fr2 M2 => ∃ dn : Cell → Bool, (pick x y z fun c => (inLine y z A q c && !w c) && !dn c).length < m2 ∧ M2 = M' ∧ fr2 0 = .ref u 0 L.length ∧ fr2 1 = .W (bs x y z p) ∧ fr2 2 = .W (bs x y z fun c => w c || dn c) ∧ fr2 3 = .I n ∧ fr2 9 = .W (bs x y z fun c => (inLine y z A q c && !w c) && !dn c) ∧
          (Cov y z L (pick x y z A) p w n → Cov y z L (pick x y z A) p (fun c => w c || dn c) n)) 65
          ⟨fun _ => false, Nat.lt_of_le_of_lt (pick_len hS _) (by omega), rfl, f0, f1, by show fr 2 = _; rw [f2]; simp, f3, by show fr 9 = _; rw [f9]; simp, fun h => by simpa using h⟩ ?_
        clear f0 f1 f2 f3 f9 f10 f11 f12 f17 f18 f19
        rintro m2 fr2 M2 ⟨dn, hm2, rfl, f0, f1, f2, f3, f9, hI⟩
        simp (disch := omega) only [f0, f1, f2, f3, f9, ↓SXd, SXu, slBounds, ↓sop, ↓aop, ↓reduceIte, LV.cells, AOp.dst, LV.I, LV.B, LV.U, LV.S, LV.nil, Nat.reduceEqDiff, Nat.reduceAdd, Nat.reduceMul, Nat.reduceSub, Nat.reduceLeDiff, Nat.reduceBEq, Nat.reduceDiv, Nat.reduceMod, Int.reduceToNat, Int.reduceLT, Int.reduceLE, Int.reduceAdd, Int.reduceSub, Int.reduceMul, Int.reduceEq, Int.reduceNeg, reduceCtorEq, resV, resAll, ARes.ev, LV.flat, ite_true, ite_false, exists_eq_left', exists_eq_left, keyOf, implies_true, fillC, capOf]
        by_cases hz : bs x y z (fun c => (inLine y z A q c && !w c) && !dn c) = 0#64
        · simp (disch := omega) only [f0, f1, f2, f3, f9, hz, ↓SXd, SXu, slBounds, ↓sop, ↓aop, ↓reduceIte, LV.cells, AOp.dst, LV.I, LV.B, LV.U, LV.S, LV.nil, Nat.reduceEqDiff, Nat.reduceAdd, Nat.reduceMul, Nat.reduceSub, Nat.reduceLeDiff, Nat.reduceBEq, Nat.reduceDiv, Nat.reduceMod, Int.reduceToNat, Int.reduceLT, Int.reduceLE, Int.reduceAdd, Int.reduceSub, Int.reduceMul, Int.reduceEq, Int.reduceNeg, reduceCtorEq, resV, resAll, ARes.ev, LV.flat, ite_true, ite_false, exists_eq_left', exists_eq_left, keyOf, implies_true, fillC, capOf]
          rw [decide_eq_false (by
            intro hC
            obtain ⟨T, _, h2, h3⟩ := hI hC
            obtain ⟨c, h4, h5, h6⟩ := h3 q hqL
            rcases h6 with h6 | h6
            · rw [hun c h4 h5] at h6; cases h6
            · have h7 := (hal q c).2 ⟨h4, h5⟩
              have h8 := (bs_zero hS).1 hz c h7.1
              have h9 := h2 c h6
              simp only [Bool.or_eq_false_iff] at h9
              rw [h7.2, h9.1, h9.2] at h8; cases h8)]
          exact cmp_drop0 rfl
        · obtain ⟨c, hcb, hcp, hlow⟩ := low_of hS hz
          simp (disch := omega) only [f0, f1, f2, f3, f9, hz, ↓SXd, SXu, slBounds, ↓sop, ↓aop, ↓reduceIte, LV.cells, AOp.dst, LV.I, LV.B, LV.U, LV.S, LV.nil, Nat.reduceEqDiff, Nat.reduceAdd, Nat.reduceMul, Nat.reduceSub, Nat.reduceLeDiff, Nat.reduceBEq, Nat.reduceDiv, Nat.reduceMod, Int.reduceToNat, Int.reduceLT, Int.reduceLE, Int.reduceAdd, Int.reduceSub, Int.reduceMul, Int.reduceEq, Int.reduceNeg, reduceCtorEq, resV, resAll, ARes.ev, LV.flat, ite_true, ite_false, exists_eq_left', exists_eq_left, keyOf, implies_true, fillC, capOf]
          rw [bs_low hS hcb hcp hlow, bs_or hS]
          have hcl : (inLine y z A q c && !w c) = true ∧ dn c = false := by simpa using hcp
          have hc1 : inLine y z A q c = true ∧ w c = false := by simpa using hcl.1
          have hrec := ih (n - 1) (by omega) (p := fun d => p d || decide (d = c)) (w := fun d => w d || dn d) hu (by omega)
          rw [← hn1] at hrec
          refine callK_of hrec ?_
          by_cases hC : Cov y z L (pick x y z A) (fun d => p d || decide (d = c)) (fun d => w d || dn d) (n - 1)
          · simp (disch := omega) only [f0, f1, f2, f3, f9, hC, ↓SXd, SXu, slBounds, ↓sop, ↓aop, ↓reduceIte, LV.cells, AOp.dst, LV.I, LV.B, LV.U, LV.S, LV.nil, Nat.reduceEqDiff, Nat.reduceAdd, Nat.reduceMul, Nat.reduceSub, Nat.reduceLeDiff, Nat.reduceBEq, Nat.reduceDiv, Nat.reduceMod, Int.reduceToNat, Int.reduceLT, Int.reduceLE, Int.reduceAdd, Int.reduceSub, Int.reduceMul, Int.reduceEq, Int.reduceNeg, reduceCtorEq, resV, resAll, ARes.ev, LV.flat, ite_true, ite_false, exists_eq_left', exists_eq_left, keyOf, implies_true, fillC, capOf]
            rw [decide_eq_true (by
              obtain ⟨T, h1, h2, h3⟩ := hC
              refine ⟨c :: T, by simp only [List.length_cons]; omega, fun d hd => ?_, fun r hr => ?_⟩
              · rcases List.mem_cons.1 hd with rfl | hd
                · exact hc1.2
                · have := h2 d hd; simp only [Bool.or_eq_false_iff] at this; exact this.1
              · obtain ⟨d, h4, h5, h6⟩ := h3 r hr
                refine ⟨d, h4, h5, ?_⟩
                rcases h6 with h6 | h6
                · rw [Bool.or_eq_true, decide_eq_true_iff] at h6
                  rcases h6 with h6 | h6
                  · exact .inl h6
                  · exact .inr (by simp [h6])
                · exact .inr (by simp [h6]))]
            exact cmp_drop0 rfl
          · simp (disch := omega) only [f0, f1, f2, f3, f9, hC, ↓SXd, SXu, slBounds, ↓sop, ↓aop, ↓reduceIte, LV.cells, AOp.dst, LV.I, LV.B, LV.U, LV.S, LV.nil, Nat.reduceEqDiff, Nat.reduceAdd, Nat.reduceMul, Nat.reduceSub, Nat.reduceLeDiff, Nat.reduceBEq, Nat.reduceDiv, Nat.reduceMod, Int.reduceToNat, Int.reduceLT, Int.reduceLE, Int.reduceAdd, Int.reduceSub, Int.reduceMul, Int.reduceEq, Int.reduceNeg, reduceCtorEq, resV, resAll, ARes.ev, LV.flat, ite_true, ite_false, exists_eq_left', exists_eq_left, keyOf, implies_true, fillC, capOf]
            rw [bs_or hS, bs_diff hS]
            refine ⟨m2 - 1, by omega, fun d => dn d || decide (d = c), ?_, rfl, f0, f1, ?_, f3, ?_, fun h => ?_⟩
            · have hlt : (pick x y z fun d => (inLine y z A q d && !w d) && !(dn d || decide (d = c))).length < (pick x y z fun d => (inLine y z A q d && !w d) && !dn d).length := by
                unfold pick
                refine filter_lt hS (fun d _ hd => ?_) ⟨c, (mem_cellsOf hS).2 hcb, hcp, by simp⟩
                simp only [Bool.and_eq_true, Bool.not_eq_true', Bool.or_eq_false_iff] at hd ⊢
                exact ⟨hd.1, hd.2.1⟩
              exact Nat.lt_of_lt_of_le hlt (by omega)
            · show LV.W _ = LV.W _
              rw [(bs_eq hS).2 fun d _ => Bool.or_assoc (w d) (dn d) (decide (d = c))]
            · show LV.W _ = LV.W _
              rw [(bs_eq hS).2 fun d _ => show (((inLine y z A q d && !w d) && !dn d) && !decide (d = c)) = ((inLine y z A q d && !w d) && !(dn d || decide (d = c))) by cases dn d <;> cases decide (d = c) <;> simp]
            · obtain ⟨T, h1, h2, h3⟩ := hI h
              refine ⟨T, h1, fun d hd => ?_, h3⟩
              have h9 := h2 d hd
              simp only [Bool.or_eq_false_iff] at h9 ⊢
              refine ⟨h9.1, h9.2, decide_eq_false ?_⟩
              rintro rfl
              apply hC
              refine ⟨T.erase d, by rw [List.length_erase_of_mem hd]; omega, fun e he => h2 e (List.mem_of_mem_erase he), fun r hr => ?_⟩
              obtain ⟨e, h4, h5, h6⟩ := h3 r hr
              refine ⟨e, h4, h5, ?_⟩
              rcases h6 with h6 | h6
              · exact .inl (by show (p e || decide (e = d)) = true; rw [h6]; rfl)
              · by_cases hed : e = d
                · exact .inl (by show (p e || decide (e = d)) = true; rw [decide_eq_true hed]; simp)
                · exact .inr ((List.mem_erase_of_ne hed).2 h6)
end
end Go.Ab

/- Contracts: FewestCubes and FirstFewest, the program's side. -/
namespace Go.Ab
open Go
set_option linter.unusedSimpArgs false
set_option linter.unusedVariables false
set_option maxRecDepth 20000

section
variable {x y z : Int} {t o t' o' t2 o2 : Nat} {tp fr sd : List Int} {M : Mem} (h1 : Ints M t o tp) (h2 : Ints M t' o' fr) (h3 : Ints M t2 o2 sd) (l1 : tp.length ≤ 1000000000) (l2 : fr.length ≤ 1000000000) (l3 : sd.length ≤ 1000000000)
include h1 h2 h3 l1 l2 l3
theorem g_fewest : CallsR PG F.impl_Shadow_fewest [.agg [.I x, .I y, .I z, .ref t o tp.length, .ref t' o' fr.length, .ref t2 o2 sd.length]] M fun v N => v = .tup [.I (fewOf x y z tp fr sd).1, .B (fewOf x y z tp fr sd).2] ∧ Pre M N := by
  refine callsR_run K.impl_Shadow_fewest rfl ?_
  simp (disch := omega) only [C.impl_Shadow_fewest, ↓SXd, SXu, slBounds, ↓sop, ↓aop, ↓reduceIte, LV.cells, AOp.dst, LV.I, LV.B, LV.U, LV.S, LV.nil, Nat.reduceEqDiff, Nat.reduceAdd, Nat.reduceMul, Nat.reduceSub, Nat.reduceLeDiff, Nat.reduceBEq, Nat.reduceDiv, Nat.reduceMod, Int.reduceToNat, Int.reduceLT, Int.reduceLE, Int.reduceAdd, Int.reduceSub, Int.reduceMul, Int.reduceEq, Int.reduceNeg, reduceCtorEq, resV, resAll, ARes.ev, LV.flat, ite_true, ite_false, exists_eq_left', exists_eq_left, keyOf, implies_true, fillC, capOf]
  refine callR_of (g_isFitting h1.app h2.app h3.app l1 l2 l3) ?_
  rintro _ N ⟨rfl, hp⟩
  have hM : Pre M N := (Pre.app _ _).trans hp
  have b1 : Live N M.length (.row [.I x, .I y, .I z, .ref t o tp.length, .ref t' o' fr.length, .ref t2 o2 sd.length] true 0) := Live.new.pre hp
  unfold fewOf
  by_cases hF : Fits x y z tp fr sd
  · rw [show decide (ShdOK x y z tp fr sd ∧ HasShd x y z tp fr sd (pick x y z (allowedB y z tp fr sd))) = true from decide_eq_true hF]
    have hok := hF.1
    have hS := hok.1
    have hv := vol_cast hS
    simp (disch := omega) only [b1.cells, ↓SXd, SXu, slBounds, ↓sop, ↓aop, ↓reduceIte, LV.cells, AOp.dst, LV.I, LV.B, LV.U, LV.S, LV.nil, Nat.reduceEqDiff, Nat.reduceAdd, Nat.reduceMul, Nat.reduceSub, Nat.reduceLeDiff, Nat.reduceBEq, Nat.reduceDiv, Nat.reduceMod, Int.reduceToNat, Int.reduceLT, Int.reduceLE, Int.reduceAdd, Int.reduceSub, Int.reduceMul, Int.reduceEq, Int.reduceNeg, reduceCtorEq, resV, resAll, ARes.ev, LV.flat, ite_true, ite_false, exists_eq_left', exists_eq_left, keyOf, implies_true, fillC, capOf]
    refine callK_of (g_Shadow_box) ?_
    simp (disch := omega) only [↓SXd, SXu, slBounds, ↓sop, ↓aop, ↓reduceIte, LV.cells, AOp.dst, LV.I, LV.B, LV.U, LV.S, LV.nil, Nat.reduceEqDiff, Nat.reduceAdd, Nat.reduceMul, Nat.reduceSub, Nat.reduceLeDiff, Nat.reduceBEq, Nat.reduceDiv, Nat.reduceMod, Int.reduceToNat, Int.reduceLT, Int.reduceLE, Int.reduceAdd, Int.reduceSub, Int.reduceMul, Int.reduceEq, Int.reduceNeg, reduceCtorEq, resV, resAll, ARes.ev, LV.flat, ite_true, ite_false, exists_eq_left', exists_eq_left, keyOf, implies_true, fillC, capOf]
    refine callK_of (g_size hS) ?_
    simp (disch := omega) only [↓SXd, SXu, slBounds, ↓sop, ↓aop, ↓reduceIte, LV.cells, AOp.dst, LV.I, LV.B, LV.U, LV.S, LV.nil, Nat.reduceEqDiff, Nat.reduceAdd, Nat.reduceMul, Nat.reduceSub, Nat.reduceLeDiff, Nat.reduceBEq, Nat.reduceDiv, Nat.reduceMod, Int.reduceToNat, Int.reduceLT, Int.reduceLE, Int.reduceAdd, Int.reduceSub, Int.reduceMul, Int.reduceEq, Int.reduceNeg, reduceCtorEq, resV, resAll, ARes.ev, LV.flat, ite_true, ite_false, exists_eq_left', exists_eq_left, keyOf, implies_true, fillC, capOf]
    by_cases hs : x * y * z ≤ 27
    · have hs' : ¬ (((vol x y z : Nat) : Int) > 27) := by omega
      rw [if_pos (show SmallS x y z tp fr sd from ⟨hF, hs⟩)]
      obtain ⟨k, r, hk, hr, hnone, hfr, hrl⟩ := few_ex hF
      have hfc : fewCells x y z tp fr sd = r := by unfold fewCells; rw [hfr]; rfl
      rw [hfc]
      have hcov := fun n => cov_few hF (n := n) hr hnone
      have hml := must_le hF hr
      have hUl : (pick x y z (mustTo x y z (allowedB y z tp fr sd) (lits tp fr sd))).length = (parted x y z tp fr sd false).length := by rw [parted_must hok]
      have hAl := pick_len hS (allowedB y z tp fr sd)
      have hLl := lits_len hok
      simp (disch := omega) only [hs', b1.cells, ↓SXd, SXu, slBounds, ↓sop, ↓aop, ↓reduceIte, LV.cells, AOp.dst, LV.I, LV.B, LV.U, LV.S, LV.nil, Nat.reduceEqDiff, Nat.reduceAdd, Nat.reduceMul, Nat.reduceSub, Nat.reduceLeDiff, Nat.reduceBEq, Nat.reduceDiv, Nat.reduceMod, Int.reduceToNat, Int.reduceLT, Int.reduceLE, Int.reduceAdd, Int.reduceSub, Int.reduceMul, Int.reduceEq, Int.reduceNeg, reduceCtorEq, resV, resAll, ARes.ev, LV.flat, ite_true, ite_false, exists_eq_left', exists_eq_left, keyOf, implies_true, fillC, capOf]
      refine callK_of (g_must (h1.pre hM) (h2.pre hM) (h3.pre hM) hok) ?_
      simp (disch := omega) only [↓SXd, SXu, slBounds, ↓sop, ↓aop, ↓reduceIte, LV.cells, AOp.dst, LV.I, LV.B, LV.U, LV.S, LV.nil, Nat.reduceEqDiff, Nat.reduceAdd, Nat.reduceMul, Nat.reduceSub, Nat.reduceLeDiff, Nat.reduceBEq, Nat.reduceDiv, Nat.reduceMod, Int.reduceToNat, Int.reduceLT, Int.reduceLE, Int.reduceAdd, Int.reduceSub, Int.reduceMul, Int.reduceEq, Int.reduceNeg, reduceCtorEq, resV, resAll, ARes.ev, LV.flat, ite_true, ite_false, exists_eq_left', exists_eq_left, keyOf, implies_true, fillC, capOf]
      refine callK_of (g_countB hS) ?_
      rw [hUl]
      simp (disch := omega) only [↓SXd, SXu, slBounds, ↓sop, ↓aop, ↓reduceIte, LV.cells, AOp.dst, LV.I, LV.B, LV.U, LV.S, LV.nil, Nat.reduceEqDiff, Nat.reduceAdd, Nat.reduceMul, Nat.reduceSub, Nat.reduceLeDiff, Nat.reduceBEq, Nat.reduceDiv, Nat.reduceMod, Int.reduceToNat, Int.reduceLT, Int.reduceLE, Int.reduceAdd, Int.reduceSub, Int.reduceMul, Int.reduceEq, Int.reduceNeg, reduceCtorEq, resV, resAll, ARes.ev, LV.flat, ite_true, ite_false, exists_eq_left', exists_eq_left, keyOf, implies_true, fillC, capOf]
      have hcnt : ∀ M', CallsTo PG F.impl_set_count [.W (bs x y z (mustTo x y z (allowedB y z tp fr sd) (lits tp fr sd)))] M' (.I ((parted x y z tp fr sd false).length : Nat)) M' := fun M' => by
        have := g_countB hS (p := mustTo x y z (allowedB y z tp fr sd) (lits tp fr sd)) (M := M')
        rwa [hUl] at this
      generalize (parted x y z tp fr sd false).length = U at hcov hml hcnt ⊢
      refine ev_loop (fun m fr1 M' => ∃ j : Nat, U + j + m = k + 1 ∧ U + j ≤ k ∧ Pre N M' ∧ fr1 1 = .ptr M.length 0 ∧ fr1 4 = .I (U + j : Nat)) (k + 1 - U)
        ⟨0, by omega, by omega, Pre.refl _, rfl, rfl⟩ ?_
      rintro m fr1 M' ⟨j, hj, hjk, hpr, f1, f4⟩
      have hpM := hM.trans hpr
      have b2 := b1.pre hpr
      have hsub : ((U + j : Nat) : Int) - ((U : Nat) : Int) = (j : Nat) := by omega
      simp (disch := omega) only [f1, f4, b2.cells, ↓SXd, SXu, slBounds, ↓sop, ↓aop, ↓reduceIte, LV.cells, AOp.dst, LV.I, LV.B, LV.U, LV.S, LV.nil, Nat.reduceEqDiff, Nat.reduceAdd, Nat.reduceMul, Nat.reduceSub, Nat.reduceLeDiff, Nat.reduceBEq, Nat.reduceDiv, Nat.reduceMod, Int.reduceToNat, Int.reduceLT, Int.reduceLE, Int.reduceAdd, Int.reduceSub, Int.reduceMul, Int.reduceEq, Int.reduceNeg, reduceCtorEq, resV, resAll, ARes.ev, LV.flat, ite_true, ite_false, exists_eq_left', exists_eq_left, keyOf, implies_true, fillC, capOf]
      refine callK_of (g_needs (h1.pre hpM) (h2.pre hpM) (h3.pre hpM) hok) ?_
      simp (disch := omega) only [f1, f4, ↓SXd, SXu, slBounds, ↓sop, ↓aop, ↓reduceIte, LV.cells, AOp.dst, LV.I, LV.B, LV.U, LV.S, LV.nil, Nat.reduceEqDiff, Nat.reduceAdd, Nat.reduceMul, Nat.reduceSub, Nat.reduceLeDiff, Nat.reduceBEq, Nat.reduceDiv, Nat.reduceMod, Int.reduceToNat, Int.reduceLT, Int.reduceLE, Int.reduceAdd, Int.reduceSub, Int.reduceMul, Int.reduceEq, Int.reduceNeg, reduceCtorEq, resV, resAll, ARes.ev, LV.flat, ite_true, ite_false, exists_eq_left', exists_eq_left, keyOf, implies_true, fillC, capOf]
      refine callK_of (g_must (h1.pre hpM).app (h2.pre hpM).app (h3.pre hpM).app hok) ?_
      simp (disch := omega) only [f1, f4, ↓SXd, SXu, slBounds, ↓sop, ↓aop, ↓reduceIte, LV.cells, AOp.dst, LV.I, LV.B, LV.U, LV.S, LV.nil, Nat.reduceEqDiff, Nat.reduceAdd, Nat.reduceMul, Nat.reduceSub, Nat.reduceLeDiff, Nat.reduceBEq, Nat.reduceDiv, Nat.reduceMod, Int.reduceToNat, Int.reduceLT, Int.reduceLE, Int.reduceAdd, Int.reduceSub, Int.reduceMul, Int.reduceEq, Int.reduceNeg, reduceCtorEq, resV, resAll, ARes.ev, LV.flat, ite_true, ite_false, exists_eq_left', exists_eq_left, keyOf, implies_true, fillC, capOf]
      refine callK_of (g_must (h1.pre hpM).app (h2.pre hpM).app (h3.pre hpM).app hok) ?_
      simp (disch := omega) only [f1, f4, ↓SXd, SXu, slBounds, ↓sop, ↓aop, ↓reduceIte, LV.cells, AOp.dst, LV.I, LV.B, LV.U, LV.S, LV.nil, Nat.reduceEqDiff, Nat.reduceAdd, Nat.reduceMul, Nat.reduceSub, Nat.reduceLeDiff, Nat.reduceBEq, Nat.reduceDiv, Nat.reduceMod, Int.reduceToNat, Int.reduceLT, Int.reduceLE, Int.reduceAdd, Int.reduceSub, Int.reduceMul, Int.reduceEq, Int.reduceNeg, reduceCtorEq, resV, resAll, ARes.ev, LV.flat, ite_true, ite_false, exists_eq_left', exists_eq_left, keyOf, implies_true, fillC, capOf]
      refine callK_of (hcnt _) ?_
      simp (disch := omega) only [f1, f4, hsub, ↓SXd, SXu, slBounds, ↓sop, ↓aop, ↓reduceIte, LV.cells, AOp.dst, LV.I, LV.B, LV.U, LV.S, LV.nil, Nat.reduceEqDiff, Nat.reduceAdd, Nat.reduceMul, Nat.reduceSub, Nat.reduceLeDiff, Nat.reduceBEq, Nat.reduceDiv, Nat.reduceMod, Int.reduceToNat, Int.reduceLT, Int.reduceLE, Int.reduceAdd, Int.reduceSub, Int.reduceMul, Int.reduceEq, Int.reduceNeg, reduceCtorEq, resV, resAll, ARes.ev, LV.flat, ite_true, ite_false, exists_eq_left', exists_eq_left, keyOf, implies_true, fillC, capOf]
      have hcm := g_canMeet hS (A := allowedB y z tp fr sd) hLl j (p := mustTo x y z (allowedB y z tp fr sd) (lits tp fr sd)) (w := fun _ => false) (u := M'.length) (M := M' ++ [some (.row (lineSets x y z (allowedB y z tp fr sd) (lits tp fr sd)) true 1)]) Live.new (by omega)
      rw [← bs_none hS] at hcm
      refine callK_of hcm ?_
      by_cases hC : Cov y z (lits tp fr sd) (pick x y z (allowedB y z tp fr sd)) (mustTo x y z (allowedB y z tp fr sd) (lits tp fr sd)) (fun _ => false) j
      · have := (hcov j).1 hC
        have hjk2 : U + j = k := by omega
        simp (disch := omega) only [f1, f4, hC, ↓SXd, SXu, slBounds, ↓sop, ↓aop, ↓reduceIte, LV.cells, AOp.dst, LV.I, LV.B, LV.U, LV.S, LV.nil, Nat.reduceEqDiff, Nat.reduceAdd, Nat.reduceMul, Nat.reduceSub, Nat.reduceLeDiff, Nat.reduceBEq, Nat.reduceDiv, Nat.reduceMod, Int.reduceToNat, Int.reduceLT, Int.reduceLE, Int.reduceAdd, Int.reduceSub, Int.reduceMul, Int.reduceEq, Int.reduceNeg, reduceCtorEq, resV, resAll, ARes.ev, LV.flat, ite_true, ite_false, exists_eq_left', exists_eq_left, keyOf, implies_true, fillC, capOf]
        rw [hrl, ← hjk2]
        exact ⟨rfl, hpM.app'⟩
      · have : ¬ k ≤ U + j := fun h => hC ((hcov j).2 h)
        simp (disch := omega) only [f1, f4, hC, ↓SXd, SXu, slBounds, ↓sop, ↓aop, ↓reduceIte, LV.cells, AOp.dst, LV.I, LV.B, LV.U, LV.S, LV.nil, Nat.reduceEqDiff, Nat.reduceAdd, Nat.reduceMul, Nat.reduceSub, Nat.reduceLeDiff, Nat.reduceBEq, Nat.reduceDiv, Nat.reduceMod, Int.reduceToNat, Int.reduceLT, Int.reduceLE, Int.reduceAdd, Int.reduceSub, Int.reduceMul, Int.reduceEq, Int.reduceNeg, reduceCtorEq, resV, resAll, ARes.ev, LV.flat, ite_true, ite_false, exists_eq_left', exists_eq_left, keyOf, implies_true, fillC, capOf]
        exact ⟨m - 1, by omega, j + 1, by omega, by omega, hpr.app', f1, eqI (by omega)⟩
    · have hs' : ((vol x y z : Nat) : Int) > 27 := by omega
      rw [if_neg (show ¬ SmallS x y z tp fr sd from fun h => hs h.2)]
      simp (disch := omega) only [hs', ↓SXd, SXu, slBounds, ↓sop, ↓aop, ↓reduceIte, LV.cells, AOp.dst, LV.I, LV.B, LV.U, LV.S, LV.nil, Nat.reduceEqDiff, Nat.reduceAdd, Nat.reduceMul, Nat.reduceSub, Nat.reduceLeDiff, Nat.reduceBEq, Nat.reduceDiv, Nat.reduceMod, Int.reduceToNat, Int.reduceLT, Int.reduceLE, Int.reduceAdd, Int.reduceSub, Int.reduceMul, Int.reduceEq, Int.reduceNeg, reduceCtorEq, resV, resAll, ARes.ev, LV.flat, ite_true, ite_false, exists_eq_left', exists_eq_left, keyOf, implies_true, fillC, capOf]
      exact ⟨rfl, hM⟩
  · rw [show decide (ShdOK x y z tp fr sd ∧ HasShd x y z tp fr sd (pick x y z (allowedB y z tp fr sd))) = false from decide_eq_false hF]
    rw [if_neg (show ¬ SmallS x y z tp fr sd from fun h => hF h.1)]
    simp (disch := omega) only [↓SXd, SXu, slBounds, ↓sop, ↓aop, ↓reduceIte, LV.cells, AOp.dst, LV.I, LV.B, LV.U, LV.S, LV.nil, Nat.reduceEqDiff, Nat.reduceAdd, Nat.reduceMul, Nat.reduceSub, Nat.reduceLeDiff, Nat.reduceBEq, Nat.reduceDiv, Nat.reduceMod, Int.reduceToNat, Int.reduceLT, Int.reduceLE, Int.reduceAdd, Int.reduceSub, Int.reduceMul, Int.reduceEq, Int.reduceNeg, reduceCtorEq, resV, resAll, ARes.ev, LV.flat, ite_true, ite_false, exists_eq_left', exists_eq_left, keyOf, implies_true, fillC, capOf]
    exact ⟨rfl, hM⟩
theorem g_FirstFewest : CallsR PG F.impl_FirstFewest [.agg [.I x, .I y, .I z, .ref t o tp.length, .ref t' o' fr.length, .ref t2 o2 sd.length]] M (HeapRes M (firstFew x y z tp fr sd) []) := by
  refine callsR_run K.impl_FirstFewest rfl ?_
  simp (disch := omega) only [C.impl_FirstFewest, ↓SXd, SXu, slBounds, ↓sop, ↓aop, ↓reduceIte, LV.cells, AOp.dst, LV.I, LV.B, LV.U, LV.S, LV.nil, Nat.reduceEqDiff, Nat.reduceAdd, Nat.reduceMul, Nat.reduceSub, Nat.reduceLeDiff, Nat.reduceBEq, Nat.reduceDiv, Nat.reduceMod, Int.reduceToNat, Int.reduceLT, Int.reduceLE, Int.reduceAdd, Int.reduceSub, Int.reduceMul, Int.reduceEq, Int.reduceNeg, reduceCtorEq, resV, resAll, ARes.ev, LV.flat, ite_true, ite_false, exists_eq_left', exists_eq_left, keyOf, implies_true, fillC, capOf]
  refine callR_of (g_fewest h1.app h2.app h3.app l1 l2 l3) ?_
  rintro _ N ⟨rfl, hp⟩
  have hM : Pre M N := (Pre.app _ _).trans hp
  have b1 : Live N M.length (.row [.I x, .I y, .I z, .ref t o tp.length, .ref t' o' fr.length, .ref t2 o2 sd.length] true 0) := Live.new.pre hp
  have b2 : Live N (M.length + 1) (.row [.I 0, .I 0, .I 0, .nil] true 0) := (Live.newj rfl).pre hp
  unfold fewOf firstFew
  by_cases hs : SmallS x y z tp fr sd
  · rw [if_pos hs, if_pos hs]
    have hF := hs.1
    have hok := hF.1
    have hS := hok.1
    have hv := vol_cast hS
    obtain ⟨k, r, hk, hr, hnone, hfr, hrl⟩ := few_ex hF
    have hfc : fewCells x y z tp fr sd = r := by unfold fewCells; rw [hfr]; rfl
    rw [hfc, hrl]
    have hAl := pick_len hS (allowedB y z tp fr sd)
    have hLl := lits_len hok
    have hgr := fun {pre rest ch : List Cell} {c : Cell} {w : Cell → Bool} {m : Nat} hA h3 h4 h5 h6 h7 => greedy (L := lits tp fr sd) (A := pick x y z (allowedB y z tp fr sd)) (pre := pre) (rest := rest) (ch := ch) (c := c) (w := w) (m := m) (n := k) hA (pick_nodup hS _) hnone h3 h4 h5 h6 h7
    simp (disch := omega) only [b1.cells, ↓SXd, SXu, slBounds, ↓sop, ↓aop, ↓reduceIte, LV.cells, AOp.dst, LV.I, LV.B, LV.U, LV.S, LV.nil, Nat.reduceEqDiff, Nat.reduceAdd, Nat.reduceMul, Nat.reduceSub, Nat.reduceLeDiff, Nat.reduceBEq, Nat.reduceDiv, Nat.reduceMod, Int.reduceToNat, Int.reduceLT, Int.reduceLE, Int.reduceAdd, Int.reduceSub, Int.reduceMul, Int.reduceEq, Int.reduceNeg, reduceCtorEq, resV, resAll, ARes.ev, LV.flat, ite_true, ite_false, exists_eq_left', exists_eq_left, keyOf, implies_true, fillC, capOf]
    refine callK_of (g_Shadow_box) ?_
    simp (disch := omega) only [↓SXd, SXu, slBounds, ↓sop, ↓aop, ↓reduceIte, LV.cells, AOp.dst, LV.I, LV.B, LV.U, LV.S, LV.nil, Nat.reduceEqDiff, Nat.reduceAdd, Nat.reduceMul, Nat.reduceSub, Nat.reduceLeDiff, Nat.reduceBEq, Nat.reduceDiv, Nat.reduceMod, Int.reduceToNat, Int.reduceLT, Int.reduceLE, Int.reduceAdd, Int.reduceSub, Int.reduceMul, Int.reduceEq, Int.reduceNeg, reduceCtorEq, resV, resAll, ARes.ev, LV.flat, ite_true, ite_false, exists_eq_left', exists_eq_left, keyOf, implies_true, fillC, capOf]
    refine callK_of (g_size hS) ?_
    simp (disch := omega) only [↓SXd, SXu, slBounds, ↓sop, ↓aop, ↓reduceIte, LV.cells, AOp.dst, LV.I, LV.B, LV.U, LV.S, LV.nil, Nat.reduceEqDiff, Nat.reduceAdd, Nat.reduceMul, Nat.reduceSub, Nat.reduceLeDiff, Nat.reduceBEq, Nat.reduceDiv, Nat.reduceMod, Int.reduceToNat, Int.reduceLT, Int.reduceLE, Int.reduceAdd, Int.reduceSub, Int.reduceMul, Int.reduceEq, Int.reduceNeg, reduceCtorEq, resV, resAll, ARes.ev, LV.flat, ite_true, ite_false, exists_eq_left', exists_eq_left, keyOf, implies_true, fillC, capOf]
    have hcl : (cellsOf x y z).length = vol x y z := by simp [cellsOf]
    refine ev_loop (fun m fr1 M' => ∃ (i : Nat) (ch : List Cell) (w : Cell → Bool), i + m = vol x y z ∧ Pre N M' ∧ fr1 1 = .ptr M.length 0 ∧ fr1 2 = .ptr (M.length + 1) 0 ∧ fr1 4 = .I k ∧ fr1 6 = .W (bs x y z fun d => decide (d ∈ ch)) ∧ fr1 7 = .W (bs x y z w) ∧ fr1 20 = .I (vol x y z : Nat) ∧ fr1 21 = .I i ∧
      fc y z (lits tp fr sd) (((cellsOf x y z).drop i).filter (allowedB y z tp fr sd)) ch (k - ch.length) = some r ∧ ch.length ≤ k ∧ ch.Sublist (((cellsOf x y z).take i).filter (allowedB y z tp fr sd)) ∧
      (ch.length < k → ∀ d ∈ ((cellsOf x y z).take i).filter (allowedB y z tp fr sd), d ∈ ch ∨ w d = true) ∧ (∀ d ∈ (cellsOf x y z).drop i, w d = false)) (vol x y z)
      ⟨0, [], fun _ => false, by omega, Pre.refl _, rfl, rfl, rfl, by rw [show (bs x y z fun d => decide (d ∈ ([] : List Cell))) = 0#64 from (bs_zero hS).2 fun c _ => by simp]; rfl, by rw [← bs_none hS]; rfl, rfl, rfl, hr, by simp, List.nil_sublist _, by simp, fun _ _ => rfl⟩ ?_
    rintro m fr1 M' ⟨i, ch, w, hi, hpr, f1, f2, f4, f6, f7, f20, f21, hfc1, hchk, hchs, hpre, hrest⟩
    simp (disch := omega) only [f1, f2, f4, f6, f7, f20, f21, ↓SXd, SXu, slBounds, ↓sop, ↓aop, ↓reduceIte, LV.cells, AOp.dst, LV.I, LV.B, LV.U, LV.S, LV.nil, Nat.reduceEqDiff, Nat.reduceAdd, Nat.reduceMul, Nat.reduceSub, Nat.reduceLeDiff, Nat.reduceBEq, Nat.reduceDiv, Nat.reduceMod, Int.reduceToNat, Int.reduceLT, Int.reduceLE, Int.reduceAdd, Int.reduceSub, Int.reduceMul, Int.reduceEq, Int.reduceNeg, reduceCtorEq, resV, resAll, ARes.ev, LV.flat, ite_true, ite_false, exists_eq_left', exists_eq_left, keyOf, implies_true, fillC, capOf]
    have hchin : ∀ d ∈ ch, d.inBox x y z := fun d hd => (mem_cellsOf hS).1 (List.mem_of_mem_take (List.mem_filter.1 (hchs.mem hd)).1)
    have hchs2 : ch.Pairwise Cell.lt := ((((cellsOf_sorted hS).sublist (List.take_sublist i _)).filter _).sublist hchs)
    have hchc : (pick x y z fun d => decide (d ∈ ch)) = ch := (HeapOK.of hS hchs2 hchin).pick.symm
    have hpM := hM.trans hpr
    have c1 := b1.pre hpr
    have c2 := b2.pre hpr
    refine condC_dec (fun hlt => ?_) (fun hlt => ?_)
    · have hil : i < (cellsOf x y z).length := by omega
      have hci := cellAt_in hS (i := (i : Int)) (by omega) (by omega)
      have hce : (cellsOf x y z)[i] = cellAt y z i := by simp [cellsOf]
      have hdr : (cellsOf x y z).drop i = cellAt y z i :: (cellsOf x y z).drop (i + 1) := by rw [List.drop_eq_getElem_cons hil, hce]
      have htk : (cellsOf x y z).take (i + 1) = (cellsOf x y z).take i ++ [cellAt y z i] := by
        rw [List.take_succ, List.getElem?_eq_getElem hil, hce]; rfl
      have hone : 1#64 <<< i = bs x y z fun d => decide (d = cellAt y z i) := by
        have := bs_one hS hci.1
        rwa [hci.2, Int.toNat_natCast] at this
      have hAe : pick x y z (allowedB y z tp fr sd) = ((cellsOf x y z).take i).filter (allowedB y z tp fr sd) ++ ((cellsOf x y z).drop i).filter (allowedB y z tp fr sd) := by
        rw [← List.filter_append, List.take_append_drop]; rfl
      have hdr2 := hdr
      rw [hdr] at hfc1 hrest hAe
      generalize cellAt y z i = c at hci hone htk hfc1 hrest hAe hdr2
      clear hdr hce
      rw [List.filter_cons] at hfc1 hAe
      simp (disch := omega) only [f1, f2, f4, f6, f7, f20, f21, hone, ↓SXd, SXu, slBounds, ↓sop, ↓aop, ↓reduceIte, LV.cells, AOp.dst, LV.I, LV.B, LV.U, LV.S, LV.nil, Nat.reduceEqDiff, Nat.reduceAdd, Nat.reduceMul, Nat.reduceSub, Nat.reduceLeDiff, Nat.reduceBEq, Nat.reduceDiv, Nat.reduceMod, Int.reduceToNat, Int.reduceLT, Int.reduceLE, Int.reduceAdd, Int.reduceSub, Int.reduceMul, Int.reduceEq, Int.reduceNeg, reduceCtorEq, resV, resAll, ARes.ev, LV.flat, ite_true, ite_false, exists_eq_left', exists_eq_left, keyOf, implies_true, fillC, capOf]
      refine callK_of (g_countB hS) ?_
      rw [hchc]
      have hsub' : (((cellsOf x y z).take i).filter (allowedB y z tp fr sd)).Sublist (((cellsOf x y z).take (i + 1)).filter (allowedB y z tp fr sd)) := by
        rw [htk, List.filter_append]; exact List.sublist_append_left _ _
      have hrest2 : ∀ d ∈ (cellsOf x y z).drop (i + 1), w d = false := fun d hd => hrest d (List.mem_cons_of_mem _ hd)
      by_cases hck : ((ch.length : Nat) : Int) = k
      · have hk0 : k - ch.length = 0 := by omega
        simp (disch := omega) only [f1, f2, f4, f6, f7, f20, f21, hck, ↓SXd, SXu, slBounds, ↓sop, ↓aop, ↓reduceIte, LV.cells, AOp.dst, LV.I, LV.B, LV.U, LV.S, LV.nil, Nat.reduceEqDiff, Nat.reduceAdd, Nat.reduceMul, Nat.reduceSub, Nat.reduceLeDiff, Nat.reduceBEq, Nat.reduceDiv, Nat.reduceMod, Int.reduceToNat, Int.reduceLT, Int.reduceLE, Int.reduceAdd, Int.reduceSub, Int.reduceMul, Int.reduceEq, Int.reduceNeg, reduceCtorEq, resV, resAll, ARes.ev, LV.flat, ite_true, ite_false, exists_eq_left', exists_eq_left, keyOf, implies_true, fillC, capOf]
        refine ⟨m - 1, by omega, i + 1, ch, w, by omega, hpr, f1, f2, f4, f6, f7, f20, eqI (natI _), ?_, hchk, hchs.trans hsub', fun h => by omega, hrest2⟩
        rw [hk0] at hfc1 ⊢
        unfold fc at hfc1 ⊢
        exact hfc1
      · simp (disch := omega) only [f1, f2, f4, f6, f7, f20, f21, hck, c1.cells, ↓SXd, SXu, slBounds, ↓sop, ↓aop, ↓reduceIte, LV.cells, AOp.dst, LV.I, LV.B, LV.U, LV.S, LV.nil, Nat.reduceEqDiff, Nat.reduceAdd, Nat.reduceMul, Nat.reduceSub, Nat.reduceLeDiff, Nat.reduceBEq, Nat.reduceDiv, Nat.reduceMod, Int.reduceToNat, Int.reduceLT, Int.reduceLE, Int.reduceAdd, Int.reduceSub, Int.reduceMul, Int.reduceEq, Int.reduceNeg, reduceCtorEq, resV, resAll, ARes.ev, LV.flat, ite_true, ite_false, exists_eq_left', exists_eq_left, keyOf, implies_true, fillC, capOf]
        refine callK_of (g_allowed (h1.pre hpM) (h2.pre hpM) (h3.pre hpM) hok) ?_
        simp (disch := omega) only [f1, f2, f4, f6, f7, f20, f21, ↓SXd, SXu, slBounds, ↓sop, ↓aop, ↓reduceIte, LV.cells, AOp.dst, LV.I, LV.B, LV.U, LV.S, LV.nil, Nat.reduceEqDiff, Nat.reduceAdd, Nat.reduceMul, Nat.reduceSub, Nat.reduceLeDiff, Nat.reduceBEq, Nat.reduceDiv, Nat.reduceMod, Int.reduceToNat, Int.reduceLT, Int.reduceLE, Int.reduceAdd, Int.reduceSub, Int.reduceMul, Int.reduceEq, Int.reduceNeg, reduceCtorEq, resV, resAll, ARes.ev, LV.flat, ite_true, ite_false, exists_eq_left', exists_eq_left, keyOf, implies_true, fillC, capOf]
        rw [bs_and hS]
        cases hac : allowedB y z tp fr sd c with
        | false =>
          have hze : bs x y z (fun d => allowedB y z tp fr sd d && decide (d = c)) = 0#64 := (bs_zero hS).2 fun d _ => by
            by_cases e : d = c
            · rw [e, hac]; rfl
            · rw [decide_eq_false e]; simp
          rw [hac, if_neg (by simp)] at hfc1
          have hpe : ((cellsOf x y z).take (i + 1)).filter (allowedB y z tp fr sd) = ((cellsOf x y z).take i).filter (allowedB y z tp fr sd) := by
            rw [htk, List.filter_append, List.filter_cons, hac, if_neg (by simp)]; simp
          simp (disch := omega) only [f1, f2, f4, f6, f7, f20, f21, hze, ↓SXd, SXu, slBounds, ↓sop, ↓aop, ↓reduceIte, LV.cells, AOp.dst, LV.I, LV.B, LV.U, LV.S, LV.nil, Nat.reduceEqDiff, Nat.reduceAdd, Nat.reduceMul, Nat.reduceSub, Nat.reduceLeDiff, Nat.reduceBEq, Nat.reduceDiv, Nat.reduceMod, Int.reduceToNat, Int.reduceLT, Int.reduceLE, Int.reduceAdd, Int.reduceSub, Int.reduceMul, Int.reduceEq, Int.reduceNeg, reduceCtorEq, resV, resAll, ARes.ev, LV.flat, ite_true, ite_false, exists_eq_left', exists_eq_left, keyOf, implies_true, fillC, capOf]
          exact ⟨m - 1, by omega, i + 1, ch, w, by omega, hpr, f1, f2, f4, f6, f7, f20, eqI (natI _), hfc1, hchk, by rw [hpe]; exact hchs, by rw [hpe]; exact hpre, hrest2⟩
        | true =>
          have hne : ¬ bs x y z (fun d => allowedB y z tp fr sd d && decide (d = c)) = 0#64 := fun h => by
            have := (bs_zero hS).1 h c hci.1
            rw [hac] at this; simp at this
          rw [hac, if_pos rfl] at hfc1 hAe
          have hpe : ((cellsOf x y z).take (i + 1)).filter (allowedB y z tp fr sd) = ((cellsOf x y z).take i).filter (allowedB y z tp fr sd) ++ [c] := by
            rw [htk, List.filter_append, List.filter_cons, hac, if_pos rfl]; rfl
          obtain ⟨j, hj⟩ : ∃ j, k - ch.length = j + 1 := ⟨k - ch.length - 1, by omega⟩
          have hjk : (k : Int) - ((ch.length : Nat) : Int) - 1 = (j : Nat) := by omega
          have hgr2 := hgr hAe hchs (hpre (by omega)) (fun d hd => hrest2 d (List.mem_filter.1 hd).1) (hrest c (by simp)) (show k = ch.length + 1 + j by omega)
          rw [hj] at hfc1
          simp (disch := omega) only [f1, f2, f4, f6, f7, f20, f21, hne, c1.cells, ↓SXd, SXu, slBounds, ↓sop, ↓aop, ↓reduceIte, LV.cells, AOp.dst, LV.I, LV.B, LV.U, LV.S, LV.nil, Nat.reduceEqDiff, Nat.reduceAdd, Nat.reduceMul, Nat.reduceSub, Nat.reduceLeDiff, Nat.reduceBEq, Nat.reduceDiv, Nat.reduceMod, Int.reduceToNat, Int.reduceLT, Int.reduceLE, Int.reduceAdd, Int.reduceSub, Int.reduceMul, Int.reduceEq, Int.reduceNeg, reduceCtorEq, resV, resAll, ARes.ev, LV.flat, ite_true, ite_false, exists_eq_left', exists_eq_left, keyOf, implies_true, fillC, capOf]
          refine callK_of (g_needs (h1.pre hpM) (h2.pre hpM) (h3.pre hpM) hok) ?_
          simp (disch := omega) only [f1, f2, f4, f6, f7, f20, f21, ↓SXd, SXu, slBounds, ↓sop, ↓aop, ↓reduceIte, LV.cells, AOp.dst, LV.I, LV.B, LV.U, LV.S, LV.nil, Nat.reduceEqDiff, Nat.reduceAdd, Nat.reduceMul, Nat.reduceSub, Nat.reduceLeDiff, Nat.reduceBEq, Nat.reduceDiv, Nat.reduceMod, Int.reduceToNat, Int.reduceLT, Int.reduceLE, Int.reduceAdd, Int.reduceSub, Int.reduceMul, Int.reduceEq, Int.reduceNeg, reduceCtorEq, resV, resAll, ARes.ev, LV.flat, ite_true, ite_false, exists_eq_left', exists_eq_left, keyOf, implies_true, fillC, capOf]
          rw [bs_or hS]
          refine callK_of (g_countB hS) ?_
          rw [hchc]
          simp (disch := omega) only [f1, f2, f4, f6, f7, f20, f21, hjk, ↓SXd, SXu, slBounds, ↓sop, ↓aop, ↓reduceIte, LV.cells, AOp.dst, LV.I, LV.B, LV.U, LV.S, LV.nil, Nat.reduceEqDiff, Nat.reduceAdd, Nat.reduceMul, Nat.reduceSub, Nat.reduceLeDiff, Nat.reduceBEq, Nat.reduceDiv, Nat.reduceMod, Int.reduceToNat, Int.reduceLT, Int.reduceLE, Int.reduceAdd, Int.reduceSub, Int.reduceMul, Int.reduceEq, Int.reduceNeg, reduceCtorEq, resV, resAll, ARes.ev, LV.flat, ite_true, ite_false, exists_eq_left', exists_eq_left, keyOf, implies_true, fillC, capOf]
          have hcm := g_canMeet hS (A := allowedB y z tp fr sd) hLl j (p := fun d => decide (d ∈ ch) || decide (d = c)) (w := w) (u := M'.length) (M := M' ++ [some (.row (lineSets x y z (allowedB y z tp fr sd) (lits tp fr sd)) true 1)]) Live.new (by omega)
          refine callK_of hcm ?_
          have hfu : fc y z (lits tp fr sd) (c :: ((cellsOf x y z).drop (i + 1)).filter (allowedB y z tp fr sd)) ch (j + 1) = match fc y z (lits tp fr sd) (((cellsOf x y z).drop (i + 1)).filter (allowedB y z tp fr sd)) (ch ++ [c]) j with | some r => some r | none => fc y z (lits tp fr sd) (((cellsOf x y z).drop (i + 1)).filter (allowedB y z tp fr sd)) ch (j + 1) := rfl
          rw [hfu] at hfc1
          cases hrec : fc y z (lits tp fr sd) (((cellsOf x y z).drop (i + 1)).filter (allowedB y z tp fr sd)) (ch ++ [c]) j with
          | some r2 =>
            have hC := hgr2.2 (by rw [hrec]; rfl)
            rw [hrec] at hfc1
            cases hfc1
            simp (disch := omega) only [f1, f2, f4, f6, f7, f20, f21, hC, ↓SXd, SXu, slBounds, ↓sop, ↓aop, ↓reduceIte, LV.cells, AOp.dst, LV.I, LV.B, LV.U, LV.S, LV.nil, Nat.reduceEqDiff, Nat.reduceAdd, Nat.reduceMul, Nat.reduceSub, Nat.reduceLeDiff, Nat.reduceBEq, Nat.reduceDiv, Nat.reduceMod, Int.reduceToNat, Int.reduceLT, Int.reduceLE, Int.reduceAdd, Int.reduceSub, Int.reduceMul, Int.reduceEq, Int.reduceNeg, reduceCtorEq, resV, resAll, ARes.ev, LV.flat, ite_true, ite_false, exists_eq_left', exists_eq_left, keyOf, implies_true, fillC, capOf]
            rw [bs_or hS]
            refine ⟨m - 1, by omega, i + 1, ch ++ [c], w, by omega, hpr.app', f1, f2, f4, ?_, f7, f20, eqI (natI _), ?_, by rw [List.length_append, List.length_singleton]; omega, by rw [hpe]; exact hchs.append (List.Sublist.refl _), fun hlt d hd => ?_, hrest2⟩
            · show LV.W _ = LV.W _
              rw [(bs_eq hS).2 fun d _ => show (decide (d ∈ ch) || decide (d = c)) = decide (d ∈ ch ++ [c]) by rw [Bool.eq_iff_iff]; simp]
            · rw [show k - (ch ++ [c]).length = j by rw [List.length_append, List.length_singleton]; omega]; exact hrec
            · rw [hpe] at hd
              rcases List.mem_append.1 hd with hd | hd
              · rcases hpre (by omega) d hd with h | h
                · exact .inl (by simp [h])
                · exact .inr h
              · exact .inl (by simp [List.mem_singleton.1 hd])
          | none =>
            have hC : ¬ Cov y z (lits tp fr sd) (pick x y z (allowedB y z tp fr sd)) (fun d => decide (d ∈ ch) || decide (d = c)) w j := fun h => by
              have := hgr2.1 h; rw [hrec] at this; cases this
            rw [hrec] at hfc1
            simp (disch := omega) only [f1, f2, f4, f6, f7, f20, f21, hC, ↓SXd, SXu, slBounds, ↓sop, ↓aop, ↓reduceIte, LV.cells, AOp.dst, LV.I, LV.B, LV.U, LV.S, LV.nil, Nat.reduceEqDiff, Nat.reduceAdd, Nat.reduceMul, Nat.reduceSub, Nat.reduceLeDiff, Nat.reduceBEq, Nat.reduceDiv, Nat.reduceMod, Int.reduceToNat, Int.reduceLT, Int.reduceLE, Int.reduceAdd, Int.reduceSub, Int.reduceMul, Int.reduceEq, Int.reduceNeg, reduceCtorEq, resV, resAll, ARes.ev, LV.flat, ite_true, ite_false, exists_eq_left', exists_eq_left, keyOf, implies_true, fillC, capOf]
            rw [bs_or hS]
            refine ⟨m - 1, by omega, i + 1, ch, fun d => w d || decide (d = c), by omega, hpr.app', f1, f2, f4, f6, rfl, f20, eqI (natI _), by rw [hj]; exact hfc1, hchk, by rw [hpe]; exact hchs.trans (List.sublist_append_left _ _), fun hlt d hd => ?_, fun d hd => ?_⟩
            · rw [hpe] at hd
              rcases List.mem_append.1 hd with hd | hd
              · rcases hpre (by omega) d hd with h | h
                · exact .inl h
                · exact .inr (by show (w d || decide (d = c)) = true; rw [h]; rfl)
              · exact .inr (by show (w d || decide (d = c)) = true; rw [List.mem_singleton.1 hd]; simp)
            · show (w d || decide (d = c)) = false
              rw [hrest2 d hd, Bool.false_or, decide_eq_false_iff_not]
              rintro rfl
              have hnd := (cellsOf_sorted hS).imp (S := fun a b => a ≠ b) fun {a b} hab e => by subst e; exact Cell.lt_irrefl _ hab
              have := hnd.sublist (List.drop_sublist i _)
              rw [hdr2] at this
              exact (List.pairwise_cons.1 this).1 _ hd rfl
    · have : i = vol x y z := by omega
      subst this
      rw [List.drop_eq_nil_of_le (by omega), List.filter_nil] at hfc1
      have hrch : r = ch := by
        cases hkj : k - ch.length with
        | zero =>
          rw [hkj] at hfc1
          unfold fc at hfc1
          split at hfc1
          · cases hfc1; rfl
          · cases hfc1
        | succ j => rw [hkj] at hfc1; unfold fc at hfc1; cases hfc1
      subst hrch
      simp (disch := omega) only [f1, f2, f4, f6, f7, f20, f21, c1.cells, ↓SXd, SXu, slBounds, ↓sop, ↓aop, ↓reduceIte, LV.cells, AOp.dst, LV.I, LV.B, LV.U, LV.S, LV.nil, Nat.reduceEqDiff, Nat.reduceAdd, Nat.reduceMul, Nat.reduceSub, Nat.reduceLeDiff, Nat.reduceBEq, Nat.reduceDiv, Nat.reduceMod, Int.reduceToNat, Int.reduceLT, Int.reduceLE, Int.reduceAdd, Int.reduceSub, Int.reduceMul, Int.reduceEq, Int.reduceNeg, reduceCtorEq, resV, resAll, ARes.ev, LV.flat, ite_true, ite_false, exists_eq_left', exists_eq_left, keyOf, implies_true, fillC, capOf]
      refine callK_of (g_Shadow_box) ?_
      simp (disch := omega) only [f1, f2, f4, f6, f7, f20, f21, ↓SXd, SXu, slBounds, ↓sop, ↓aop, ↓reduceIte, LV.cells, AOp.dst, LV.I, LV.B, LV.U, LV.S, LV.nil, Nat.reduceEqDiff, Nat.reduceAdd, Nat.reduceMul, Nat.reduceSub, Nat.reduceLeDiff, Nat.reduceBEq, Nat.reduceDiv, Nat.reduceMod, Int.reduceToNat, Int.reduceLT, Int.reduceLE, Int.reduceAdd, Int.reduceSub, Int.reduceMul, Int.reduceEq, Int.reduceNeg, reduceCtorEq, resV, resAll, ARes.ev, LV.flat, ite_true, ite_false, exists_eq_left', exists_eq_left, keyOf, implies_true, fillC, capOf]
      refine callH_of (g_heap hS) ?_
      intro u N3 hu hp3 hl
      rw [hchc] at hl ⊢
      simp (disch := omega) only [f1, f2, f4, f6, f7, f20, f21, ↓SXd, SXu, slBounds, ↓sop, ↓aop, ↓reduceIte, LV.cells, AOp.dst, LV.I, LV.B, LV.U, LV.S, LV.nil, Nat.reduceEqDiff, Nat.reduceAdd, Nat.reduceMul, Nat.reduceSub, Nat.reduceLeDiff, Nat.reduceBEq, Nat.reduceDiv, Nat.reduceMod, Int.reduceToNat, Int.reduceLT, Int.reduceLE, Int.reduceAdd, Int.reduceSub, Int.reduceMul, Int.reduceEq, Int.reduceNeg, reduceCtorEq, resV, resAll, ARes.ev, LV.flat, ite_true, ite_false, exists_eq_left', exists_eq_left, keyOf, implies_true, fillC, capOf]
      refine memK_box (vs := [.I x, .I y, .I z, .ref u 0 r.length]) (c2.pre hp3) rfl fun N4 q1 q2 q3 => ?_
      simp (disch := omega) only [f1, f2, f4, f6, f7, f20, f21, q2.cells, ↓SXd, SXu, slBounds, ↓sop, ↓aop, ↓reduceIte, LV.cells, AOp.dst, LV.I, LV.B, LV.U, LV.S, LV.nil, Nat.reduceEqDiff, Nat.reduceAdd, Nat.reduceMul, Nat.reduceSub, Nat.reduceLeDiff, Nat.reduceBEq, Nat.reduceDiv, Nat.reduceMod, Int.reduceToNat, Int.reduceLT, Int.reduceLE, Int.reduceAdd, Int.reduceSub, Int.reduceMul, Int.reduceEq, Int.reduceNeg, reduceCtorEq, resV, resAll, ARes.ev, LV.flat, ite_true, ite_false, exists_eq_left', exists_eq_left, keyOf, implies_true, fillC, capOf]
      have hMl := hM.1
      have hprl := hpr.1
      have hc2 := c2.lt
      exact ⟨_, rfl, SlC.of (live_step hl (by omega) q3), Newer.of (by omega), pre_step (hpM.trans hp3) (by omega) (j := 0) q1 q3⟩
  · rw [if_neg hs, if_neg hs]
    simp (disch := omega) only [splice, ↓SXd, SXu, slBounds, ↓sop, ↓aop, ↓reduceIte, LV.cells, AOp.dst, LV.I, LV.B, LV.U, LV.S, LV.nil, Nat.reduceEqDiff, Nat.reduceAdd, Nat.reduceMul, Nat.reduceSub, Nat.reduceLeDiff, Nat.reduceBEq, Nat.reduceDiv, Nat.reduceMod, Int.reduceToNat, Int.reduceLT, Int.reduceLE, Int.reduceAdd, Int.reduceSub, Int.reduceMul, Int.reduceEq, Int.reduceNeg, reduceCtorEq, resV, resAll, ARes.ev, LV.flat, ite_true, ite_false, exists_eq_left', exists_eq_left, keyOf, implies_true, fillC, capOf]
    refine memK_box b2 (by simp) fun N3 q1 q2 q3 => ?_
    simp (disch := omega) only [q2.cells, ↓SXd, SXu, slBounds, ↓sop, ↓aop, ↓reduceIte, LV.cells, AOp.dst, LV.I, LV.B, LV.U, LV.S, LV.nil, Nat.reduceEqDiff, Nat.reduceAdd, Nat.reduceMul, Nat.reduceSub, Nat.reduceLeDiff, Nat.reduceBEq, Nat.reduceDiv, Nat.reduceMod, Int.reduceToNat, Int.reduceLT, Int.reduceLE, Int.reduceAdd, Int.reduceSub, Int.reduceMul, Int.reduceEq, Int.reduceNeg, reduceCtorEq, resV, resAll, ARes.ev, LV.flat, ite_true, ite_false, exists_eq_left', exists_eq_left, keyOf, implies_true, fillC, capOf]
    exact ⟨_, rfl, SlC.nil, Newer.nil, pre_step hM (by omega) (j := 0) q1 q3⟩
end
end Go.Ab

/- The law of FirstFewest. -/
namespace Go.Ab
open Go
set_option linter.unusedSimpArgs false
set_option linter.unusedVariables false
set_option maxRecDepth 20000

theorem l_FirstFewest {x y z : Int} {t o t' o' t2 o2 : Nat} {tp fr sd : List Int} {M : Mem} (h1 : Ints M t o tp) (n1 : tp.length ≤ 9223372036854775807) (h2 : Ints M t' o' fr) (n2 : fr.length ≤ 9223372036854775807) (h3 : Ints M t2 o2 sd) (n3 : sd.length ≤ 9223372036854775807) :
    CallsR PG F.laws_FnExactFirstFewest [.agg [.I x, .I y, .I z, .ref t o tp.length, .ref t' o' fr.length, .ref t2 o2 sd.length]] M fun v _ => v = .B true := by
  have ht := h1.lt
  have ht' := h2.lt
  have ht2 := h3.lt
  refine callsR_run K.laws_FnExactFirstFewest rfl ?_
  simp (disch := omega) only [C.laws_FnExactFirstFewest, ↓SXd, SXu, slBounds, ↓sop, ↓aop, ↓reduceIte, LV.cells, AOp.dst, LV.I, LV.B, LV.U, LV.S, LV.nil, Nat.reduceEqDiff, Nat.reduceAdd, Nat.reduceMul, Nat.reduceSub, Nat.reduceLeDiff, Nat.reduceBEq, Nat.reduceDiv, Nat.reduceMod, Int.reduceToNat, Int.reduceLT, Int.reduceLE, Int.reduceAdd, Int.reduceSub, Int.reduceMul, Int.reduceEq, Int.reduceNeg, reduceCtorEq, resV, resAll, ARes.ev, LV.flat, ite_true, ite_false, exists_eq_left', exists_eq_left, keyOf, implies_true, fillC, capOf]
  refine callK_of (h_szShadow (by omega) (by omega) n1 n2 n3) ?_
  simp (disch := omega) only [↓SXd, SXu, slBounds, ↓sop, ↓aop, ↓reduceIte, LV.cells, AOp.dst, LV.I, LV.B, LV.U, LV.S, LV.nil, Nat.reduceEqDiff, Nat.reduceAdd, Nat.reduceMul, Nat.reduceSub, Nat.reduceLeDiff, Nat.reduceBEq, Nat.reduceDiv, Nat.reduceMod, Int.reduceToNat, Int.reduceLT, Int.reduceLE, Int.reduceAdd, Int.reduceSub, Int.reduceMul, Int.reduceEq, Int.reduceNeg, reduceCtorEq, resV, resAll, ARes.ev, LV.flat, ite_true, ite_false, exists_eq_left', exists_eq_left, keyOf, implies_true, fillC, capOf]
  by_cases hl : (1048576 : Int) < tp.length + fr.length + sd.length
  · rw [if_pos hl]
    simp (disch := omega) only [Int.reduceLT, ↓SXd, SXu, slBounds, ↓sop, ↓aop, ↓reduceIte, LV.cells, AOp.dst, LV.I, LV.B, LV.U, LV.S, LV.nil, Nat.reduceEqDiff, Nat.reduceAdd, Nat.reduceMul, Nat.reduceSub, Nat.reduceLeDiff, Nat.reduceBEq, Nat.reduceDiv, Nat.reduceMod, Int.reduceToNat, Int.reduceLT, Int.reduceLE, Int.reduceAdd, Int.reduceSub, Int.reduceMul, Int.reduceEq, Int.reduceNeg, reduceCtorEq, resV, resAll, ARes.ev, LV.flat, ite_true, ite_false, exists_eq_left', exists_eq_left, keyOf, implies_true, fillC, capOf]
    rfl
  · rw [if_neg hl]
    have l1 : tp.length ≤ 1000000000 := by omega
    have l2 : fr.length ≤ 1000000000 := by omega
    have l3 : sd.length ≤ 1000000000 := by omega
    simp (disch := omega) only [↓SXd, SXu, slBounds, ↓sop, ↓aop, ↓reduceIte, LV.cells, AOp.dst, LV.I, LV.B, LV.U, LV.S, LV.nil, Nat.reduceEqDiff, Nat.reduceAdd, Nat.reduceMul, Nat.reduceSub, Nat.reduceLeDiff, Nat.reduceBEq, Nat.reduceDiv, Nat.reduceMod, Int.reduceToNat, Int.reduceLT, Int.reduceLE, Int.reduceAdd, Int.reduceSub, Int.reduceMul, Int.reduceEq, Int.reduceNeg, reduceCtorEq, resV, resAll, ARes.ev, LV.flat, ite_true, ite_false, exists_eq_left', exists_eq_left, keyOf, implies_true, fillC, capOf]
    refine callR_of (h_toShadow h1.app h2.app h3.app l1 l2 l3) ?_
    rintro _ N1 ⟨a, b, c, rfl, ha, hb, hc, _, _, _, la, lb, lc, hp1⟩
    have b1 : Live N1 M.length (.row [.I x, .I y, .I z, .ref t o tp.length, .ref t' o' fr.length, .ref t2 o2 sd.length] true 0) := Live.new.pre hp1
    have hM1 : Pre M N1 := (Pre.app _ _).trans hp1
    simp (disch := omega) only [↓SXd, SXu, slBounds, ↓sop, ↓aop, ↓reduceIte, LV.cells, AOp.dst, LV.I, LV.B, LV.U, LV.S, LV.nil, Nat.reduceEqDiff, Nat.reduceAdd, Nat.reduceMul, Nat.reduceSub, Nat.reduceLeDiff, Nat.reduceBEq, Nat.reduceDiv, Nat.reduceMod, Int.reduceToNat, Int.reduceLT, Int.reduceLE, Int.reduceAdd, Int.reduceSub, Int.reduceMul, Int.reduceEq, Int.reduceNeg, reduceCtorEq, resV, resAll, ARes.ev, LV.flat, ite_true, ite_false, exists_eq_left', exists_eq_left, keyOf, implies_true, fillC, capOf]
    have hrl := firstFew_len (x := x) (y := y) (z := z) (tp := tp) (fr := fr) (sd := sd)
    have heqR : ∀ {v v' : LV} {M : Mem}, CellsV M v ((firstFew x y z tp fr sd).getD Hp.none).cs → CellsV M v' ((firstFew x y z tp fr sd).getD Hp.none).cs → CallsTo PG F.laws_eqHeap [.agg [.I ((firstFew x y z tp fr sd).getD Hp.none).x, .I ((firstFew x y z tp fr sd).getD Hp.none).y, .I ((firstFew x y z tp fr sd).getD Hp.none).z, v], .agg [.I ((firstFew x y z tp fr sd).getD Hp.none).x, .I ((firstFew x y z tp fr sd).getD Hp.none).y, .I ((firstFew x y z tp fr sd).getD Hp.none).z, v']] M (.B true) M := fun {v v' M} h1 h2 => by
      have := h_eqHeapV (x := ((firstFew x y z tp fr sd).getD Hp.none).x) (y := ((firstFew x y z tp fr sd).getD Hp.none).y) (z := ((firstFew x y z tp fr sd).getD Hp.none).z) (x' := ((firstFew x y z tp fr sd).getD Hp.none).x) (y' := ((firstFew x y z tp fr sd).getD Hp.none).y) (z' := ((firstFew x y z tp fr sd).getD Hp.none).z) h1 h2 hrl hrl
      rwa [decide_eq_true (by simp)] at this
    refine callR_of (h_sFirstFewest la.has lb.has lc.has l1 l2 l3) ?_
    rintro _ N2 ⟨w, rfl, hw, hwn, hp2⟩
    have b2 := (b1.pre hp2).app (L := [some (((firstFew x y z tp fr sd).getD Hp.none).row w)])
    have w2 : Live (N2 ++ [some (((firstFew x y z tp fr sd).getD Hp.none).row w)]) N2.length (((firstFew x y z tp fr sd).getD Hp.none).row w) := Live.new
    have hM2 := (hM1.trans hp2).app' (L := [some (((firstFew x y z tp fr sd).getD Hp.none).row w)])
    have hw2 := hw.pre (Pre.app N2 [some (((firstFew x y z tp fr sd).getD Hp.none).row w)])
    have hbl2 : M.length < N2.length := (b1.pre hp2).lt
    simp (disch := omega) only [↓SXd, SXu, slBounds, ↓sop, ↓aop, ↓reduceIte, LV.cells, AOp.dst, LV.I, LV.B, LV.U, LV.S, LV.nil, Nat.reduceEqDiff, Nat.reduceAdd, Nat.reduceMul, Nat.reduceSub, Nat.reduceLeDiff, Nat.reduceBEq, Nat.reduceDiv, Nat.reduceMod, Int.reduceToNat, Int.reduceLT, Int.reduceLE, Int.reduceAdd, Int.reduceSub, Int.reduceMul, Int.reduceEq, Int.reduceNeg, reduceCtorEq, resV, resAll, ARes.ev, LV.flat, ite_true, ite_false, exists_eq_left', exists_eq_left, keyOf, implies_true, fillC, capOf]
    generalize hW : N2 ++ [some (((firstFew x y z tp fr sd).getD Hp.none).row w)] = W at b2 w2 hM2 hw2 ⊢
    have hwl2 := w2.lt
    simp (disch := omega) only [b2.cells, ↓SXd, SXu, slBounds, ↓sop, ↓aop, ↓reduceIte, LV.cells, AOp.dst, LV.I, LV.B, LV.U, LV.S, LV.nil, Nat.reduceEqDiff, Nat.reduceAdd, Nat.reduceMul, Nat.reduceSub, Nat.reduceLeDiff, Nat.reduceBEq, Nat.reduceDiv, Nat.reduceMod, Int.reduceToNat, Int.reduceLT, Int.reduceLE, Int.reduceAdd, Int.reduceSub, Int.reduceMul, Int.reduceEq, Int.reduceNeg, reduceCtorEq, resV, resAll, ARes.ev, LV.flat, ite_true, ite_false, exists_eq_left', exists_eq_left, keyOf, implies_true, fillC, capOf]
    clear la lb lc
    refine callR_of (h_toShadow (h1.pre hM2) (h2.pre hM2) (h3.pre hM2) l1 l2 l3) ?_
    rintro _ N3 ⟨a, b, c, rfl, ha, hb, hc, hab, hac, hbc, la, lb, lc, hp3⟩
    have b3 := b2.pre hp3
    have w3 := w2.pre hp3
    have hM3 := hM2.trans hp3
    have hlb3 := b3.lt
    have hla3 := la.lt
    have hlb3' := lb.lt
    have hlc3 := lc.lt
    simp (disch := omega) only [↓SXd, SXu, slBounds, ↓sop, ↓aop, ↓reduceIte, LV.cells, AOp.dst, LV.I, LV.B, LV.U, LV.S, LV.nil, Nat.reduceEqDiff, Nat.reduceAdd, Nat.reduceMul, Nat.reduceSub, Nat.reduceLeDiff, Nat.reduceBEq, Nat.reduceDiv, Nat.reduceMod, Int.reduceToNat, Int.reduceLT, Int.reduceLE, Int.reduceAdd, Int.reduceSub, Int.reduceMul, Int.reduceEq, Int.reduceNeg, reduceCtorEq, resV, resAll, ARes.ev, LV.flat, ite_true, ite_false, exists_eq_left', exists_eq_left, keyOf, implies_true, fillC, capOf]
    refine callR_of (g_FirstFewest la.app.has lb.app.has lc.app.has l1 l2 l3) ?_
    rintro _ N4' ⟨g, rfl, hg, hgn, hp4⟩
    have b4 := ((b3.app).pre hp4).app (L := [some (((firstFew x y z tp fr sd).getD Hp.none).row g)])
    have w4 := ((w3.app).pre hp4).app (L := [some (((firstFew x y z tp fr sd).getD Hp.none).row g)])
    have g4 : Live (N4' ++ [some (((firstFew x y z tp fr sd).getD Hp.none).row g)]) N4'.length (((firstFew x y z tp fr sd).getD Hp.none).row g) := Live.new
    have hM4 := ((hM3.app').trans hp4).app' (L := [some (((firstFew x y z tp fr sd).getD Hp.none).row g)])
    have x4 : Live (N4' ++ [some (((firstFew x y z tp fr sd).getD Hp.none).row g)]) N3.length (.row [.I x, .I y, .I z, .ref a 0 tp.length, .ref b 0 fr.length, .ref c 0 sd.length] true 0) := (Live.new.pre hp4).app
    have hlen3 : N3.length < N4'.length := (Live.new.pre hp4 : Live N4' N3.length (.row [.I x, .I y, .I z, .ref a 0 tp.length, .ref b 0 fr.length, .ref c 0 sd.length] true 0)).lt
    have la4 := (la.app.pre hp4).app (L := [some (((firstFew x y z tp fr sd).getD Hp.none).row g)])
    have lb4 := (lb.app.pre hp4).app (L := [some (((firstFew x y z tp fr sd).getD Hp.none).row g)])
    have lc4 := (lc.app.pre hp4).app (L := [some (((firstFew x y z tp fr sd).getD Hp.none).row g)])
    have hw4 := ((hw2.pre hp3).pre ((Pre.app _ _).trans hp4)).pre (Pre.app N4' [some (((firstFew x y z tp fr sd).getD Hp.none).row g)])
    have hg4 := hg.pre (Pre.app N4' [some (((firstFew x y z tp fr sd).getD Hp.none).row g)])
    have hgo := hg.older
    simp (disch := omega) only [↓SXd, SXu, slBounds, ↓sop, ↓aop, ↓reduceIte, LV.cells, AOp.dst, LV.I, LV.B, LV.U, LV.S, LV.nil, Nat.reduceEqDiff, Nat.reduceAdd, Nat.reduceMul, Nat.reduceSub, Nat.reduceLeDiff, Nat.reduceBEq, Nat.reduceDiv, Nat.reduceMod, Int.reduceToNat, Int.reduceLT, Int.reduceLE, Int.reduceAdd, Int.reduceSub, Int.reduceMul, Int.reduceEq, Int.reduceNeg, reduceCtorEq, resV, resAll, ARes.ev, LV.flat, ite_true, ite_false, exists_eq_left', exists_eq_left, keyOf, implies_true, fillC, capOf]
    generalize hG : N4' ++ [some (((firstFew x y z tp fr sd).getD Hp.none).row g)] = N4 at b4 w4 g4 hM4 x4 la4 lb4 lc4 hw4 hg4 ⊢
    simp (disch := omega) only [g4.cells, w4.cells, ↓SXd, SXu, slBounds, ↓sop, ↓aop, ↓reduceIte, LV.cells, AOp.dst, LV.I, LV.B, LV.U, LV.S, LV.nil, Nat.reduceEqDiff, Nat.reduceAdd, Nat.reduceMul, Nat.reduceSub, Nat.reduceLeDiff, Nat.reduceBEq, Nat.reduceDiv, Nat.reduceMod, Int.reduceToNat, Int.reduceLT, Int.reduceLE, Int.reduceAdd, Int.reduceSub, Int.reduceMul, Int.reduceEq, Int.reduceNeg, reduceCtorEq, resV, resAll, ARes.ev, LV.flat, ite_true, ite_false, exists_eq_left', exists_eq_left, keyOf, implies_true, fillC, capOf]
    refine callK_of (heqR hg4.v hw4.v) ?_
    simp (disch := omega) only [b4.cells, x4.cells, ↓SXd, SXu, slBounds, ↓sop, ↓aop, ↓reduceIte, LV.cells, AOp.dst, LV.I, LV.B, LV.U, LV.S, LV.nil, Nat.reduceEqDiff, Nat.reduceAdd, Nat.reduceMul, Nat.reduceSub, Nat.reduceLeDiff, Nat.reduceBEq, Nat.reduceDiv, Nat.reduceMod, Int.reduceToNat, Int.reduceLT, Int.reduceLE, Int.reduceAdd, Int.reduceSub, Int.reduceMul, Int.reduceEq, Int.reduceNeg, reduceCtorEq, resV, resAll, ARes.ev, LV.flat, ite_true, ite_false, exists_eq_left', exists_eq_left, keyOf, implies_true, fillC, capOf]
    refine callR_of (h_toShadow (h1.pre hM4) (h2.pre hM4) (h3.pre hM4) l1 l2 l3) ?_
    rintro _ N5 ⟨a', b', c', rfl, ha', hb', hc', _, _, _, la', lb', lc', hp5⟩
    have x5 := x4.pre hp5
    have b5 := b4.pre hp5
    have w5 := w4.pre hp5
    have g5 := g4.pre hp5
    simp (disch := omega) only [x5.cells, ↓SXd, SXu, slBounds, ↓sop, ↓aop, ↓reduceIte, LV.cells, AOp.dst, LV.I, LV.B, LV.U, LV.S, LV.nil, Nat.reduceEqDiff, Nat.reduceAdd, Nat.reduceMul, Nat.reduceSub, Nat.reduceLeDiff, Nat.reduceBEq, Nat.reduceDiv, Nat.reduceMod, Int.reduceToNat, Int.reduceLT, Int.reduceLE, Int.reduceAdd, Int.reduceSub, Int.reduceMul, Int.reduceEq, Int.reduceNeg, reduceCtorEq, resV, resAll, ARes.ev, LV.flat, ite_true, ite_false, exists_eq_left', exists_eq_left, keyOf, implies_true, fillC, capOf]
    have he := h_eqShadow (x := x) (y := y) (z := z) (x' := x) (y' := y) (z' := z) (M := N5) (.inr ⟨_, _, rfl, (la4.pre hp5).has⟩) (.inr ⟨_, _, rfl, (lb4.pre hp5).has⟩) (.inr ⟨_, _, rfl, (lc4.pre hp5).has⟩) (.inr ⟨_, _, rfl, la'.has⟩) (.inr ⟨_, _, rfl, lb'.has⟩) (.inr ⟨_, _, rfl, lc'.has⟩) l1 l2 l3 l1 l2 l3
    rw [decide_eq_true (by simp)] at he
    refine ⟨fun q hq => (x5.trans x4.symm).trans hq, ?_⟩
    refine callK_of he ?_
    simp (disch := omega) only [x5.cells, ↓SXd, SXu, slBounds, ↓sop, ↓aop, ↓reduceIte, LV.cells, AOp.dst, LV.I, LV.B, LV.U, LV.S, LV.nil, Nat.reduceEqDiff, Nat.reduceAdd, Nat.reduceMul, Nat.reduceSub, Nat.reduceLeDiff, Nat.reduceBEq, Nat.reduceDiv, Nat.reduceMod, Int.reduceToNat, Int.reduceLT, Int.reduceLE, Int.reduceAdd, Int.reduceSub, Int.reduceMul, Int.reduceEq, Int.reduceNeg, reduceCtorEq, resV, resAll, ARes.ev, LV.flat, ite_true, ite_false, exists_eq_left', exists_eq_left, keyOf, implies_true, fillC, capOf]
    refine callR_of (h_markShadow (la4.pre hp5) (lb4.pre hp5) (lc4.pre hp5) hab hac hbc (by omega) (by omega) (by omega) (by omega)) ?_
    rintro _ N6 ⟨rfl, hp6⟩
    have hNg : Newer N3 g := hgn.mono (Pre.app _ _)
    have hlen2 : W.length ≤ N3.length := hp3.1
    have hwo := hw2.older
    have hg6 := hp6.slC (hg4.pre hp5) (hNg _ hla3) (hNg _ hlb3') (hNg _ hlc3)
    have hw6 := hp6.slC (hw4.pre hp5) (hwo.off ha) (hwo.off hb) (hwo.off hc)
    have b6 := hp6.live b5 (by omega) (by omega) (by omega)
    have w6 := hp6.live w5 (by omega) (by omega) (by omega)
    have g6 := hp6.live g5 (by omega) (by omega) (by omega)
    have hM6 : Pre M N6 := hp6.pre (hM4.trans hp5) (by omega) (by omega) (by omega)
    have hk : ¬ (1 + (tp.length : Int) + (fr.length : Int) + (sd.length : Int) < 0) := by omega
    simp (disch := omega) only [hk, g6.cells, w6.cells, ↓SXd, SXu, slBounds, ↓sop, ↓aop, ↓reduceIte, LV.cells, AOp.dst, LV.I, LV.B, LV.U, LV.S, LV.nil, Nat.reduceEqDiff, Nat.reduceAdd, Nat.reduceMul, Nat.reduceSub, Nat.reduceLeDiff, Nat.reduceBEq, Nat.reduceDiv, Nat.reduceMod, Int.reduceToNat, Int.reduceLT, Int.reduceLE, Int.reduceAdd, Int.reduceSub, Int.reduceMul, Int.reduceEq, Int.reduceNeg, reduceCtorEq, resV, resAll, ARes.ev, LV.flat, ite_true, ite_false, exists_eq_left', exists_eq_left, keyOf, implies_true, fillC, capOf]
    refine callK_of (heqR hg6.v hw6.v) ?_
    simp (disch := omega) only [g6.cells, ↓SXd, SXu, slBounds, ↓sop, ↓aop, ↓reduceIte, LV.cells, AOp.dst, LV.I, LV.B, LV.U, LV.S, LV.nil, Nat.reduceEqDiff, Nat.reduceAdd, Nat.reduceMul, Nat.reduceSub, Nat.reduceLeDiff, Nat.reduceBEq, Nat.reduceDiv, Nat.reduceMod, Int.reduceToNat, Int.reduceLT, Int.reduceLE, Int.reduceAdd, Int.reduceSub, Int.reduceMul, Int.reduceEq, Int.reduceNeg, reduceCtorEq, resV, resAll, ARes.ev, LV.flat, ite_true, ite_false, exists_eq_left', exists_eq_left, keyOf, implies_true, fillC, capOf]
    refine callR_of (h_markHeap hg6 hrl (by omega)) ?_
    rintro _ N7 ⟨rfl, hg7, hN7a, hN7b⟩
    have hp7 : PreV g N6 N7 := ⟨hN7a, hN7b⟩
    have hgw : Apart g w := Newer.apart hNg fun q r n e => Nat.lt_of_lt_of_le (hwo q r n e) hlen2
    have hw7 := hp7.slC hw6 hgw
    have hgM : Newer M g := hNg.mono hM3
    have hM7 := hp7.pre hM6 hgM
    have b7 := hp7.live b6 (hNg _ hlb3)
    have w7 := hp7.live w6 (hNg _ (by omega))
    have g7 := hp7.live g6 (hgo.off (Nat.le_refl _))
    simp (disch := omega) only [g7.cells, ↓SXd, SXu, slBounds, ↓sop, ↓aop, ↓reduceIte, LV.cells, AOp.dst, LV.I, LV.B, LV.U, LV.S, LV.nil, Nat.reduceEqDiff, Nat.reduceAdd, Nat.reduceMul, Nat.reduceSub, Nat.reduceLeDiff, Nat.reduceBEq, Nat.reduceDiv, Nat.reduceMod, Int.reduceToNat, Int.reduceLT, Int.reduceLE, Int.reduceAdd, Int.reduceSub, Int.reduceMul, Int.reduceEq, Int.reduceNeg, reduceCtorEq, resV, resAll, ARes.ev, LV.flat, ite_true, ite_false, exists_eq_left', exists_eq_left, keyOf, implies_true, fillC, capOf]
    refine callK_of (h_heldHeap hg7.v hrl (by omega)) ?_
    simp (disch := omega) only [b7.cells, ↓SXd, SXu, slBounds, ↓sop, ↓aop, ↓reduceIte, LV.cells, AOp.dst, LV.I, LV.B, LV.U, LV.S, LV.nil, Nat.reduceEqDiff, Nat.reduceAdd, Nat.reduceMul, Nat.reduceSub, Nat.reduceLeDiff, Nat.reduceBEq, Nat.reduceDiv, Nat.reduceMod, Int.reduceToNat, Int.reduceLT, Int.reduceLE, Int.reduceAdd, Int.reduceSub, Int.reduceMul, Int.reduceEq, Int.reduceNeg, reduceCtorEq, resV, resAll, ARes.ev, LV.flat, ite_true, ite_false, exists_eq_left', exists_eq_left, keyOf, implies_true, fillC, capOf]
    have hk2 : ¬ (1 + 3 * (((firstFew x y z tp fr sd).getD Hp.none).cs.length : Int) < 0) := by omega
    simp (disch := omega) only [hk2, b7.cells, ↓SXd, SXu, slBounds, ↓sop, ↓aop, ↓reduceIte, LV.cells, AOp.dst, LV.I, LV.B, LV.U, LV.S, LV.nil, Nat.reduceEqDiff, Nat.reduceAdd, Nat.reduceMul, Nat.reduceSub, Nat.reduceLeDiff, Nat.reduceBEq, Nat.reduceDiv, Nat.reduceMod, Int.reduceToNat, Int.reduceLT, Int.reduceLE, Int.reduceAdd, Int.reduceSub, Int.reduceMul, Int.reduceEq, Int.reduceNeg, reduceCtorEq, resV, resAll, ARes.ev, LV.flat, ite_true, ite_false, exists_eq_left', exists_eq_left, keyOf, implies_true, fillC, capOf]
    refine callR_of (h_toShadow (h1.pre hM7) (h2.pre hM7) (h3.pre hM7) l1 l2 l3) ?_
    rintro _ N8 ⟨a', b', c', rfl, ha', hb', hc', _, _, _, la', lb', lc', hp8⟩
    simp (disch := omega) only [↓SXd, SXu, slBounds, ↓sop, ↓aop, ↓reduceIte, LV.cells, AOp.dst, LV.I, LV.B, LV.U, LV.S, LV.nil, Nat.reduceEqDiff, Nat.reduceAdd, Nat.reduceMul, Nat.reduceSub, Nat.reduceLeDiff, Nat.reduceBEq, Nat.reduceDiv, Nat.reduceMod, Int.reduceToNat, Int.reduceLT, Int.reduceLE, Int.reduceAdd, Int.reduceSub, Int.reduceMul, Int.reduceEq, Int.reduceNeg, reduceCtorEq, resV, resAll, ARes.ev, LV.flat, ite_true, ite_false, exists_eq_left', exists_eq_left, keyOf, implies_true, fillC, capOf]
    refine callR_of (g_FirstFewest la'.has lb'.has lc'.has l1 l2 l3) ?_
    rintro _ N9 ⟨g9, rfl, hg9, _, hp9⟩
    have hp79 : Pre N7 (N9 ++ [some (((firstFew x y z tp fr sd).getD Hp.none).row g9)]) := (hp8.trans hp9).trans (Pre.app _ _)
    have w9 := w7.pre hp79
    have g9' := g7.pre hp79
    have hg9' := hg9.pre (Pre.app N9 [some (((firstFew x y z tp fr sd).getD Hp.none).row g9)])
    simp (disch := omega) only [w9.cells, (Live.new (M := N9) (b := ((firstFew x y z tp fr sd).getD Hp.none).row g9)).cells, ↓SXd, SXu, slBounds, ↓sop, ↓aop, ↓reduceIte, LV.cells, AOp.dst, LV.I, LV.B, LV.U, LV.S, LV.nil, Nat.reduceEqDiff, Nat.reduceAdd, Nat.reduceMul, Nat.reduceSub, Nat.reduceLeDiff, Nat.reduceBEq, Nat.reduceDiv, Nat.reduceMod, Int.reduceToNat, Int.reduceLT, Int.reduceLE, Int.reduceAdd, Int.reduceSub, Int.reduceMul, Int.reduceEq, Int.reduceNeg, reduceCtorEq, resV, resAll, ARes.ev, LV.flat, ite_true, ite_false, exists_eq_left', exists_eq_left, keyOf, implies_true, fillC, capOf]
    refine callK_of (heqR hg9'.v (hw7.pre hp79).v) ?_
    simp (disch := omega) only [g9'.cells, ↓SXd, SXu, slBounds, ↓sop, ↓aop, ↓reduceIte, LV.cells, AOp.dst, LV.I, LV.B, LV.U, LV.S, LV.nil, Nat.reduceEqDiff, Nat.reduceAdd, Nat.reduceMul, Nat.reduceSub, Nat.reduceLeDiff, Nat.reduceBEq, Nat.reduceDiv, Nat.reduceMod, Int.reduceToNat, Int.reduceLT, Int.reduceLE, Int.reduceAdd, Int.reduceSub, Int.reduceMul, Int.reduceEq, Int.reduceNeg, reduceCtorEq, resV, resAll, ARes.ev, LV.flat, ite_true, ite_false, exists_eq_left', exists_eq_left, keyOf, implies_true, fillC, capOf]
    refine callK_of (h_heldHeap (hg7.pre hp79).v hrl (by omega)) ?_
    simp (disch := omega) only [hk2, ↓SXd, SXu, slBounds, ↓sop, ↓aop, ↓reduceIte, LV.cells, AOp.dst, LV.I, LV.B, LV.U, LV.S, LV.nil, Nat.reduceEqDiff, Nat.reduceAdd, Nat.reduceMul, Nat.reduceSub, Nat.reduceLeDiff, Nat.reduceBEq, Nat.reduceDiv, Nat.reduceMod, Int.reduceToNat, Int.reduceLT, Int.reduceLE, Int.reduceAdd, Int.reduceSub, Int.reduceMul, Int.reduceEq, Int.reduceNeg, reduceCtorEq, resV, resAll, ARes.ev, LV.flat, ite_true, ite_false, exists_eq_left', exists_eq_left, keyOf, implies_true, fillC, capOf]
    rfl
end Go.Ab

/- From the abstract machine to a row: a law that is called with what came in. -/
namespace Go.Ab
open Go Go.RowKit

/-- A memory of which nothing is ours. -/
def NoOwn (M : Mem) : Prop := ∀ t b, Live M t b → b.isOwn = false

theorem law_callsR {P : Program} {f : FuncId} {args : List LV} {M : Mem} {b : Bool} {G : Gh} {w : World} {xs : List Value} (hc : CallsR P f args M fun v _ => v = .B b) (hi : Inv G M w) (hn : NoOwn M) (hx : All2 (VR G) args xs) :
    Calls P f xs.toArray w fun e w' => e = .returned (.bool b) ∧ Below w.heap.size w w' := by
  refine (hc.2 G w xs hi hx).mono ?_
  rintro e w' ⟨v, N, x, G', rfl, rfl, h1, h2, h3⟩
  refine ⟨by rw [(vr_val h1).1], h3.os, h3.tape, h3.output, h3.size, fun k hk => h3.keep k hk ?_⟩
  rintro ⟨t, blk, β, hl, ho, _⟩
  rw [hn t blk hl] at ho; cases ho
end Go.Ab

/- A heap that came in, opened. -/
namespace Go.Ab
open Go Go.RowKit

section
variable {H : Type} {enc : TypeId × Value → H} {P : Program} {w : World} {held : Bool}

/-- What the abstract machine is told of a slice of cells that came in. -/
def RowOf (w : World) (a : Option Addr) (len cap : Nat) (cs : List Cell) : Prop :=
  cs.length = len ∧ len ≤ cap ∧ cap ≤ maxLen ∧ (cap = 0 ∨ ∃ b o c e fz, a = some ⟨b, o, none⟩ ∧ w.heap[b]? = some (.cells c e fz) ∧ ∀ i, i < len → ∀ j v, (cs.getD i default).row[j]? = some (.I v) → c[o + (i * 3 + j)]? = some (.int .i64 v))

theorem cell_heap {a : Addr} {v : Value} (h : w.cell? a = some v) : ∃ b o c e fz, a = ⟨b, o, none⟩ ∧ w.heap[b]? = some (.cells c e fz) ∧ c[o]? = some v := by
  unfold World.cell? at h
  split at h
  · rename_i c e fz hh
    split at h
    · cases h
    · rename_i hs
      obtain ⟨b, o, s⟩ := a
      cases s with
      | some s => simp at hs
      | none => exact ⟨b, o, c, e, fz, rfl, hh, h⟩
  · cases h

end

/-- A row that came in is laid into the abstract memory, to be read. -/
theorem Inv.addRow {G : Gh} {M : Mem} {w : World} (hi : Inv G M w) (hno : NoOwn M) {a : Option Addr} {len cap esz : Nat} {ls : List LV} (hl : len ≤ cap) (hll : ls.length ≤ cap * esz)
    (h : (cap = 0 ∧ ls = []) ∨ ∃ b o c e fz, a = some ⟨b, o, none⟩ ∧ w.heap[b]? = some (.cells c e fz) ∧ ∀ j l, ls[j]? = some l → ∃ x, c[o + j]? = some x ∧ VR1 G l x) :
    ∃ G', Ext G G' ∧ Inv G' (M ++ [some (.row ls false esz)]) w ∧ NoOwn (M ++ [some (.row ls false esz)]) ∧ VR1 G' (.ref M.length 0 len) (.slice a len cap) := by
  obtain ⟨β, hβ, hv⟩ : ∃ β : Base, (∀ G' : Gh, Ext G G' → EmbB G' w (.row ls false esz) β) ∧ (∀ G' : Gh, G' M.length = some β → VR1 G' (.ref M.length 0 len) (.slice a len cap)) := by
    rcases h with ⟨rfl, rfl⟩ | ⟨b, o, c, e, fz, rfl, hh, hc⟩
    · refine ⟨⟨0, 0, esz, 0, true⟩, fun G' _ => ⟨rfl, .inl ⟨rfl, rfl⟩⟩, fun G' hg => ⟨_, hg, a, 0, rfl, .inl ⟨by omega, rfl⟩⟩⟩
    · refine ⟨⟨b, o, esz, cap * esz, false⟩, fun G' hx => ⟨rfl, .inr ⟨rfl, c, e, fz, hh, (fun h => by cases h), hll, fun j l hj => ?_⟩⟩, fun G' hg => ⟨_, hg, _, cap, rfl, .inr ⟨rfl, rfl, hl, by simp⟩⟩⟩
      obtain ⟨x, h1, h2⟩ := hc j l hj
      exact ⟨x, h1, h2.ext hx⟩
  have hx : Ext G (G.put M.length β) := Gh.put_ext (hi.top _ (Nat.le_refl _))
  have hat : (G.put M.length β) M.length = some β := by simp [Gh.put]
  have hno' : NoOwn (M ++ [some (.row ls false esz)]) := fun t b hb => by
    rcases live_push hb with ⟨_, h1⟩ | ⟨_, rfl⟩
    · exact hno t b h1
    · rfl
  refine ⟨G.put M.length β, hx, ⟨fun t b hb => ?_, fun t t' b b' γ γ' _ hb _ ho => ?_, fun t ht => ?_⟩, hno', hv _ hat⟩
  · rcases live_push hb with ⟨hlt, h1⟩ | ⟨rfl, rfl⟩
    · obtain ⟨γ, hg, he⟩ := hi.emb t b h1
      exact ⟨γ, hx _ _ hg, he.ext hx fun _ => rfl⟩
    · exact ⟨β, hat, hβ _ hx⟩
  · rw [hno' t b hb] at ho; cases ho
  · simp at ht
    unfold Gh.put
    rw [if_neg (by omega)]
    exact hi.top t (by omega)

theorem Inv.none (w : World) : Inv (fun _ => Option.none) [] w := ⟨fun t b h => by unfold Live at h; simp at h, fun t t' b b' _ _ _ h => by unfold Live at h; simp at h, fun _ _ => rfl⟩
theorem NoOwn.none : NoOwn [] := fun t b h => by unfold Live at h; simp at h

end Go.Ab

/- A list of numbers that came in, opened. -/
namespace Go.Ab
open Go Go.RowKit Go.Joins Go.ChangeShapes Go.WideShapes Go.Deep Go.WideElems Go.Maps

/-- What the abstract machine is told of a slice of numbers that came in. -/
def RowOfI (w : World) (a : Option Addr) (len cap : Nat) (xs : List Int) : Prop :=
  xs.length = len ∧ len ≤ cap ∧ cap ≤ maxLen ∧ (cap = 0 ∨ ∃ b o c e fz, a = some ⟨b, o, none⟩ ∧ w.heap[b]? = some (.cells c e fz) ∧ ∀ i, i < len → c[o + i]? = some (.int .i64 (xs.getD i 0)))

section
variable {H : Type} {enc : TypeId × Value → H} {P : Program} {w : World} {held : Bool}
theorem open_intsI {ts ti : TypeId} {fuel : Nat} {cs : List Value} {x : DataW H × List MemPlace} (hts : P.underlying ts = some (.slice ti)) (hti : P.underlying ti = some (.int .i64)) (hci : P.cellsOf ti = 1)
    (h : DataW.trod enc P w 0 (fun _ => true) held fuel ts cs = some x) : ∃ a len cap xs, cs = [.slice a len cap] ∧ RowOfI w a len cap xs := by
  rcases Go.ChangeShapes.open_ints hts hti hci h with ⟨rfl, _⟩ | ⟨a, len, cap, zs, rfl, _, hl, hm, hz, _, hel, _⟩
  · exact ⟨none, 0, 0, [], rfl, rfl, Nat.le_refl _, Nat.zero_le _, .inl rfl⟩
  · have hzl : zs.length = cap := by simpa using hz
    refine ⟨some a, len, cap, zs.take len, rfl, by simp; omega, hl, hm, ?_⟩
    rcases Nat.eq_zero_or_pos cap with h0 | h0
    · exact .inl h0
    · refine .inr ?_
      have hc0 := hel 0 (by omega)
      obtain ⟨b, o, c, e, fz, ha, hh, _⟩ := cell_heap hc0
      have ha' : a = ⟨b, o, none⟩ := by simpa [Addr.add] using ha
      subst ha'
      refine ⟨b, o, c, e, fz, rfl, hh, fun i hi => ?_⟩
      have hcell := hel i (by omega)
      have hadd : (⟨b, o, none⟩ : Addr).add i = ⟨b, o + i, none⟩ := addr_add _ _ _
      rw [hadd] at hcell
      unfold World.cell? at hcell
      simp only [hh] at hcell
      have hg : (zs.take len).getD i 0 = zs.getD i 0 := by simp [List.getElem?_take, hi]
      rw [hg]
      simpa using hcell
end

theorem Inv.addInts {G : Gh} {M : Mem} {w : World} (hi : Inv G M w) (hno : NoOwn M) {a : Option Addr} {len cap : Nat} {xs : List Int} (h : RowOfI w a len cap xs) :
    ∃ G', Ext G G' ∧ Inv G' (M ++ [some (.row (intL xs) false 1)]) w ∧ NoOwn (M ++ [some (.row (intL xs) false 1)]) ∧ VR1 G' (.ref M.length 0 len) (.slice a len cap) := by
  obtain ⟨h1, h2, h3, h4⟩ := h
  refine hi.addRow hno h2 (by rw [intL_len]; omega) ?_
  rcases h4 with h0 | ⟨b, o, c, e, fz, ha, hh, hc⟩
  · refine .inl ⟨h0, ?_⟩
    have : xs = [] := List.eq_nil_of_length_eq_zero (by omega)
    rw [this]; rfl
  · refine .inr ⟨b, o, c, e, fz, ha, hh, fun j l hj => ?_⟩
    have hjl : j < xs.length := by
      rw [← intL_len]
      rcases Nat.lt_or_ge j (intL xs).length with h | h
      · exact h
      · rw [List.getElem?_eq_none h] at hj; cases hj
    rw [intL_get hjl] at hj
    cases hj
    exact ⟨_, hc j (by omega), rfl, rfl⟩

theorem array6 {α : Type} {cs : Array α} (h : cs.size = 6) : ∃ c0 c1 c2 c3 c4 c5, cs = #[c0, c1, c2, c3, c4, c5] := by
  obtain ⟨l⟩ := cs
  match l, h with
  | [c0, c1, c2, c3, c4, c5], _ => exact ⟨c0, c1, c2, c3, c4, c5, rfl⟩
section
variable {H : Type} {enc : TypeId × Value → H} {P : Program} {w : World} {base : Nat} {spare : Nat → Bool} {held : Bool}
/-- A struct of six fields, read. -/
theorem trod_struct6 {t : TypeId} {f0 f1 f2 f3 f4 f5 : Field} {fuel : Nat} {cs : List Value} {x : DataW H × List MemPlace} (ht : P.underlying t = some (.struct #[f0, f1, f2, f3, f4, f5])) (h : DataW.trod enc P w base spare held fuel t cs = some x) :
    ∃ y0 y1 y2 y3 y4 y5 n, x = (.agg [y0.1, y1.1, y2.1, y3.1, y4.1, y5.1], y0.2 ++ (y1.2 ++ (y2.2 ++ (y3.2 ++ (y4.2 ++ (y5.2)))))) ∧ cs.length = P.cellsOf t ∧ DataW.trod enc P w base spare held n f0.type ((cs.drop f0.offset).take (P.cellsOf f0.type)) = some y0 ∧ DataW.trod enc P w base spare held n f1.type ((cs.drop f1.offset).take (P.cellsOf f1.type)) = some y1 ∧ DataW.trod enc P w base spare held n f2.type ((cs.drop f2.offset).take (P.cellsOf f2.type)) = some y2 ∧ DataW.trod enc P w base spare held n f3.type ((cs.drop f3.offset).take (P.cellsOf f3.type)) = some y3 ∧ DataW.trod enc P w base spare held n f4.type ((cs.drop f4.offset).take (P.cellsOf f4.type)) = some y4 ∧ DataW.trod enc P w base spare held n f5.type ((cs.drop f5.offset).take (P.cellsOf f5.type)) = some y5 := by
  obtain ⟨xs, n, _, rfl, hl, hlen, hf⟩ := DataW.trod_struct ht h
  match xs, hlen with
  | [y0, y1, y2, y3, y4, y5], _ => exact ⟨y0, y1, y2, y3, y4, y5, n, by simp, hl, by simpa using hf 0 f0 rfl, by simpa using hf 1 f1 rfl, by simpa using hf 2 f2 rfl, by simpa using hf 3 f3 rfl, by simpa using hf 4 f4 rfl, by simpa using hf 5 f5 rfl⟩
/-- A struct of six one-cell fields by value, opened. -/
theorem open_agg6 {r : Go.Reach} {b0 : Nat} {t : TypeId} {f0 f1 f2 f3 f4 f5 : Field} {v : Value} {d : DataW H} {p : List MemPlace} (hs : P.underlying t = some (.struct #[f0, f1, f2, f3, f4, f5])) (hone : oneCellFields P #[f0, f1, f2, f3, f4, f5] = true) (hC : P.cellsOf t = 6)
    (hv : Value.okWide P w r b0 t v) (h : DataW.Trod enc P w base spare held t v d p) :
    ∃ (v0 v1 v2 v3 v4 v5 : Value) (y0 y1 y2 y3 y4 y5 : DataW H × List MemPlace) (n : Nat), v = .agg #[v0, v1, v2, v3, v4, v5] ∧ d = .agg [y0.1, y1.1, y2.1, y3.1, y4.1, y5.1] ∧ p = y0.2 ++ (y1.2 ++ (y2.2 ++ (y3.2 ++ (y4.2 ++ (y5.2))))) ∧
      DataW.trod enc P w base spare held n f0.type [v0] = some y0 ∧ DataW.trod enc P w base spare held n f1.type [v1] = some y1 ∧ DataW.trod enc P w base spare held n f2.type [v2] = some y2 ∧ DataW.trod enc P w base spare held n f3.type [v3] = some y3 ∧ DataW.trod enc P w base spare held n f4.type [v4] = some y4 ∧ DataW.trod enc P w base spare held n f5.type [v5] = some y5 := by
  obtain ⟨cs, rfl, hsz⟩ := okWide_struct hs hv
  obtain ⟨c0, c1, c2, c3, c4, c5, rfl⟩ := array6 (hsz.trans hC)
  obtain ⟨fuel, hf⟩ := h
  obtain ⟨y0, y1, y2, y3, y4, y5, n, hx, _, h0, h1, h2, h3, h4, h5⟩ := trod_struct6 hs hf
  obtain ⟨o0, k0⟩ := hone_of hone 0 f0 rfl
  obtain ⟨o1, k1⟩ := hone_of hone 1 f1 rfl
  obtain ⟨o2, k2⟩ := hone_of hone 2 f2 rfl
  obtain ⟨o3, k3⟩ := hone_of hone 3 f3 rfl
  obtain ⟨o4, k4⟩ := hone_of hone 4 f4 rfl
  obtain ⟨o5, k5⟩ := hone_of hone 5 f5 rfl
  simp only [Prod.mk.injEq] at hx
  exact ⟨c0, c1, c2, c3, c4, c5, y0, y1, y2, y3, y4, y5, n, rfl, hx.1, hx.2, by simpa [Value.cells, o0, k0] using h0, by simpa [Value.cells, o1, k1] using h1, by simpa [Value.cells, o2, k2] using h2, by simpa [Value.cells, o3, k3] using h3, by simpa [Value.cells, o4, k4] using h4, by simpa [Value.cells, o5, k5] using h5⟩
end
end Go.Ab
