/- Parts of the proof of FnExactFewestSwitchesSaid: Ko Kw C_Kx K_Kx Kv Kx Ky LFewestSwitches. -/
import Derived.Test.YtggnfklcgopflaaA9
import Derived.Test.YtggnfklcgopflaaA4
import Derived.Test.YtggnfklcgopflaaA8
import Derived.Test.YtggnfklcgopflaaA7
import Derived.Test.YtggnfklcgopflaaA5
import Derived.Test.YtggnfklcgopflaaA3
import Derived.Test.YtggnfklcgopflaaProg
import Derived.KernelRfl
import Derived.Test.YtggnfklcgopflaaA6
set_option linter.all false
/- Contracts: whether heaps look alike in two directions, both sides. -/
namespace Go.Ab
open Go
set_option linter.unusedSimpArgs false
set_option linter.unusedVariables false
set_option maxRecDepth 20000

section
variable {x y z : Int} {t t' a b : Nat} {cs ds : List Cell} {M : Mem} (h : Tri M t 0 cs) (h' : Tri M t' 0 ds) (hH : HeapOK x y z cs) (hH' : HeapOK x y z ds) (ha : a < 3) (hb : b < 3)
include h h' hH hH' ha hb
theorem h_l4Alike : CallsTo PG F.spec_l4Alike [.agg [.I x, .I y, .I z, .ref t 0 cs.length], .agg [.I x, .I y, .I z, .ref t' 0 ds.length], .I a, .I b] M (.B (decide (viewL x y z a cs = viewL x y z a ds ∧ viewL x y z b cs = viewL x y z b ds))) M := by
  have hS := hH.1
  have la := lines_le hS ha
  have lb := lines_le hS hb
  have v1 := viewL_len (x := x) (y := y) (z := z) (d := a) (cs := cs)
  have v2 := viewL_len (x := x) (y := y) (z := z) (d := a) (cs := ds)
  have v3 := viewL_len (x := x) (y := y) (z := z) (d := b) (cs := cs)
  have v4 := viewL_len (x := x) (y := y) (z := z) (d := b) (cs := ds)
  refine calls_run K.spec_l4Alike rfl ?_
  simp (disch := omega) only [C.spec_l4Alike, ↓SXd, SXu, slBounds, ↓sop, ↓aop, ↓reduceIte, LV.cells, AOp.dst, LV.I, LV.B, LV.U, LV.S, LV.nil, Nat.reduceEqDiff, Nat.reduceAdd, Nat.reduceMul, Nat.reduceSub, Nat.reduceLeDiff, Nat.reduceBEq, Nat.reduceDiv, Nat.reduceMod, Int.reduceToNat, Int.reduceLT, Int.reduceLE, Int.reduceAdd, Int.reduceSub, Int.reduceMul, Int.reduceEq, Int.reduceNeg, reduceCtorEq, resV, resAll, ARes.ev, LV.flat, ite_true, ite_false, exists_eq_left', exists_eq_left, keyOf, implies_true, fillC, capOf]
  refine callK_of (h_l2View h.app hH ha) ?_
  simp (disch := omega) only [↓SXd, SXu, slBounds, ↓sop, ↓aop, ↓reduceIte, LV.cells, AOp.dst, LV.I, LV.B, LV.U, LV.S, LV.nil, Nat.reduceEqDiff, Nat.reduceAdd, Nat.reduceMul, Nat.reduceSub, Nat.reduceLeDiff, Nat.reduceBEq, Nat.reduceDiv, Nat.reduceMod, Int.reduceToNat, Int.reduceLT, Int.reduceLE, Int.reduceAdd, Int.reduceSub, Int.reduceMul, Int.reduceEq, Int.reduceNeg, reduceCtorEq, resV, resAll, ARes.ev, LV.flat, ite_true, ite_false, exists_eq_left', exists_eq_left, keyOf, implies_true, fillC, capOf]
  refine callK_of (h_l2View h'.app hH' ha) ?_
  simp (disch := omega) only [↓SXd, SXu, slBounds, ↓sop, ↓aop, ↓reduceIte, LV.cells, AOp.dst, LV.I, LV.B, LV.U, LV.S, LV.nil, Nat.reduceEqDiff, Nat.reduceAdd, Nat.reduceMul, Nat.reduceSub, Nat.reduceLeDiff, Nat.reduceBEq, Nat.reduceDiv, Nat.reduceMod, Int.reduceToNat, Int.reduceLT, Int.reduceLE, Int.reduceAdd, Int.reduceSub, Int.reduceMul, Int.reduceEq, Int.reduceNeg, reduceCtorEq, resV, resAll, ARes.ev, LV.flat, ite_true, ite_false, exists_eq_left', exists_eq_left, keyOf, implies_true, fillC, capOf]
  refine callK_of (h_l1Same (Live.newj (j := 2) (b := .row (intL (viewL x y z a cs)) true 1) rfl).has (Live.newj (j := 3) (b := .row (intL (viewL x y z a ds)) true 1) rfl).has (by omega) (by omega)) ?_
  by_cases e1 : viewL x y z a cs = viewL x y z a ds
  · rw [decide_eq_true e1]
    simp (disch := omega) only [↓SXd, SXu, slBounds, ↓sop, ↓aop, ↓reduceIte, LV.cells, AOp.dst, LV.I, LV.B, LV.U, LV.S, LV.nil, Nat.reduceEqDiff, Nat.reduceAdd, Nat.reduceMul, Nat.reduceSub, Nat.reduceLeDiff, Nat.reduceBEq, Nat.reduceDiv, Nat.reduceMod, Int.reduceToNat, Int.reduceLT, Int.reduceLE, Int.reduceAdd, Int.reduceSub, Int.reduceMul, Int.reduceEq, Int.reduceNeg, reduceCtorEq, resV, resAll, ARes.ev, LV.flat, ite_true, ite_false, exists_eq_left', exists_eq_left, keyOf, implies_true, fillC, capOf]
    refine callK_of (h_l2View h.app hH hb) ?_
    simp (disch := omega) only [↓SXd, SXu, slBounds, ↓sop, ↓aop, ↓reduceIte, LV.cells, AOp.dst, LV.I, LV.B, LV.U, LV.S, LV.nil, Nat.reduceEqDiff, Nat.reduceAdd, Nat.reduceMul, Nat.reduceSub, Nat.reduceLeDiff, Nat.reduceBEq, Nat.reduceDiv, Nat.reduceMod, Int.reduceToNat, Int.reduceLT, Int.reduceLE, Int.reduceAdd, Int.reduceSub, Int.reduceMul, Int.reduceEq, Int.reduceNeg, reduceCtorEq, resV, resAll, ARes.ev, LV.flat, ite_true, ite_false, exists_eq_left', exists_eq_left, keyOf, implies_true, fillC, capOf]
    refine callK_of (h_l2View h'.app hH' hb) ?_
    simp (disch := omega) only [↓SXd, SXu, slBounds, ↓sop, ↓aop, ↓reduceIte, LV.cells, AOp.dst, LV.I, LV.B, LV.U, LV.S, LV.nil, Nat.reduceEqDiff, Nat.reduceAdd, Nat.reduceMul, Nat.reduceSub, Nat.reduceLeDiff, Nat.reduceBEq, Nat.reduceDiv, Nat.reduceMod, Int.reduceToNat, Int.reduceLT, Int.reduceLE, Int.reduceAdd, Int.reduceSub, Int.reduceMul, Int.reduceEq, Int.reduceNeg, reduceCtorEq, resV, resAll, ARes.ev, LV.flat, ite_true, ite_false, exists_eq_left', exists_eq_left, keyOf, implies_true, fillC, capOf]
    refine callK_of (h_l1Same (Live.newj (j := 4) (b := .row (intL (viewL x y z b cs)) true 1) rfl).has (Live.newj (j := 5) (b := .row (intL (viewL x y z b ds)) true 1) rfl).has (by omega) (by omega)) ?_
    rw [show decide (viewL x y z a cs = viewL x y z a ds ∧ viewL x y z b cs = viewL x y z b ds) = decide (viewL x y z b cs = viewL x y z b ds) from decide_eq_decide.2 ⟨fun h => h.2, fun h => ⟨e1, h⟩⟩]
    simp (disch := omega) only [↓SXd, SXu, slBounds, ↓sop, ↓aop, ↓reduceIte, LV.cells, AOp.dst, LV.I, LV.B, LV.U, LV.S, LV.nil, Nat.reduceEqDiff, Nat.reduceAdd, Nat.reduceMul, Nat.reduceSub, Nat.reduceLeDiff, Nat.reduceBEq, Nat.reduceDiv, Nat.reduceMod, Int.reduceToNat, Int.reduceLT, Int.reduceLE, Int.reduceAdd, Int.reduceSub, Int.reduceMul, Int.reduceEq, Int.reduceNeg, reduceCtorEq, resV, resAll, ARes.ev, LV.flat, ite_true, ite_false, exists_eq_left', exists_eq_left, keyOf, implies_true, fillC, capOf]
    exact cmp_drop rfl
  · rw [decide_eq_false e1, show decide (viewL x y z a cs = viewL x y z a ds ∧ viewL x y z b cs = viewL x y z b ds) = false from decide_eq_false fun h => e1 h.1]
    simp (disch := omega) only [↓SXd, SXu, slBounds, ↓sop, ↓aop, ↓reduceIte, LV.cells, AOp.dst, LV.I, LV.B, LV.U, LV.S, LV.nil, Nat.reduceEqDiff, Nat.reduceAdd, Nat.reduceMul, Nat.reduceSub, Nat.reduceLeDiff, Nat.reduceBEq, Nat.reduceDiv, Nat.reduceMod, Int.reduceToNat, Int.reduceLT, Int.reduceLE, Int.reduceAdd, Int.reduceSub, Int.reduceMul, Int.reduceEq, Int.reduceNeg, reduceCtorEq, resV, resAll, ARes.ev, LV.flat, ite_true, ite_false, exists_eq_left', exists_eq_left, keyOf, implies_true, fillC, capOf]
    exact cmp_drop rfl
theorem g_alike : CallsTo PG F.impl_alike [.agg [.I x, .I y, .I z, .ref t 0 cs.length], .agg [.I x, .I y, .I z, .ref t' 0 ds.length], .I a, .I b] M (.B (decide (viewL x y z a cs = viewL x y z a ds ∧ viewL x y z b cs = viewL x y z b ds))) M := by
  have hS := hH.1
  have key : ∀ {d p p' : Nat} {N : Mem}, d < 3 → Pre M N → Live N p (.row [.I x, .I y, .I z, .ref t 0 cs.length] true 0) → Live N p' (.row [.I x, .I y, .I z, .ref t' 0 ds.length] true 0) → CallsTo PG F.impl_alike_1 [.I d, .ptr p 0, .ptr p' 0] N (.B (decide (viewL x y z d cs = viewL x y z d ds))) N := fun {d p p' N} hd hp b1 b2 => by
    have la := lines_le hS hd
    have v1 := viewL_len (x := x) (y := y) (z := z) (d := d) (cs := cs)
    have v2 := viewL_len (x := x) (y := y) (z := z) (d := d) (cs := ds)
    have hpk : pick x y z (fun c => decide (c ∈ cs)) = cs := hH.pick.symm
    have hpk' : pick x y z (fun c => decide (c ∈ ds)) = ds := hH'.pick.symm
    have hb1 := b1.lt
    have hb2 := b2.lt
    refine calls_run K.impl_alike_1 rfl ?_
    simp (disch := omega) only [C.impl_alike_1, b1.cells, b2.cells, ↓SXd, SXu, slBounds, ↓sop, ↓aop, ↓reduceIte, LV.cells, AOp.dst, LV.I, LV.B, LV.U, LV.S, LV.nil, Nat.reduceEqDiff, Nat.reduceAdd, Nat.reduceMul, Nat.reduceSub, Nat.reduceLeDiff, Nat.reduceBEq, Nat.reduceDiv, Nat.reduceMod, Int.reduceToNat, Int.reduceLT, Int.reduceLE, Int.reduceAdd, Int.reduceSub, Int.reduceMul, Int.reduceEq, Int.reduceNeg, reduceCtorEq, resV, resAll, ARes.ev, LV.flat, ite_true, ite_false, exists_eq_left', exists_eq_left, keyOf, implies_true, fillC, capOf]
    refine callK_of (g_box) ?_
    simp (disch := omega) only [↓SXd, SXu, slBounds, ↓sop, ↓aop, ↓reduceIte, LV.cells, AOp.dst, LV.I, LV.B, LV.U, LV.S, LV.nil, Nat.reduceEqDiff, Nat.reduceAdd, Nat.reduceMul, Nat.reduceSub, Nat.reduceLeDiff, Nat.reduceBEq, Nat.reduceDiv, Nat.reduceMod, Int.reduceToNat, Int.reduceLT, Int.reduceLE, Int.reduceAdd, Int.reduceSub, Int.reduceMul, Int.reduceEq, Int.reduceNeg, reduceCtorEq, resV, resAll, ARes.ev, LV.flat, ite_true, ite_false, exists_eq_left', exists_eq_left, keyOf, implies_true, fillC, capOf]
    refine callK_of (g_cubes (h.pre hp) (by have := hH.len; omega) hS (fun c hc => hH.mem hc)) ?_
    simp (disch := omega) only [↓SXd, SXu, slBounds, ↓sop, ↓aop, ↓reduceIte, LV.cells, AOp.dst, LV.I, LV.B, LV.U, LV.S, LV.nil, Nat.reduceEqDiff, Nat.reduceAdd, Nat.reduceMul, Nat.reduceSub, Nat.reduceLeDiff, Nat.reduceBEq, Nat.reduceDiv, Nat.reduceMod, Int.reduceToNat, Int.reduceLT, Int.reduceLE, Int.reduceAdd, Int.reduceSub, Int.reduceMul, Int.reduceEq, Int.reduceNeg, reduceCtorEq, resV, resAll, ARes.ev, LV.flat, ite_true, ite_false, exists_eq_left', exists_eq_left, keyOf, implies_true, fillC, capOf]
    have hgv := g_view (x := x) (y := y) (z := z) (d := d) (p := fun c => decide (c ∈ cs)) (M := N) hS hd
    rw [hpk] at hgv
    refine callK_of (hgv) ?_
    simp (disch := omega) only [↓SXd, SXu, slBounds, ↓sop, ↓aop, ↓reduceIte, LV.cells, AOp.dst, LV.I, LV.B, LV.U, LV.S, LV.nil, Nat.reduceEqDiff, Nat.reduceAdd, Nat.reduceMul, Nat.reduceSub, Nat.reduceLeDiff, Nat.reduceBEq, Nat.reduceDiv, Nat.reduceMod, Int.reduceToNat, Int.reduceLT, Int.reduceLE, Int.reduceAdd, Int.reduceSub, Int.reduceMul, Int.reduceEq, Int.reduceNeg, reduceCtorEq, resV, resAll, ARes.ev, LV.flat, ite_true, ite_false, exists_eq_left', exists_eq_left, keyOf, implies_true, fillC, capOf]
    refine callK_of (g_box) ?_
    simp (disch := omega) only [↓SXd, SXu, slBounds, ↓sop, ↓aop, ↓reduceIte, LV.cells, AOp.dst, LV.I, LV.B, LV.U, LV.S, LV.nil, Nat.reduceEqDiff, Nat.reduceAdd, Nat.reduceMul, Nat.reduceSub, Nat.reduceLeDiff, Nat.reduceBEq, Nat.reduceDiv, Nat.reduceMod, Int.reduceToNat, Int.reduceLT, Int.reduceLE, Int.reduceAdd, Int.reduceSub, Int.reduceMul, Int.reduceEq, Int.reduceNeg, reduceCtorEq, resV, resAll, ARes.ev, LV.flat, ite_true, ite_false, exists_eq_left', exists_eq_left, keyOf, implies_true, fillC, capOf]
    refine callK_of (g_cubes (h'.pre hp).app (by have := hH'.len; omega) hS (fun c hc => hH'.mem hc)) ?_
    simp (disch := omega) only [↓SXd, SXu, slBounds, ↓sop, ↓aop, ↓reduceIte, LV.cells, AOp.dst, LV.I, LV.B, LV.U, LV.S, LV.nil, Nat.reduceEqDiff, Nat.reduceAdd, Nat.reduceMul, Nat.reduceSub, Nat.reduceLeDiff, Nat.reduceBEq, Nat.reduceDiv, Nat.reduceMod, Int.reduceToNat, Int.reduceLT, Int.reduceLE, Int.reduceAdd, Int.reduceSub, Int.reduceMul, Int.reduceEq, Int.reduceNeg, reduceCtorEq, resV, resAll, ARes.ev, LV.flat, ite_true, ite_false, exists_eq_left', exists_eq_left, keyOf, implies_true, fillC, capOf]
    have hgv2 := g_view (x := x) (y := y) (z := z) (d := d) (p := fun c => decide (c ∈ ds)) (M := N ++ [some (.row (intL (viewL x y z d cs)) true 1)]) hS hd
    rw [hpk'] at hgv2
    refine callK_of (hgv2) ?_
    simp (disch := omega) only [↓SXd, SXu, slBounds, ↓sop, ↓aop, ↓reduceIte, LV.cells, AOp.dst, LV.I, LV.B, LV.U, LV.S, LV.nil, Nat.reduceEqDiff, Nat.reduceAdd, Nat.reduceMul, Nat.reduceSub, Nat.reduceLeDiff, Nat.reduceBEq, Nat.reduceDiv, Nat.reduceMod, Int.reduceToNat, Int.reduceLT, Int.reduceLE, Int.reduceAdd, Int.reduceSub, Int.reduceMul, Int.reduceEq, Int.reduceNeg, reduceCtorEq, resV, resAll, ARes.ev, LV.flat, ite_true, ite_false, exists_eq_left', exists_eq_left, keyOf, implies_true, fillC, capOf]
    refine callK_of (g_equalI (Live.newj (j := 0) (b := .row (intL (viewL x y z d cs)) true 1) rfl).has (Live.newj (j := 1) (b := .row (intL (viewL x y z d ds)) true 1) rfl).has (by omega) (by omega)) ?_
    simp (disch := omega) only [↓SXd, SXu, slBounds, ↓sop, ↓aop, ↓reduceIte, LV.cells, AOp.dst, LV.I, LV.B, LV.U, LV.S, LV.nil, Nat.reduceEqDiff, Nat.reduceAdd, Nat.reduceMul, Nat.reduceSub, Nat.reduceLeDiff, Nat.reduceBEq, Nat.reduceDiv, Nat.reduceMod, Int.reduceToNat, Int.reduceLT, Int.reduceLE, Int.reduceAdd, Int.reduceSub, Int.reduceMul, Int.reduceEq, Int.reduceNeg, reduceCtorEq, resV, resAll, ARes.ev, LV.flat, ite_true, ite_false, exists_eq_left', exists_eq_left, keyOf, implies_true, fillC, capOf]
    exact cmp_drop rfl
  refine calls_run K.impl_alike rfl ?_
  simp (disch := omega) only [C.impl_alike, ↓SXd, SXu, slBounds, ↓sop, ↓aop, ↓reduceIte, LV.cells, AOp.dst, LV.I, LV.B, LV.U, LV.S, LV.nil, Nat.reduceEqDiff, Nat.reduceAdd, Nat.reduceMul, Nat.reduceSub, Nat.reduceLeDiff, Nat.reduceBEq, Nat.reduceDiv, Nat.reduceMod, Int.reduceToNat, Int.reduceLT, Int.reduceLE, Int.reduceAdd, Int.reduceSub, Int.reduceMul, Int.reduceEq, Int.reduceNeg, reduceCtorEq, resV, resAll, ARes.ev, LV.flat, ite_true, ite_false, exists_eq_left', exists_eq_left, keyOf, implies_true, fillC, capOf]
  refine callK_of (key ha (Pre.app _ _) Live.new (Live.newj (j := 1) rfl)) ?_
  by_cases e1 : viewL x y z a cs = viewL x y z a ds
  · rw [decide_eq_true e1]
    simp (disch := omega) only [↓SXd, SXu, slBounds, ↓sop, ↓aop, ↓reduceIte, LV.cells, AOp.dst, LV.I, LV.B, LV.U, LV.S, LV.nil, Nat.reduceEqDiff, Nat.reduceAdd, Nat.reduceMul, Nat.reduceSub, Nat.reduceLeDiff, Nat.reduceBEq, Nat.reduceDiv, Nat.reduceMod, Int.reduceToNat, Int.reduceLT, Int.reduceLE, Int.reduceAdd, Int.reduceSub, Int.reduceMul, Int.reduceEq, Int.reduceNeg, reduceCtorEq, resV, resAll, ARes.ev, LV.flat, ite_true, ite_false, exists_eq_left', exists_eq_left, keyOf, implies_true, fillC, capOf]
    refine callK_of (key hb (Pre.app _ _) Live.new (Live.newj (j := 1) rfl)) ?_
    rw [show decide (viewL x y z a cs = viewL x y z a ds ∧ viewL x y z b cs = viewL x y z b ds) = decide (viewL x y z b cs = viewL x y z b ds) from decide_eq_decide.2 ⟨fun h => h.2, fun h => ⟨e1, h⟩⟩]
    simp (disch := omega) only [↓SXd, SXu, slBounds, ↓sop, ↓aop, ↓reduceIte, LV.cells, AOp.dst, LV.I, LV.B, LV.U, LV.S, LV.nil, Nat.reduceEqDiff, Nat.reduceAdd, Nat.reduceMul, Nat.reduceSub, Nat.reduceLeDiff, Nat.reduceBEq, Nat.reduceDiv, Nat.reduceMod, Int.reduceToNat, Int.reduceLT, Int.reduceLE, Int.reduceAdd, Int.reduceSub, Int.reduceMul, Int.reduceEq, Int.reduceNeg, reduceCtorEq, resV, resAll, ARes.ev, LV.flat, ite_true, ite_false, exists_eq_left', exists_eq_left, keyOf, implies_true, fillC, capOf]
    exact cmp_drop rfl
  · rw [decide_eq_false e1, show decide (viewL x y z a cs = viewL x y z a ds ∧ viewL x y z b cs = viewL x y z b ds) = false from decide_eq_false fun h => e1 h.1]
    simp (disch := omega) only [↓SXd, SXu, slBounds, ↓sop, ↓aop, ↓reduceIte, LV.cells, AOp.dst, LV.I, LV.B, LV.U, LV.S, LV.nil, Nat.reduceEqDiff, Nat.reduceAdd, Nat.reduceMul, Nat.reduceSub, Nat.reduceLeDiff, Nat.reduceBEq, Nat.reduceDiv, Nat.reduceMod, Int.reduceToNat, Int.reduceLT, Int.reduceLE, Int.reduceAdd, Int.reduceSub, Int.reduceMul, Int.reduceEq, Int.reduceNeg, reduceCtorEq, resV, resAll, ARes.ev, LV.flat, ite_true, ite_false, exists_eq_left', exists_eq_left, keyOf, implies_true, fillC, capOf]
    exact cmp_drop rfl
end
end Go.Ab

/- Contracts: the least number of switches between heaps (reference). -/
namespace Go.Ab
open Go
set_option linter.unusedSimpArgs false
set_option linter.unusedVariables false
set_option maxRecDepth 20000

noncomputable def farOf (m n : Nat) (T U : List (List Int)) : Nat := by
  classical
  exact if h : ∃ k, k ≤ 65536 ∧ FarIs m n T U k then h.choose else 0
theorem farOf_eq {m n k : Nat} {T U : List (List Int)} (hk : k ≤ 65536) (h : FarIs m n T U k) : farOf m n T U = k := by
  have hx : ∃ k, k ≤ 65536 ∧ FarIs m n T U k := ⟨k, hk, h⟩
  unfold farOf
  rw [dif_pos hx]
  exact way_least hx.choose_spec.2 h
theorem farOf_le {m n : Nat} {T U : List (List Int)} : farOf m n T U ≤ 65536 := by
  unfold farOf
  split
  · rename_i h; exact h.choose_spec.1
  · omega
section
variable (x y z : Int) (cs ds : List Cell)
noncomputable def farK (d k : Nat) : Int := (farOf (sideOf x y z (dirA d)).toNat (layN x y z d) (layT x y z d cs k) (layT x y z d ds k) : Nat)
def SwOK (x' y' z' a b : Int) : Prop := TwoOK x y z cs a b ∧ Alike x y z cs x' y' z' ds ∧ viewL x y z a.toNat cs = viewL x y z a.toNat ds ∧ viewL x y z b.toNat cs = viewL x y z b.toNat ds
noncomputable def fewSw (x' y' z' a b : Int) : LV := by
  classical
  exact if SwOK x y z cs ds x' y' z' a b then .tup [.I (sN (sideOf x y z (3 - a - b)).toNat (farK x y z cs ds (3 - a - b).toNat)), .B true] else .tup [.I 0, .B false]
end
theorem farK_in {x y z : Int} {cs ds : List Cell} {d : Nat} : ∀ {n : Nat}, 0 ≤ sN n (farK x y z cs ds d) ∧ sN n (farK x y z cs ds d) ≤ 65536 * (n : Int)
  | 0 => by simp [sN]
  | n + 1 => by
    have h1 := farK_in (x := x) (y := y) (z := z) (cs := cs) (ds := ds) (d := d) (n := n)
    have h2 : 0 ≤ farK x y z cs ds d n ∧ farK x y z cs ds d n ≤ 65536 := by
      have := farOf_le (m := (sideOf x y z (dirA d)).toNat) (n := layN x y z d) (T := layT x y z d cs n) (U := layT x y z d ds n)
      unfold farK; omega
    simp only [sN]; omega
theorem h_sFewestSwitches {x y z x' y' z' a b : Int} {t t' : Nat} {w w' : Bool} {cs ds : List Cell} {M : Mem} (h : Live M t (.row (triL cs) w 3)) (hn : cs.length ≤ 1000000000) (h' : Live M t' (.row (triL ds) w' 3)) (hn' : ds.length ≤ 1000000000) :
    CallsR PG F.spec_FewestSwitches [.agg [.I x, .I y, .I z, .ref t 0 cs.length], .agg [.I x', .I y', .I z', .ref t' 0 ds.length], .I a, .I b] M fun v N => v = fewSw x y z cs ds x' y' z' a b ∧ Pre M N := by
  have hTri : Tri M t 0 cs := h.has
  have hTri' : Tri M t' 0 ds := h'.has
  refine callsR_run K.spec_FewestSwitches rfl ?_
  simp (disch := omega) only [C.spec_FewestSwitches, ↓SXd, SXu, slBounds, ↓sop, ↓aop, ↓reduceIte, LV.cells, AOp.dst, LV.I, LV.B, LV.U, LV.S, LV.nil, Nat.reduceEqDiff, Nat.reduceAdd, Nat.reduceMul, Nat.reduceSub, Nat.reduceLeDiff, Nat.reduceBEq, Nat.reduceDiv, Nat.reduceMod, Int.reduceToNat, Int.reduceLT, Int.reduceLE, Int.reduceAdd, Int.reduceSub, Int.reduceMul, Int.reduceEq, Int.reduceNeg, reduceCtorEq, resV, resAll, ARes.ev, LV.flat, ite_true, ite_false, exists_eq_left', exists_eq_left, keyOf, implies_true, fillC, capOf]
  refine callK_of (h_l4Two (Has.app h.has) hn) ?_
  simp (disch := omega) only [↓SXd, SXu, slBounds, ↓sop, ↓aop, ↓reduceIte, LV.cells, AOp.dst, LV.I, LV.B, LV.U, LV.S, LV.nil, Nat.reduceEqDiff, Nat.reduceAdd, Nat.reduceMul, Nat.reduceSub, Nat.reduceLeDiff, Nat.reduceBEq, Nat.reduceDiv, Nat.reduceMod, Int.reduceToNat, Int.reduceLT, Int.reduceLE, Int.reduceAdd, Int.reduceSub, Int.reduceMul, Int.reduceEq, Int.reduceNeg, reduceCtorEq, resV, resAll, ARes.ev, LV.flat, ite_true, ite_false, exists_eq_left', exists_eq_left, keyOf, implies_true, fillC, capOf]
  by_cases hTw : TwoOK x y z cs a b
  rotate_left
  · rw [decide_eq_false hTw]
    simp (disch := omega) only [splice, ↓SXd, SXu, slBounds, ↓sop, ↓aop, ↓reduceIte, LV.cells, AOp.dst, LV.I, LV.B, LV.U, LV.S, LV.nil, Nat.reduceEqDiff, Nat.reduceAdd, Nat.reduceMul, Nat.reduceSub, Nat.reduceLeDiff, Nat.reduceBEq, Nat.reduceDiv, Nat.reduceMod, Int.reduceToNat, Int.reduceLT, Int.reduceLE, Int.reduceAdd, Int.reduceSub, Int.reduceMul, Int.reduceEq, Int.reduceNeg, reduceCtorEq, resV, resAll, ARes.ev, LV.flat, ite_true, ite_false, exists_eq_left', exists_eq_left, keyOf, implies_true, fillC, capOf]
    exact ⟨(if_neg fun e => hTw e.1).symm, Pre.app _ _⟩
  rw [decide_eq_true hTw]
  simp (disch := omega) only [↓SXd, SXu, slBounds, ↓sop, ↓aop, ↓reduceIte, LV.cells, AOp.dst, LV.I, LV.B, LV.U, LV.S, LV.nil, Nat.reduceEqDiff, Nat.reduceAdd, Nat.reduceMul, Nat.reduceSub, Nat.reduceLeDiff, Nat.reduceBEq, Nat.reduceDiv, Nat.reduceMod, Int.reduceToNat, Int.reduceLT, Int.reduceLE, Int.reduceAdd, Int.reduceSub, Int.reduceMul, Int.reduceEq, Int.reduceNeg, reduceCtorEq, resV, resAll, ARes.ev, LV.flat, ite_true, ite_false, exists_eq_left', exists_eq_left, keyOf, implies_true, fillC, capOf]
  refine callK_of (h_l2Alike h.app hn h'.app hn') ?_
  simp (disch := omega) only [↓SXd, SXu, slBounds, ↓sop, ↓aop, ↓reduceIte, LV.cells, AOp.dst, LV.I, LV.B, LV.U, LV.S, LV.nil, Nat.reduceEqDiff, Nat.reduceAdd, Nat.reduceMul, Nat.reduceSub, Nat.reduceLeDiff, Nat.reduceBEq, Nat.reduceDiv, Nat.reduceMod, Int.reduceToNat, Int.reduceLT, Int.reduceLE, Int.reduceAdd, Int.reduceSub, Int.reduceMul, Int.reduceEq, Int.reduceNeg, reduceCtorEq, resV, resAll, ARes.ev, LV.flat, ite_true, ite_false, exists_eq_left', exists_eq_left, keyOf, implies_true, fillC, capOf]
  by_cases hA : Alike x y z cs x' y' z' ds
  rotate_left
  · rw [decide_eq_false hA]
    simp (disch := omega) only [splice, ↓SXd, SXu, slBounds, ↓sop, ↓aop, ↓reduceIte, LV.cells, AOp.dst, LV.I, LV.B, LV.U, LV.S, LV.nil, Nat.reduceEqDiff, Nat.reduceAdd, Nat.reduceMul, Nat.reduceSub, Nat.reduceLeDiff, Nat.reduceBEq, Nat.reduceDiv, Nat.reduceMod, Int.reduceToNat, Int.reduceLT, Int.reduceLE, Int.reduceAdd, Int.reduceSub, Int.reduceMul, Int.reduceEq, Int.reduceNeg, reduceCtorEq, resV, resAll, ARes.ev, LV.flat, ite_true, ite_false, exists_eq_left', exists_eq_left, keyOf, implies_true, fillC, capOf]
    exact ⟨(if_neg fun e => hA e.2.1).symm, Pre.app _ _⟩
  rw [decide_eq_true hA]
  obtain ⟨hH, ha, hb, hab⟩ := id hTw
  obtain ⟨_, hD, rfl, rfl, rfl⟩ := id hA
  have hS := hH.1
  obtain ⟨an, rfl⟩ : ∃ an : Nat, a = an := ⟨a.toNat, by omega⟩
  obtain ⟨bn, rfl⟩ : ∃ bn : Nat, b = bn := ⟨b.toNat, by omega⟩
  simp (disch := omega) only [↓SXd, SXu, slBounds, ↓sop, ↓aop, ↓reduceIte, LV.cells, AOp.dst, LV.I, LV.B, LV.U, LV.S, LV.nil, Nat.reduceEqDiff, Nat.reduceAdd, Nat.reduceMul, Nat.reduceSub, Nat.reduceLeDiff, Nat.reduceBEq, Nat.reduceDiv, Nat.reduceMod, Int.reduceToNat, Int.reduceLT, Int.reduceLE, Int.reduceAdd, Int.reduceSub, Int.reduceMul, Int.reduceEq, Int.reduceNeg, reduceCtorEq, resV, resAll, ARes.ev, LV.flat, ite_true, ite_false, exists_eq_left', exists_eq_left, keyOf, implies_true, fillC, capOf]
  refine callK_of (h_l4Alike hTri.app hTri'.app hH hD (by omega) (by omega)) ?_
  by_cases hV : viewL x y z an cs = viewL x y z an ds ∧ viewL x y z bn cs = viewL x y z bn ds
  rotate_left
  · rw [decide_eq_false hV]
    simp (disch := omega) only [splice, ↓SXd, SXu, slBounds, ↓sop, ↓aop, ↓reduceIte, LV.cells, AOp.dst, LV.I, LV.B, LV.U, LV.S, LV.nil, Nat.reduceEqDiff, Nat.reduceAdd, Nat.reduceMul, Nat.reduceSub, Nat.reduceLeDiff, Nat.reduceBEq, Nat.reduceDiv, Nat.reduceMod, Int.reduceToNat, Int.reduceLT, Int.reduceLE, Int.reduceAdd, Int.reduceSub, Int.reduceMul, Int.reduceEq, Int.reduceNeg, reduceCtorEq, resV, resAll, ARes.ev, LV.flat, ite_true, ite_false, exists_eq_left', exists_eq_left, keyOf, implies_true, fillC, capOf]
    exact ⟨(if_neg fun e => hV ⟨by simpa using e.2.2.1, by simpa using e.2.2.2⟩).symm, Pre.app _ _⟩
  rw [decide_eq_true hV]
  simp (disch := omega) only [↓SXd, SXu, slBounds, ↓sop, ↓aop, ↓reduceIte, LV.cells, AOp.dst, LV.I, LV.B, LV.U, LV.S, LV.nil, Nat.reduceEqDiff, Nat.reduceAdd, Nat.reduceMul, Nat.reduceSub, Nat.reduceLeDiff, Nat.reduceBEq, Nat.reduceDiv, Nat.reduceMod, Int.reduceToNat, Int.reduceLT, Int.reduceLE, Int.reduceAdd, Int.reduceSub, Int.reduceMul, Int.reduceEq, Int.reduceNeg, reduceCtorEq, resV, resAll, ARes.ev, LV.flat, ite_true, ite_false, exists_eq_left', exists_eq_left, keyOf, implies_true, fillC, capOf]
  refine callK_of (h_l4Third ha hb) ?_
  simp (disch := omega) only [↓SXd, SXu, slBounds, ↓sop, ↓aop, ↓reduceIte, LV.cells, AOp.dst, LV.I, LV.B, LV.U, LV.S, LV.nil, Nat.reduceEqDiff, Nat.reduceAdd, Nat.reduceMul, Nat.reduceSub, Nat.reduceLeDiff, Nat.reduceBEq, Nat.reduceDiv, Nat.reduceMod, Int.reduceToNat, Int.reduceLT, Int.reduceLE, Int.reduceAdd, Int.reduceSub, Int.reduceMul, Int.reduceEq, Int.reduceNeg, reduceCtorEq, resV, resAll, ARes.ev, LV.flat, ite_true, ite_false, exists_eq_left', exists_eq_left, keyOf, implies_true, fillC, capOf]
  have hres : fewSw x y z cs ds x y z an bn = .tup [.I (sN (sideOf x y z (3 - an - bn)).toNat (farK x y z cs ds (3 - (an : Int) - bn).toNat)), .B true] := if_pos ⟨hTw, hA, by simpa using hV.1, by simpa using hV.2⟩
  obtain ⟨d, hd0⟩ : ∃ d : Nat, d = 3 - an - bn := ⟨_, rfl⟩
  have hdi : 3 - (an : Int) - bn = ((d : Nat) : Int) := by omega
  have hd : d < 3 := by omega
  obtain ⟨vA, vB⟩ := third_dirs (P := fun e => viewL x y z e cs = viewL x y z e ds) (by omega) (by omega) (by omega) hd0 hV.1 hV.2
  rw [hres, hdi]
  rw [Int.toNat_natCast]
  clear hres hdi hd0 hA hTw hab hV ha hb
  have hdd : Dir (d : Nat) := by unfold Dir; omega
  have sA := sideOf_in hS (dirA d)
  have sB := sideOf_in hS (dirB d)
  have sD := sideOf_in hS (d : Nat)
  simp (disch := omega) only [↓SXd, SXu, slBounds, ↓sop, ↓aop, ↓reduceIte, LV.cells, AOp.dst, LV.I, LV.B, LV.U, LV.S, LV.nil, Nat.reduceEqDiff, Nat.reduceAdd, Nat.reduceMul, Nat.reduceSub, Nat.reduceLeDiff, Nat.reduceBEq, Nat.reduceDiv, Nat.reduceMod, Int.reduceToNat, Int.reduceLT, Int.reduceLE, Int.reduceAdd, Int.reduceSub, Int.reduceMul, Int.reduceEq, Int.reduceNeg, reduceCtorEq, resV, resAll, ARes.ev, LV.flat, ite_true, ite_false, exists_eq_left', exists_eq_left, keyOf, implies_true, fillC, capOf]
  refine ev_loop (fun m fr M' => ∃ (k : Nat), k + m = (sideOf x y z (d : Nat)).toNat ∧ Pre M M' ∧ Live M' M.length (.row [.I x, .I y, .I z, .ref t 0 cs.length] true 0) ∧ Live M' (M.length + 1) (.row [.I x, .I y, .I z, .ref t' 0 ds.length] true 0) ∧
    fr 4 = .ptr M.length 0 ∧ fr 5 = .ptr (M.length + 1) 0 ∧ fr 10 = .I (d : Nat) ∧ fr 11 = .I (sN k (farK x y z cs ds d)) ∧ fr 12 = .I k) (sideOf x y z (d : Nat)).toNat
    ⟨0, by omega, Pre.app _ _, Live.new, Live.newj rfl, rfl, rfl, rfl, rfl, rfl⟩ ?_
  rintro m fr M' ⟨k, hk, hpre, b4, b5, f4, f5, f10, f11, f12⟩
  simp (disch := omega) only [f4, f5, f10, f11, f12, b4.cells, ↓SXd, SXu, slBounds, ↓sop, ↓aop, ↓reduceIte, LV.cells, AOp.dst, LV.I, LV.B, LV.U, LV.S, LV.nil, Nat.reduceEqDiff, Nat.reduceAdd, Nat.reduceMul, Nat.reduceSub, Nat.reduceLeDiff, Nat.reduceBEq, Nat.reduceDiv, Nat.reduceMod, Int.reduceToNat, Int.reduceLT, Int.reduceLE, Int.reduceAdd, Int.reduceSub, Int.reduceMul, Int.reduceEq, Int.reduceNeg, reduceCtorEq, resV, resAll, ARes.ev, LV.flat, ite_true, ite_false, exists_eq_left', exists_eq_left, keyOf, implies_true, fillC, capOf]
  refine callK_of (h_l2Long hdd) ?_
  simp (disch := omega) only [f4, f5, f10, f11, f12, ↓SXd, SXu, slBounds, ↓sop, ↓aop, ↓reduceIte, LV.cells, AOp.dst, LV.I, LV.B, LV.U, LV.S, LV.nil, Nat.reduceEqDiff, Nat.reduceAdd, Nat.reduceMul, Nat.reduceSub, Nat.reduceLeDiff, Nat.reduceBEq, Nat.reduceDiv, Nat.reduceMod, Int.reduceToNat, Int.reduceLT, Int.reduceLE, Int.reduceAdd, Int.reduceSub, Int.reduceMul, Int.reduceEq, Int.reduceNeg, reduceCtorEq, resV, resAll, ARes.ev, LV.flat, ite_true, ite_false, exists_eq_left', exists_eq_left, keyOf, implies_true, fillC, capOf]
  have hbd := farK_in (x := x) (y := y) (z := z) (cs := cs) (ds := ds) (d := d) (n := k)
  refine condC_dec (fun hlt => ?_) (fun hlt => ?_)
  rotate_left
  · have hks : k = (sideOf x y z (d : Nat)).toNat := by omega
    subst hks
    simp (disch := omega) only [f4, f5, f10, f11, f12, ↓SXd, SXu, slBounds, ↓sop, ↓aop, ↓reduceIte, LV.cells, AOp.dst, LV.I, LV.B, LV.U, LV.S, LV.nil, Nat.reduceEqDiff, Nat.reduceAdd, Nat.reduceMul, Nat.reduceSub, Nat.reduceLeDiff, Nat.reduceBEq, Nat.reduceDiv, Nat.reduceMod, Int.reduceToNat, Int.reduceLT, Int.reduceLE, Int.reduceAdd, Int.reduceSub, Int.reduceMul, Int.reduceEq, Int.reduceNeg, reduceCtorEq, resV, resAll, ARes.ev, LV.flat, ite_true, ite_false, exists_eq_left', exists_eq_left, keyOf, implies_true, fillC, capOf]
    exact ⟨rfl, hpre⟩
  have hks : 0 ≤ (k : Int) ∧ (k : Int) < sideOf x y z (d : Nat) := by omega
  simp (disch := omega) only [f4, f5, f10, f11, f12, b4.cells, b5.cells, ↓SXd, SXu, slBounds, ↓sop, ↓aop, ↓reduceIte, LV.cells, AOp.dst, LV.I, LV.B, LV.U, LV.S, LV.nil, Nat.reduceEqDiff, Nat.reduceAdd, Nat.reduceMul, Nat.reduceSub, Nat.reduceLeDiff, Nat.reduceBEq, Nat.reduceDiv, Nat.reduceMod, Int.reduceToNat, Int.reduceLT, Int.reduceLE, Int.reduceAdd, Int.reduceSub, Int.reduceMul, Int.reduceEq, Int.reduceNeg, reduceCtorEq, resV, resAll, ARes.ev, LV.flat, ite_true, ite_false, exists_eq_left', exists_eq_left, keyOf, implies_true, fillC, capOf]
  refine callR_of (h_l2Layer (hTri.pre hpre) hH hd hks) ?_
  rintro _ N1 ⟨u1, rfl, hT1, hp1⟩
  change TabV N1 (.ref u1 0 (layT x y z d cs k).length) (layT x y z d cs k) at hT1
  change putK _ _ _ (.ref u1 0 (layT x y z d cs k).length) _
  simp (disch := omega) only [f4, f5, f10, f11, f12, (keepL_pr hp1), ↓SXd, SXu, slBounds, ↓sop, ↓aop, ↓reduceIte, LV.cells, AOp.dst, LV.I, LV.B, LV.U, LV.S, LV.nil, Nat.reduceEqDiff, Nat.reduceAdd, Nat.reduceMul, Nat.reduceSub, Nat.reduceLeDiff, Nat.reduceBEq, Nat.reduceDiv, Nat.reduceMod, Int.reduceToNat, Int.reduceLT, Int.reduceLE, Int.reduceAdd, Int.reduceSub, Int.reduceMul, Int.reduceEq, Int.reduceNeg, reduceCtorEq, resV, resAll, ARes.ev, LV.flat, ite_true, ite_false, exists_eq_left', exists_eq_left, keyOf, implies_true, fillC, capOf]
  refine callR_of (h_l2Layer (hTri'.pre (hpre.trans hp1)) hD hd hks) ?_
  rintro _ N2 ⟨u2, rfl, hT2, hp2⟩
  change TabV N2 (.ref u2 0 (layT x y z d ds k).length) (layT x y z d ds k) at hT2
  change putK _ _ _ (.ref u2 0 (layT x y z d ds k).length) _
  simp (disch := omega) only [f4, f5, f10, f11, f12, (keepL_pr hp2), ↓SXd, SXu, slBounds, ↓sop, ↓aop, ↓reduceIte, LV.cells, AOp.dst, LV.I, LV.B, LV.U, LV.S, LV.nil, Nat.reduceEqDiff, Nat.reduceAdd, Nat.reduceMul, Nat.reduceSub, Nat.reduceLeDiff, Nat.reduceBEq, Nat.reduceDiv, Nat.reduceMod, Int.reduceToNat, Int.reduceLT, Int.reduceLE, Int.reduceAdd, Int.reduceSub, Int.reduceMul, Int.reduceEq, Int.reduceNeg, reduceCtorEq, resV, resAll, ARes.ev, LV.flat, ite_true, ite_false, exists_eq_left', exists_eq_left, keyOf, implies_true, fillC, capOf]
  refine callR_of (h_l4Far (hT1.pre hp2) hT2 layT_ok layT_ok (by omega) (by unfold layN; omega) (lay_same hS hd hks hH hD vA vB)) ?_
  rintro _ N3 ⟨q, rfl, hq, hF, hp3⟩
  have hfq : farK x y z cs ds d k = (q : Nat) := by unfold farK; rw [farOf_eq hq hF]
  have hpN := ((hp1.trans hp2).trans hp3)
  simp (disch := omega) only [f4, f5, f10, f11, f12, (keepL_pr hp3), ↓SXd, SXu, slBounds, ↓sop, ↓aop, ↓reduceIte, LV.cells, AOp.dst, LV.I, LV.B, LV.U, LV.S, LV.nil, Nat.reduceEqDiff, Nat.reduceAdd, Nat.reduceMul, Nat.reduceSub, Nat.reduceLeDiff, Nat.reduceBEq, Nat.reduceDiv, Nat.reduceMod, Int.reduceToNat, Int.reduceLT, Int.reduceLE, Int.reduceAdd, Int.reduceSub, Int.reduceMul, Int.reduceEq, Int.reduceNeg, reduceCtorEq, resV, resAll, ARes.ev, LV.flat, ite_true, ite_false, exists_eq_left', exists_eq_left, keyOf, implies_true, fillC, capOf]
  exact ⟨m - 1, by omega, k + 1, by omega, hpre.trans hpN, b4.pre hpN, b5.pre hpN, f4, f5, f10, by rw [← hfq]; rfl, eqI (natI _)⟩
end Go.Ab

/- The abstract code of some functions (written by a program of mine from the translation, by way of prepF). -/
namespace Go.Ab.C
open Go.Ab
def impl_tableSwitches : AFn :=
 ⟨4, 149, [.tmp 8],
 .seq (.ops [(none, .mv 8 (.c (.I 0)))])
 (.seq (.ops [(none, .mkmap 24),
 (none, .mv 25 (.t 0)),
 (none, .mupd 0 (.t 24) (.t 25) (.c (.I 0))),
 (none, .mv 26 (.t 24)),
 (none, .mv 27 (.t 0)),
 (none, .buildSl 28 1 1 [(.U 0)] [(0, 1, (.t 27))]),
 (none, .mv 9 (.t 26)),
 (none, .mv 10 (.t 28))])
 (.seq (.ops [(none, .mv 11 (.c (.I 0)))])
 (.block 0 (.loop (.seq (.block 1 (.seq (.ops [(none, .mv 31 (.t 10)),
 (none, .mv 32 (.t 11)),
 (none, .idxS 33 1 (.t 31) (.t 32)),
 (none, .load1 34 (.t 33)),
 (none, .mv 12 (.t 34))])
 (.seq (.seq (.ops [(none, .mv 35 (.t 12)),
 (none, .mv 36 (.t 1)),
 (none, .bin 37 .eql (.t 35) (.t 36))])
 (.cond (.t 37) (.seq (.ops [(none, .mv 38 (.t 9)),
 (none, .mv 39 (.t 12)),
 (none, .lookup 40 0 (.t 38) (.t 39) (.int .i64 0) false),
 (none, .mv 8 (.t 40))])
 (.ret))
 (.skip)))
 (.seq (.ops [(none, .mv 41 (.t 2)),
 (none, .mv 42 (.c (.I 0)))])
 (.block 2 (.loop (.seq (.ops [(none, .bin 43 .lss (.t 42) (.t 41))])
 (.seq (.cond (.t 43) (.skip)
 (.exit 2))
 (.seq (.block 3 (.seq (.ops [(none, .mv 44 (.t 42)),
 (none, .mv 13 (.t 44))])
 (.seq (.ops [(none, .mv 45 (.t 13)),
 (none, .mv 46 (.c (.I 0)))])
 (.block 4 (.loop (.seq (.ops [(none, .bin 47 .lss (.t 46) (.t 45))])
 (.seq (.cond (.t 47) (.skip)
 (.exit 4))
 (.seq (.block 5 (.seq (.ops [(none, .mv 48 (.t 46)),
 (none, .mv 14 (.t 48))])
 (.seq (.ops [(none, .mv 49 (.t 3)),
 (none, .mv 50 (.c (.I 0)))])
 (.block 6 (.loop (.seq (.ops [(none, .bin 51 .lss (.t 50) (.t 49))])
 (.seq (.cond (.t 51) (.skip)
 (.exit 6))
 (.seq (.block 7 (.seq (.ops [(none, .mv 52 (.t 50)),
 (none, .mv 15 (.t 52))])
 (.seq (.ops [(none, .mv 53 (.t 15)),
 (none, .mv 54 (.c (.I 0)))])
 (.block 8 (.loop (.seq (.ops [(none, .bin 55 .lss (.t 54) (.t 53))])
 (.seq (.cond (.t 55) (.skip)
 (.exit 8))
 (.seq (.block 9 (.seq (.ops [(none, .mv 56 (.t 54)),
 (none, .mv 16 (.t 56))])
 (.seq (.ops [(none, .mv 57 (.t 12)),
 (none, .mv 58 (.t 13)),
 (none, .mv 59 (.t 3)),
 (none, .bin 60 .mul (.t 58) (.t 59)),
 (none, .mv 61 (.t 15)),
 (none, .bin 62 .add (.t 60) (.t 61)),
 (none, .call (some 63) F.impl_set_has [(.t 57), (.t 62)]),
 (none, .mv 64 (.t 12)),
 (none, .mv 65 (.t 13)),
 (none, .mv 66 (.t 3)),
 (none, .bin 67 .mul (.t 65) (.t 66)),
 (none, .mv 68 (.t 16)),
 (none, .bin 69 .add (.t 67) (.t 68)),
 (none, .call (some 70) F.impl_set_has [(.t 64), (.t 69)]),
 (none, .mv 71 (.t 12)),
 (none, .mv 72 (.t 14)),
 (none, .mv 73 (.t 3)),
 (none, .bin 74 .mul (.t 72) (.t 73)),
 (none, .mv 75 (.t 15)),
 (none, .bin 76 .add (.t 74) (.t 75)),
 (none, .call (some 77) F.impl_set_has [(.t 71), (.t 76)]),
 (none, .mv 78 (.t 12)),
 (none, .mv 79 (.t 14)),
 (none, .mv 80 (.t 3)),
 (none, .bin 81 .mul (.t 79) (.t 80)),
 (none, .mv 82 (.t 16)),
 (none, .bin 83 .add (.t 81) (.t 82)),
 (none, .call (some 84) F.impl_set_has [(.t 78), (.t 83)]),
 (none, .mv 17 (.t 63)),
 (none, .mv 18 (.t 70)),
 (none, .mv 19 (.t 77)),
 (none, .mv 20 (.t 84))])
 (.seq (.seq (.ops [(none, .mv 85 (.t 17)),
 (none, .mv 86 (.t 20)),
 (none, .eqb 87 true (.t 85) (.t 86)),
 (none, .mv 88 (.t 87)),
 (some (88, false), .mv 89 (.t 18)),
 (some (88, false), .mv 90 (.t 19)),
 (some (88, false), .eqb 91 true (.t 89) (.t 90)),
 (none, .pick 92 (.t 88) (.c (.B true)) (.t 91)),
 (none, .mv 93 (.t 92)),
 (some (93, false), .mv 94 (.t 17)),
 (some (93, false), .mv 95 (.t 18)),
 (some (93, false), .eqb 96 false (.t 94) (.t 95)),
 (none, .pick 97 (.t 93) (.c (.B true)) (.t 96))])
 (.cond (.t 97) (.exit 9)
 (.skip)))
 (.seq (.draw [⟨(none, .mv 98 (.t 12)), [], []⟩,
 ⟨(none, .mv 99 (.t 13)), [], []⟩,
 ⟨(none, .mv 100 (.t 3)), [], []⟩,
 ⟨(none, .bin 101 .mul (.t 99) (.t 100)), [], []⟩,
 ⟨(none, .mv 102 (.t 15)), [], []⟩,
 ⟨(none, .bin 103 .add (.t 101) (.t 102)), [], []⟩,
 ⟨(none, .bin 104 .shl (.c (.U 1)) (.t 103)), [], []⟩,
 ⟨(none, .bin 105 .xor (.t 98) (.t 104)), [], []⟩,
 ⟨(none, .mv 106 (.t 13)), [], []⟩,
 ⟨(none, .mv 107 (.t 3)), [], []⟩,
 ⟨(none, .bin 108 .mul (.t 106) (.t 107)), [], []⟩,
 ⟨(none, .mv 109 (.t 16)), [], []⟩,
 ⟨(none, .bin 110 .add (.t 108) (.t 109)), [], []⟩,
 ⟨(none, .bin 111 .shl (.c (.U 1)) (.t 110)), [], []⟩,
 ⟨(none, .bin 112 .xor (.t 105) (.t 111)), [], []⟩,
 ⟨(none, .mv 113 (.t 14)), [], []⟩,
 ⟨(none, .mv 114 (.t 3)), [], []⟩,
 ⟨(none, .bin 115 .mul (.t 113) (.t 114)), [], []⟩,
 ⟨(none, .mv 116 (.t 15)), [], []⟩,
 ⟨(none, .bin 117 .add (.t 115) (.t 116)), [], []⟩,
 ⟨(none, .bin 118 .shl (.c (.U 1)) (.t 117)), [], []⟩,
 ⟨(none, .bin 119 .xor (.t 112) (.t 118)), [], []⟩,
 ⟨(none, .mv 120 (.t 14)), [], []⟩,
 ⟨(none, .mv 121 (.t 3)), [], []⟩,
 ⟨(none, .bin 122 .mul (.t 120) (.t 121)), [], []⟩,
 ⟨(none, .mv 123 (.t 16)), [], []⟩,
 ⟨(none, .bin 124 .add (.t 122) (.t 123)), [], []⟩,
 ⟨(none, .bin 125 .shl (.c (.U 1)) (.t 124)), [], []⟩,
 ⟨(none, .bin 126 .xor (.t 119) (.t 125)), [], []⟩,
 ⟨(none, .mv 21 (.t 126)), [], []⟩])
 (.seq (.ops [(none, .mv 128 (.t 9)),
 (none, .mv 129 (.t 21)),
 (none, .lookup 130 0 (.t 128) (.t 129) (.int .i64 0) true),
 (none, .mv 127 (.t 130)),
 (none, .extract 131 (.t 127) 0),
 (none, .extract 132 (.t 127) 1),
 (none, .mv 22 (.t 131)),
 (none, .mv 23 (.t 132))])
 (.seq (.ops [(none, .mv 133 (.t 23)),
 (none, .un 134 .not (.t 133))])
 (.cond (.t 134) (.seq (.ops [(none, .mv 135 (.t 9)),
 (none, .mv 136 (.t 21)),
 (none, .mv 137 (.t 9)),
 (none, .mv 138 (.t 12)),
 (none, .lookup 139 0 (.t 137) (.t 138) (.int .i64 0) false),
 (none, .bin 140 .add (.t 139) (.c (.I 1))),
 (none, .mupd 0 (.t 135) (.t 136) (.t 140))])
 (.ops [(none, .mv 141 (.t 10)),
 (none, .mv 142 (.t 21)),
 (none, .buildSl 143 1 1 [(.U 0)] [(0, 1, (.t 142))]),
 (none, .append 144 1 8 (.t 141) (.t 143)),
 (none, .mv 10 (.t 144))]))
 (.skip)))))))))
 (.ops [(none, .bin 145 .add (.t 54) (.c (.I 1))),
 (none, .mv 54 (.t 145))])))))))))
 (.ops [(none, .bin 146 .add (.t 50) (.c (.I 1))),
 (none, .mv 50 (.t 146))])))))))))
 (.ops [(none, .bin 147 .add (.t 46) (.c (.I 1))),
 (none, .mv 46 (.t 147))])))))))))
 (.ops [(none, .bin 148 .add (.t 42) (.c (.I 1))),
 (none, .mv 42 (.t 148))]))))))))))
 (.ops [(none, .mv 29 (.t 11)),
 (none, .bin 30 .add (.t 29) (.c (.I 1))),
 (none, .mv 11 (.t 30))]))))))⟩
end Go.Ab.C

/- That the program has this code. -/
namespace Go.Ab.K
open Go Go.Ab
theorem impl_tableSwitches : prepF Go.Proofs.Try.prog F.impl_tableSwitches = some C.impl_tableSwitches := by kernel_rfl
end Go.Ab.K

/- Plain words: tables as sets, and a switch of one. -/
namespace Go.Ab
open Go
set_option linter.unusedSimpArgs false
set_option linter.unusedVariables false
set_option maxRecDepth 20000

def setF (T : List (List Int)) : BitVec 64 := setT T.flatten
theorem cel_lt {m n i j : Nat} (hm : m ≤ 4) (hn : n ≤ 4) (hi : i < m) (hj : j < n) : i * n + j < m * n ∧ i * n + j < 16 := by
  have h1 : (i + 1) * n ≤ m * n := Nat.mul_le_mul_right _ hi
  have h2 : m * n ≤ 4 * 4 := Nat.mul_le_mul hm hn
  rw [Nat.add_mul] at h1
  omega
theorem cel_inj {n i j a c : Nat} (hj : j < n) (hc : c < n) : i * n + j = a * n + c ↔ i = a ∧ j = c := by
  constructor
  · intro e
    have hn0 : 0 < n := by omega
    have h1 : (i * n + j) / n = i := by rw [Nat.mul_comm, Nat.mul_add_div hn0, Nat.div_eq_of_lt hj, Nat.add_zero]
    have h2 : (a * n + c) / n = a := by rw [Nat.mul_comm, Nat.mul_add_div hn0, Nat.div_eq_of_lt hc, Nat.add_zero]
    rw [e, h2] at h1
    subst h1
    exact ⟨rfl, by omega⟩
  · rintro ⟨rfl, rfl⟩; rfl
section
variable {m n : Nat} {T : List (List Int)} (hm : m ≤ 4) (hn : n ≤ 4) (hT : TabOK m n T)
include hm hn hT
theorem flatT_len : T.flatten.length = m * n ∧ m * n ≤ 16 := by
  have : m * n ≤ 4 * 4 := Nat.mul_le_mul hm hn
  rw [flat_len (n := n) fun r hr => (hT.2 r hr).1, hT.1]
  exact ⟨rfl, this⟩
theorem setF_bit {i j : Nat} (hi : i < m) (hj : j < n) : (setF T).getLsbD (i * n + j) = decide (atT T i j = 1) := by
  have hl := flatT_len hm hn hT
  have hc := cel_lt hm hn hi hj
  unfold setF
  rw [setT_bit (by omega), decide_eq_true (by omega), Bool.true_and, flat_at (fun r hr => (hT.2 r hr).1) (by rw [hT.1]; exact hi) hj]
  rfl
theorem setF_out {p : Nat} (hp : m * n ≤ p) : (setF T).getLsbD p = false := by
  have hl := flatT_len hm hn hT
  unfold setF
  rw [setT_bit (by omega), decide_eq_false (by omega), Bool.false_and]
theorem setF_ext {s : BitVec 64} (h1 : ∀ i j, i < m → j < n → s.getLsbD (i * n + j) = decide (atT T i j = 1)) (h2 : ∀ p, p < 64 → m * n ≤ p → s.getLsbD p = false) : s = setF T := by
  apply BitVec.eq_of_getLsbD_eq
  intro p hp
  rcases Nat.lt_or_ge p (m * n) with h | h
  · have hn0 : 0 < n := by
      rcases Nat.eq_zero_or_pos n with h0 | h0
      · subst h0; omega
      · exact h0
    have hd := Nat.div_add_mod p n
    have hjl := Nat.mod_lt p hn0
    have hil : p / n < m := Nat.div_lt_of_lt_mul (by rw [Nat.mul_comm]; exact h)
    have e : p / n * n + p % n = p := by rw [Nat.mul_comm]; exact hd
    rw [← e, h1 _ _ hil hjl, setF_bit hm hn hT hil hjl]
  · rw [h2 p hp h, setF_out hm hn hT h]
theorem setF_inj {U : List (List Int)} (hU : TabOK m n U) (h : setF T = setF U) : T = U := tab_ext hT hU fun i j hi hj => by
  have h1 := setF_bit hm hn hT hi hj
  have h2 := setF_bit hm hn hU hi hj
  rw [h, h2] at h1
  rcases hT.bit hi hj with e | e <;> rcases hU.bit hi hj with e' | e' <;> rw [e, e'] at h1 ⊢ <;> simp at h1
/-- A switch turns four bits. -/
theorem setF_sw {a b c d : Nat} (ha : a < m) (hb : b < a) (hc : c < n) (hd : d < c) (e1 : atT T a c = atT T b d) (e2 : atT T a d = atT T b c) (e3 : atT T a c ≠ atT T a d) :
    (((setF T ^^^ 1#64 <<< (a * n + c)) ^^^ 1#64 <<< (a * n + d)) ^^^ 1#64 <<< (b * n + c)) ^^^ 1#64 <<< (b * n + d) = setF (swT T b a d c) := by
  refine setF_ext hm hn (swT_ok hT (by omega) ha (by omega) hc) (fun i j hi hj => ?_) fun p hp h => ?_
  · have h16 := cel_lt hm hn hi hj
    rw [BitVec.getLsbD_xor, BitVec.getLsbD_xor, BitVec.getLsbD_xor, BitVec.getLsbD_xor, one_at (by omega), one_at (by omega), one_at (by omega), one_at (by omega), setF_bit hm hn hT hi hj, swT_at hT (by omega) ha (by omega) hc]
    simp only [cel_inj hj hc, cel_inj hj (show d < n by omega)]
    have b1 := hT.bit ha hc
    have b2 := hT.bit ha (show d < n by omega)
    have b3 := hT.bit (show b < m by omega) hc
    have b4 := hT.bit (show b < m by omega) (show d < n by omega)
    have key : ∀ u v : Int, (u = 0 ∨ u = 1) → (v = 0 ∨ v = 1) → u ≠ v → ((decide (u = 1)) ^^ true) = decide (v = 1) := fun u v hu hv hne => by
      rcases hu with rfl | rfl <;> rcases hv with rfl | rfl <;> first | rfl | exact absurd rfl hne
    by_cases q1 : i = a
    · have n1 : ¬ i = b := by omega
      rw [if_pos (show i = b ∨ i = a from .inr q1), decide_eq_false (show ¬ (i = b ∧ j = c) from fun w => n1 w.1), decide_eq_false (show ¬ (i = b ∧ j = d) from fun w => n1 w.1), Bool.xor_false, Bool.xor_false]
      by_cases q2 : j = c
      · have n2 : ¬ j = d := by omega
        rw [decide_eq_true (show i = a ∧ j = c from ⟨q1, q2⟩), decide_eq_false (show ¬ (i = a ∧ j = d) from fun w => n2 w.2), Bool.xor_false, if_pos q2, q1, q2]
        exact key _ _ b1 b2 e3
      · rw [decide_eq_false (show ¬ (i = a ∧ j = c) from fun w => q2 w.2), if_neg q2, Bool.xor_false]
        by_cases q3 : j = d
        · rw [decide_eq_true (show i = a ∧ j = d from ⟨q1, q3⟩), if_pos q3, q1, q3]
          exact key _ _ b2 b1 fun e => e3 e.symm
        · rw [decide_eq_false (show ¬ (i = a ∧ j = d) from fun w => q3 w.2), if_neg q3, Bool.xor_false]
    · rw [decide_eq_false (show ¬ (i = a ∧ j = c) from fun w => q1 w.1), decide_eq_false (show ¬ (i = a ∧ j = d) from fun w => q1 w.1), Bool.xor_false, Bool.xor_false]
      by_cases q4 : i = b
      · rw [if_pos (show i = b ∨ i = a from .inl q4)]
        by_cases q2 : j = c
        · have n2 : ¬ j = d := by omega
          rw [decide_eq_true (show i = b ∧ j = c from ⟨q4, q2⟩), decide_eq_false (show ¬ (i = b ∧ j = d) from fun w => n2 w.2), Bool.xor_false, if_pos q2, q4, q2]
          exact key _ _ b3 b4 fun e => e3 (by rw [e1, e2, e])
        · rw [decide_eq_false (show ¬ (i = b ∧ j = c) from fun w => q2 w.2), if_neg q2, Bool.xor_false]
          by_cases q3 : j = d
          · rw [decide_eq_true (show i = b ∧ j = d from ⟨q4, q3⟩), if_pos q3, q4, q3]
            exact key _ _ b4 b3 fun e => e3 (by rw [e1, e2, e])
          · rw [decide_eq_false (show ¬ (i = b ∧ j = d) from fun w => q3 w.2), if_neg q3, Bool.xor_false]
      · rw [if_neg (show ¬ (i = b ∨ i = a) from fun w => w.elim q4 q1), decide_eq_false (show ¬ (i = b ∧ j = c) from fun w => q4 w.1), decide_eq_false (show ¬ (i = b ∧ j = d) from fun w => q4 w.1), Bool.xor_false, Bool.xor_false]
  · have k1 := cel_lt hm hn ha hc
    have k2 := cel_lt hm hn ha (show d < n by omega)
    have k3 := cel_lt hm hn (show b < m by omega) hc
    have k4 := cel_lt hm hn (show b < m by omega) (show d < n by omega)
    rw [BitVec.getLsbD_xor, BitVec.getLsbD_xor, BitVec.getLsbD_xor, BitVec.getLsbD_xor, one_at hp, one_at hp, one_at hp, one_at hp, setF_out hm hn hT h, decide_eq_false (by omega), decide_eq_false (by omega), decide_eq_false (by omega), decide_eq_false (by omega)]
    rfl
end
/-- The four cells may be switched. -/
def Cnd (T : List (List Int)) (a b c d : Nat) : Prop := atT T a c = atT T b d ∧ atT T a d = atT T b c ∧ atT T a c ≠ atT T a d
theorem cnd_sw {m n a b c d : Nat} {T : List (List Int)} (hT : TabOK m n T) (ha : a < m) (hb : b < a) (hc : c < n) (hd : d < c) (h : Cnd T a b c d) : SwG m n T (swT T b a d c) :=
  ⟨hT, b, a, d, c, hb, ha, hd, hc, h.1.symm, h.2.1.symm, fun e => h.2.2 (h.1.trans (e.trans h.2.1.symm)), rfl⟩
theorem sw_cnd {m n : Nat} {T U : List (List Int)} (h : SwG m n T U) : ∃ a b c d, a < m ∧ b < a ∧ c < n ∧ d < c ∧ Cnd T a b c d ∧ U = swT T b a d c := by
  obtain ⟨hT, i, j, k, l, h1, h2, h3, h4, e1, e2, e3, rfl⟩ := h
  exact ⟨j, i, l, k, h2, h1, h4, h3, ⟨e1.symm, e2.symm, fun e => e3 (e1.trans (e.trans e2.symm))⟩, rfl⟩
/-- The map of a search: a table's set and its steps. -/
def mapQ (Q : List (List (List Int) × Nat)) : List (LV × LV) := Q.map fun p => (.W (setF p.1), .I (p.2 : Nat))
def setsQ (Q : List (List (List Int) × Nat)) : List LV := Q.map fun p => .W (setF p.1)
theorem keyU {s u : BitVec 64} : keyEq (.W s) (.W u) = some (decide (s = u)) := by
  show (if IntKind.u64 = IntKind.u64 then some (((s.toNat : Nat) : Int) == ((u.toNat : Nat) : Int)) else none) = _
  rw [if_pos rfl, Option.some_inj, Bool.eq_iff_iff, beq_iff_eq, decide_eq_true_iff]
  refine ⟨fun h => BitVec.eq_of_toNat_eq (by omega), fun h => by rw [h]⟩
section
variable {m n : Nat} (hm : m ≤ 4) (hn : n ≤ 4)
include hm hn
theorem mapQ_in {V : List (List Int)} {k : Nat} (hV : TabOK m n V) : ∀ {Q : List (List (List Int) × Nat)}, (∀ p ∈ Q, TabOK m n p.1) → (Q.map (·.1)).Nodup → (V, k) ∈ Q → findE (.W (setF V)) (mapQ Q) = some (some (.I (k : Nat)))
  | [], _, _, h => by simp at h
  | p :: Q, hQ, hnd, h => by
    show findE _ ((LV.W (setF p.1), LV.I (p.2 : Nat)) :: mapQ Q) = _
    unfold findE
    rw [keyU]
    rw [List.map_cons, List.nodup_cons] at hnd
    rcases List.mem_cons.1 h with e | e
    · subst e
      simp
    · by_cases q : setF V = setF p.1
      · have := setF_inj hm hn hV (hQ p (by simp)) q
        exact absurd (List.mem_map.2 ⟨_, e, this⟩) hnd.1
      · rw [decide_eq_false q]
        exact mapQ_in hV (fun r hr => hQ r (List.mem_cons_of_mem _ hr)) hnd.2 e
theorem mapQ_out {V : List (List Int)} (hV : TabOK m n V) : ∀ {Q : List (List (List Int) × Nat)}, (∀ p ∈ Q, TabOK m n p.1) → V ∉ Q.map (·.1) → findE (.W (setF V)) (mapQ Q) = some none
  | [], _, _ => rfl
  | p :: Q, hQ, hnd => by
    show findE _ ((LV.W (setF p.1), LV.I (p.2 : Nat)) :: mapQ Q) = _
    unfold findE
    rw [keyU]
    rw [List.map_cons, List.mem_cons, not_or] at hnd
    rw [decide_eq_false fun q => hnd.1 (setF_inj hm hn hV (hQ p (by simp)) q)]
    exact mapQ_out hV (fun r hr => hQ r (List.mem_cons_of_mem _ hr)) hnd.2
theorem mapQ_put {V : List (List Int)} {k : Nat} (hV : TabOK m n V) : ∀ {Q : List (List (List Int) × Nat)}, (∀ p ∈ Q, TabOK m n p.1) → V ∉ Q.map (·.1) → putE (.W (setF V)) (.I (k : Nat)) (mapQ Q) = some (mapQ (Q ++ [(V, k)]))
  | [], _, _ => rfl
  | p :: Q, hQ, hnd => by
    show putE _ _ ((LV.W (setF p.1), LV.I (p.2 : Nat)) :: mapQ Q) = _
    unfold putE
    rw [keyU]
    rw [List.map_cons, List.mem_cons, not_or] at hnd
    rw [decide_eq_false fun q => hnd.1 (setF_inj hm hn hV (hQ p (by simp)) q)]
    simp only [mapQ_put hV (fun r hr => hQ r (List.mem_cons_of_mem _ hr)) hnd.2]
    rfl
theorem lookQ {M : Mem} {t k : Nat} {V : List (List Int)} {Q : List (List (List Int) × Nat)} (h : Live M t (.map (mapQ Q))) (hV : TabOK m n V) (hQ : ∀ p ∈ Q, TabOK m n p.1) (hnd : (Q.map (·.1)).Nodup) (hm' : (V, k) ∈ Q) : lookM 0 (.mp t) (.W (setF V)) M = some (some (.I (k : Nat))) := by
  unfold lookM
  simp only [show M[t]? = some (some (.map (mapQ Q))) from h]
  rw [if_pos (by rfl)]
  exact mapQ_in hm hn hV hQ hnd hm'
theorem lookQ0 {M : Mem} {t : Nat} {V : List (List Int)} {Q : List (List (List Int) × Nat)} (h : Live M t (.map (mapQ Q))) (hV : TabOK m n V) (hQ : ∀ p ∈ Q, TabOK m n p.1) (hno : V ∉ Q.map (·.1)) : lookM 0 (.mp t) (.W (setF V)) M = some none := by
  unfold lookM
  simp only [show M[t]? = some (some (.map (mapQ Q))) from h]
  rw [if_pos (by rfl)]
  exact mapQ_out hm hn hV hQ hno
theorem memQ_put {M : Mem} {t k : Nat} {V : List (List Int)} {Q : List (List (List Int) × Nat)} {A : Mem → Prop} (h : Live M t (.map (mapQ Q))) (hV : TabOK m n V) (hQ : ∀ p ∈ Q, TabOK m n p.1) (hno : V ∉ Q.map (·.1))
    (hA : ∀ N, N.length = M.length → Live N t (.map (mapQ (Q ++ [(V, k)]))) → (∀ u, u ≠ t → u < M.length → N[u]? = M[u]?) → A N) : memK (putM 0 (.mp t) (.W (setF V)) (.I (k : Nat)) M) A := by
  have e : putM 0 (.mp t) (.W (setF V)) (.I (k : Nat)) M = some (M.set t (some (.map (mapQ (Q ++ [(V, k)]))))) := by
    unfold putM
    simp only [show M[t]? = some (some (.map (mapQ Q))) from h]
    rw [if_pos (by rfl)]
    rw [mapQ_put hm hn hV hQ hno]; rfl
  rw [e]
  exact hA _ (by simp) h.set_eq fun u hu _ => List.getElem?_set_ne (fun e => hu e.symm)
end
end Go.Ab

/- Contracts: the least number of switches between tables (program). -/
namespace Go.Ab
open Go
set_option linter.unusedSimpArgs false
set_option linter.unusedVariables false
set_option maxRecDepth 20000

theorem has_at {m n a c : Nat} {T : List (List Int)} (hm : m ≤ 4) (hn : n ≤ 4) (hT : TabOK m n T) (ha : a < m) (hc : c < n) {Z : Mem} : CallsTo PG F.impl_set_has [.W (setF T), .I (((a * n : Nat) : Int) + (c : Nat))] Z (.B (decide (atT T a c = 1))) Z := by
  have h := g_has_set (s := setF T) (i := ((a * n : Nat) : Int) + (c : Nat)) (M := Z) (by omega)
  have e : (((a * n : Nat) : Int) + (c : Nat)).toNat = a * n + c := by omega
  rw [e, setF_bit hm hn hT ha hc] at h
  exact h
/-- Which switches of a table have been looked at. -/
def DnS (Q : List (List (List Int) × Nat)) (V : List (List Int)) (n a b c d : Nat) : Prop := ∀ a' b' c' d', b' < a' → c' < n → d' < c' → Cnd V a' b' c' d' → (a' < a ∨ a' = a ∧ (b' < b ∨ b' = b ∧ (c' < c ∨ c' = c ∧ d' < d))) → swT V b' a' d' c' ∈ Q.map (·.1)
def TSt (m n : Nat) (M M' : Mem) (T U V : List (List Int)) (k : Nat) (Q : List (List (List Int) × Nat)) (i tq tm : Nat) : Prop :=
  BfsInv (SwG m n) T Q i ∧ Pre M M' ∧ (M.length ≤ tq ∧ M.length ≤ tm ∧ tq ≠ tm) ∧ Live M' tq (.row (setsQ Q) true 1) ∧ Live M' tm (.map (mapQ Q)) ∧ (∀ v k, (v, k) ∈ Q → k < Q.length) ∧ Q[i]? = some (V, k) ∧ i < Q.length ∧ (∀ j v k, j < i → Q[j]? = some (v, k) → v ≠ U)
theorem bool_ne {p q : Bool} (h : ¬ p = q) : (p == q) = false := by cases p <;> cases q <;> simp at h ⊢
set_option maxHeartbeats 1000000 in
theorem g_tableSwitches {m n : Nat} {T U : List (List Int)} {M : Mem} (hT : TabOK m n T) (hU : TabOK m n U) (hm : 1 ≤ m ∧ m ≤ 4) (hn : 1 ≤ n ∧ n ≤ 4) (hs : SameS m n T U) :
    CallsR PG F.impl_tableSwitches [.W (setF T), .W (setF U), .I m, .I n] M fun v N => ∃ k : Nat, v = .I (k : Nat) ∧ k ≤ 65536 ∧ (WayN (SwG m n) k T U ∧ ∀ j, j < k → ¬ WayN (SwG m n) j T U) ∧ Pre M N := by
  have hQT : ∀ {Q : List (List (List Int) × Nat)} {i : Nat}, BfsInv (SwG m n) T Q i → ∀ p ∈ Q, TabOK m n p.1 := fun {Q i} h p hp => by
    obtain ⟨V, k⟩ := p
    have hw := h.way V k hp
    cases k with
    | zero => cases hw; exact hT
    | succ k => obtain ⟨c, _, h2⟩ := hw; exact h2.ok
  have hQl : ∀ {Q : List (List (List Int) × Nat)} {i : Nat}, BfsInv (SwG m n) T Q i → Q.length ≤ 65536 := fun {Q i} h => by
    have := queue_len hm.2 hn.2 h.nod fun V hV => by
      obtain ⟨p, h1, rfl⟩ := List.mem_map.1 hV
      exact hQT h p h1
    rwa [List.length_map] at this
  have hsl : ∀ Q : List (List (List Int) × Nat), (setsQ Q).length = Q.length := fun Q => List.length_map _
  refine callsR_run K.impl_tableSwitches rfl ?_
  simp (disch := omega) only [C.impl_tableSwitches, ↓SXd, SXu, slBounds, ↓sop, ↓aop, ↓reduceIte, LV.cells, AOp.dst, LV.I, LV.B, LV.U, LV.S, LV.nil, Nat.reduceEqDiff, Nat.reduceAdd, Nat.reduceMul, Nat.reduceSub, Nat.reduceLeDiff, Nat.reduceBEq, Nat.reduceDiv, Nat.reduceMod, Int.reduceToNat, Int.reduceLT, Int.reduceLE, Int.reduceAdd, Int.reduceSub, Int.reduceMul, Int.reduceEq, Int.reduceNeg, reduceCtorEq, resV, resAll, ARes.ev, LV.flat, ite_true, ite_false, exists_eq_left', exists_eq_left, keyOf, implies_true, fillC, capOf]
  refine memQ_put (Q := []) (k := 0) hm.2 hn.2 (Live.new : Live (M ++ [some (.map [])]) M.length (.map (mapQ []))) hT (by simp) (by simp) fun N0 k1 k2 k3 => ?_
  simp only [List.length_append, List.length_singleton] at k1
  simp (disch := omega) only [↓SXd, SXu, slBounds, ↓sop, ↓aop, ↓reduceIte, LV.cells, AOp.dst, LV.I, LV.B, LV.U, LV.S, LV.nil, Nat.reduceEqDiff, Nat.reduceAdd, Nat.reduceMul, Nat.reduceSub, Nat.reduceLeDiff, Nat.reduceBEq, Nat.reduceDiv, Nat.reduceMod, Int.reduceToNat, Int.reduceLT, Int.reduceLE, Int.reduceAdd, Int.reduceSub, Int.reduceMul, Int.reduceEq, Int.reduceNeg, reduceCtorEq, resV, resAll, ARes.ev, LV.flat, ite_true, ite_false, exists_eq_left', exists_eq_left, keyOf, implies_true, fillC, capOf]
  refine ev_loop (fun q fr M' => ∃ (Q : List (List (List Int) × Nat)) (i tq tm : Nat), i + q = 65537 ∧ i ≤ Q.length ∧ BfsInv (SwG m n) T Q i ∧ Pre M M' ∧ (M.length ≤ tq ∧ M.length ≤ tm ∧ tq ≠ tm) ∧ Live M' tq (.row (setsQ Q) true 1) ∧ Live M' tm (.map (mapQ Q)) ∧ (∀ v k, (v, k) ∈ Q → k < Q.length) ∧ (∀ j v k, j < i → Q[j]? = some (v, k) → v ≠ U) ∧
    fr 1 = .W (setF U) ∧ fr 2 = .I m ∧ fr 3 = .I n ∧ fr 9 = .mp tm ∧ fr 10 = .ref tq 0 Q.length ∧ fr 11 = .I i) 65537
    ⟨[(T, 0)], 0, N0.length, M.length, by omega, by omega, BfsInv.start, ⟨by simp; omega, fun q hq => by rw [List.getElem?_append_left (by omega), k3 q (by omega) (by simp; omega), List.getElem?_append_left hq]⟩, by omega, Live.new, k2.app, fun v k h => by simp at h; simp; omega, fun j v k h => by omega, rfl, rfl, rfl, rfl, rfl, rfl⟩ ?_
  clear k1 k2 k3
  rintro q fr M' ⟨Q, i, tq, tm, hq, hiQ, hB, hpre, hnew, hL, hP, hkl, hno, f1, f2, f3, f9, f10, f11⟩
  have hQ6 := hQl hB
  have hil : i < Q.length := by
    rcases Nat.lt_or_ge i Q.length with h | h
    · exact h
    · exfalso
      have he : i = Q.length := by omega
      subst he
      obtain ⟨k, hk⟩ := connected (farT m n T U).toNat hT hU hs (by have := far_pos (m := m) (n := n) (T := T) (U := U); omega)
      obtain ⟨⟨V, k'⟩, h1, h2⟩ := List.mem_map.1 (hB.all k U hk)
      simp at h2
      subst h2
      obtain ⟨j, hj⟩ := List.getElem?_of_mem h1
      have hjl : j < Q.length := by
        rcases Nat.lt_or_ge j Q.length with h | h
        · exact h
        · rw [List.getElem?_eq_none h] at hj; cases hj
      exact absurd rfl (hno j V k' hjl hj)
  obtain ⟨⟨V, k⟩, hQi⟩ : ∃ p, Q[i]? = some p := ⟨Q[i], List.getElem?_eq_getElem hil⟩
  have hVm : (V, k) ∈ Q := List.mem_of_getElem? hQi
  have hVO : TabOK m n V := hQT hB _ hVm
  have hgq : getCell M' tq i = some (.W (setF V)) := by
    have := hL.cell (o := i)
    rw [this]
    unfold setsQ
    rw [List.getElem?_map, hQi]; rfl
  have hib : (i : Int) < (Q.length : Nat) := by omega
  have hlk := lookQ hm.2 hn.2 hP hVO (hQT hB) hB.nod hVm
  simp (disch := omega) only [f1, f2, f3, f9, f10, f11, hgq, hib, Nat.mul_one, Nat.zero_add, ↓SXd, SXu, slBounds, ↓sop, ↓aop, ↓reduceIte, LV.cells, AOp.dst, LV.I, LV.B, LV.U, LV.S, LV.nil, Nat.reduceEqDiff, Nat.reduceAdd, Nat.reduceMul, Nat.reduceSub, Nat.reduceLeDiff, Nat.reduceBEq, Nat.reduceDiv, Nat.reduceMod, Int.reduceToNat, Int.reduceLT, Int.reduceLE, Int.reduceAdd, Int.reduceSub, Int.reduceMul, Int.reduceEq, Int.reduceNeg, reduceCtorEq, resV, resAll, ARes.ev, LV.flat, ite_true, ite_false, exists_eq_left', exists_eq_left, keyOf, implies_true, fillC, capOf]
  by_cases hVU : setF V = setF U
  · have hVU := setF_inj hm.2 hn.2 hVO hU hVU
    subst hVU
    simp (disch := omega) only [f1, f2, f3, f9, f10, f11, hlk, Option.getD_some, ↓SXd, SXu, slBounds, ↓sop, ↓aop, ↓reduceIte, LV.cells, AOp.dst, LV.I, LV.B, LV.U, LV.S, LV.nil, Nat.reduceEqDiff, Nat.reduceAdd, Nat.reduceMul, Nat.reduceSub, Nat.reduceLeDiff, Nat.reduceBEq, Nat.reduceDiv, Nat.reduceMod, Int.reduceToNat, Int.reduceLT, Int.reduceLE, Int.reduceAdd, Int.reduceSub, Int.reduceMul, Int.reduceEq, Int.reduceNeg, reduceCtorEq, resV, resAll, ARes.ev, LV.flat, ite_true, ite_false, exists_eq_left', exists_eq_left, keyOf, implies_true, fillC, capOf]
    exact ⟨k, rfl, by have := hkl V k hVm; omega, hB.least hQi, hpre⟩
  have hVU' : V ≠ U := fun e => hVU (by rw [e])
  simp (disch := omega) only [f1, f2, f3, f9, f10, f11, hVU, ↓SXd, SXu, slBounds, ↓sop, ↓aop, ↓reduceIte, LV.cells, AOp.dst, LV.I, LV.B, LV.U, LV.S, LV.nil, Nat.reduceEqDiff, Nat.reduceAdd, Nat.reduceMul, Nat.reduceSub, Nat.reduceLeDiff, Nat.reduceBEq, Nat.reduceDiv, Nat.reduceMod, Int.reduceToNat, Int.reduceLT, Int.reduceLE, Int.reduceAdd, Int.reduceSub, Int.reduceMul, Int.reduceEq, Int.reduceNeg, reduceCtorEq, resV, resAll, ARes.ev, LV.flat, ite_true, ite_false, exists_eq_left', exists_eq_left, keyOf, implies_true, fillC, capOf]
  clear hgq hlk hib
  have hi6 : i ≤ 65536 := by omega
  refine ev_loop (fun qa fr M' => ∃ (Q : List (List (List Int) × Nat)) (a tq tm : Nat), a + qa = m ∧ TSt m n M M' T U V k Q i tq tm ∧ DnS Q V n a 0 0 0 ∧
    fr 1 = .W (setF U) ∧ fr 2 = .I m ∧ fr 3 = .I n ∧ fr 9 = .mp tm ∧ fr 10 = .ref tq 0 Q.length ∧ fr 11 = .I i ∧ fr 12 = .W (setF V) ∧ fr 41 = .I m ∧ fr 42 = .I a) m
    ⟨Q, 0, tq, tm, by omega, ⟨hB, hpre, hnew, hL, hP, hkl, hQi, hil, hno⟩, fun a' b' c' d' _ _ _ _ h => by omega, f1, f2, f3, f9, f10, f11, rfl, rfl, rfl⟩ ?_
  clear f1 f2 f3 f9 f10 f11 hB hpre hnew hL hP hkl hQi hil hno hVm hQ6 hiQ
  rintro qa fr M' ⟨Q, a, tq, tm, hqa, hI, hD, f1, f2, f3, f9, f10, f11, f12, f41, f42⟩
  simp (disch := omega) only [f1, f2, f3, f9, f10, f11, f12, f41, f42, ↓SXd, SXu, slBounds, ↓sop, ↓aop, ↓reduceIte, LV.cells, AOp.dst, LV.I, LV.B, LV.U, LV.S, LV.nil, Nat.reduceEqDiff, Nat.reduceAdd, Nat.reduceMul, Nat.reduceSub, Nat.reduceLeDiff, Nat.reduceBEq, Nat.reduceDiv, Nat.reduceMod, Int.reduceToNat, Int.reduceLT, Int.reduceLE, Int.reduceAdd, Int.reduceSub, Int.reduceMul, Int.reduceEq, Int.reduceNeg, reduceCtorEq, resV, resAll, ARes.ev, LV.flat, ite_true, ite_false, exists_eq_left', exists_eq_left, keyOf, implies_true, fillC, capOf]
  refine condC_dec (fun hlt => ?_) (fun hlt => ?_)
  rotate_left
  · have : a = m := by omega
    subst this
    obtain ⟨hB, hpre, hnew, hL, hP, hkl, hQi, hil, hno⟩ := hI
    simp (disch := omega) only [f1, f2, f3, f9, f10, f11, f12, f41, f42, ↓SXd, SXu, slBounds, ↓sop, ↓aop, ↓reduceIte, LV.cells, AOp.dst, LV.I, LV.B, LV.U, LV.S, LV.nil, Nat.reduceEqDiff, Nat.reduceAdd, Nat.reduceMul, Nat.reduceSub, Nat.reduceLeDiff, Nat.reduceBEq, Nat.reduceDiv, Nat.reduceMod, Int.reduceToNat, Int.reduceLT, Int.reduceLE, Int.reduceAdd, Int.reduceSub, Int.reduceMul, Int.reduceEq, Int.reduceNeg, reduceCtorEq, resV, resAll, ARes.ev, LV.flat, ite_true, ite_false, exists_eq_left', exists_eq_left, keyOf, implies_true, fillC, capOf]
    refine ⟨q - 1, by omega, Q, i + 1, tq, tm, by omega, by omega, hB.next hQi fun W hW => ?_, hpre, hnew, hL, hP, hkl, fun j v k' hj hv => ?_, f1, f2, f3, f9, f10, eqI (natI _)⟩
    · obtain ⟨a, b, c, d, h1, h2, h3, h4, h5, rfl⟩ := sw_cnd hW
      exact hD a b c d h2 h3 h4 h5 (.inl h1)
    · rcases Nat.lt_or_ge j i with h | h
      · exact hno j v k' h hv
      · have e : j = i := by omega
        subst e
        rw [hQi] at hv
        cases hv
        exact hVU'
  have ham : a < m := by omega
  simp (disch := omega) only [f1, f2, f3, f9, f10, f11, f12, f41, f42, ↓SXd, SXu, slBounds, ↓sop, ↓aop, ↓reduceIte, LV.cells, AOp.dst, LV.I, LV.B, LV.U, LV.S, LV.nil, Nat.reduceEqDiff, Nat.reduceAdd, Nat.reduceMul, Nat.reduceSub, Nat.reduceLeDiff, Nat.reduceBEq, Nat.reduceDiv, Nat.reduceMod, Int.reduceToNat, Int.reduceLT, Int.reduceLE, Int.reduceAdd, Int.reduceSub, Int.reduceMul, Int.reduceEq, Int.reduceNeg, reduceCtorEq, resV, resAll, ARes.ev, LV.flat, ite_true, ite_false, exists_eq_left', exists_eq_left, keyOf, implies_true, fillC, capOf]
  refine ev_loop (fun qb fr M' => ∃ (Q : List (List (List Int) × Nat)) (b tq tm : Nat), b + qb = a ∧ TSt m n M M' T U V k Q i tq tm ∧ DnS Q V n a b 0 0 ∧
    fr 1 = .W (setF U) ∧ fr 2 = .I m ∧ fr 3 = .I n ∧ fr 9 = .mp tm ∧ fr 10 = .ref tq 0 Q.length ∧ fr 11 = .I i ∧ fr 12 = .W (setF V) ∧ fr 41 = .I m ∧ fr 42 = .I a ∧ fr 13 = .I a ∧ fr 45 = .I a ∧ fr 46 = .I b) a
    ⟨Q, 0, tq, tm, by omega, hI, hD, f1, f2, f3, f9, f10, f11, f12, f41, f42, rfl, rfl, rfl⟩ ?_
  clear f1 f2 f3 f9 f10 f11 f12 f41 f42 hI hD hlt
  rintro qb fr M' ⟨Q, b, tq, tm, hqb, hI, hD, f1, f2, f3, f9, f10, f11, f12, f41, f42, f13, f45, f46⟩
  simp (disch := omega) only [f1, f2, f3, f9, f10, f11, f12, f41, f42, f13, f45, f46, ↓SXd, SXu, slBounds, ↓sop, ↓aop, ↓reduceIte, LV.cells, AOp.dst, LV.I, LV.B, LV.U, LV.S, LV.nil, Nat.reduceEqDiff, Nat.reduceAdd, Nat.reduceMul, Nat.reduceSub, Nat.reduceLeDiff, Nat.reduceBEq, Nat.reduceDiv, Nat.reduceMod, Int.reduceToNat, Int.reduceLT, Int.reduceLE, Int.reduceAdd, Int.reduceSub, Int.reduceMul, Int.reduceEq, Int.reduceNeg, reduceCtorEq, resV, resAll, ARes.ev, LV.flat, ite_true, ite_false, exists_eq_left', exists_eq_left, keyOf, implies_true, fillC, capOf]
  refine condC_dec (fun hlt => ?_) (fun hlt => ?_)
  rotate_left
  · simp (disch := omega) only [f1, f2, f3, f9, f10, f11, f12, f41, f42, f13, f45, f46, ↓SXd, SXu, slBounds, ↓sop, ↓aop, ↓reduceIte, LV.cells, AOp.dst, LV.I, LV.B, LV.U, LV.S, LV.nil, Nat.reduceEqDiff, Nat.reduceAdd, Nat.reduceMul, Nat.reduceSub, Nat.reduceLeDiff, Nat.reduceBEq, Nat.reduceDiv, Nat.reduceMod, Int.reduceToNat, Int.reduceLT, Int.reduceLE, Int.reduceAdd, Int.reduceSub, Int.reduceMul, Int.reduceEq, Int.reduceNeg, reduceCtorEq, resV, resAll, ARes.ev, LV.flat, ite_true, ite_false, exists_eq_left', exists_eq_left, keyOf, implies_true, fillC, capOf]
    exact ⟨qa - 1, by omega, Q, a + 1, tq, tm, by omega, hI, fun a' b' c' d' h1 h2 h3 h4 h5 => hD a' b' c' d' h1 h2 h3 h4 (by omega), f1, f2, f3, f9, f10, f11, f12, f41, eqI (natI _)⟩
  have hba : b < a := by omega
  simp (disch := omega) only [f1, f2, f3, f9, f10, f11, f12, f41, f42, f13, f45, f46, ↓SXd, SXu, slBounds, ↓sop, ↓aop, ↓reduceIte, LV.cells, AOp.dst, LV.I, LV.B, LV.U, LV.S, LV.nil, Nat.reduceEqDiff, Nat.reduceAdd, Nat.reduceMul, Nat.reduceSub, Nat.reduceLeDiff, Nat.reduceBEq, Nat.reduceDiv, Nat.reduceMod, Int.reduceToNat, Int.reduceLT, Int.reduceLE, Int.reduceAdd, Int.reduceSub, Int.reduceMul, Int.reduceEq, Int.reduceNeg, reduceCtorEq, resV, resAll, ARes.ev, LV.flat, ite_true, ite_false, exists_eq_left', exists_eq_left, keyOf, implies_true, fillC, capOf]
  refine ev_loop (fun qc fr M' => ∃ (Q : List (List (List Int) × Nat)) (c tq tm : Nat), c + qc = n ∧ TSt m n M M' T U V k Q i tq tm ∧ DnS Q V n a b c 0 ∧
    fr 1 = .W (setF U) ∧ fr 2 = .I m ∧ fr 3 = .I n ∧ fr 9 = .mp tm ∧ fr 10 = .ref tq 0 Q.length ∧ fr 11 = .I i ∧ fr 12 = .W (setF V) ∧ fr 41 = .I m ∧ fr 42 = .I a ∧ fr 13 = .I a ∧ fr 45 = .I a ∧ fr 46 = .I b ∧ fr 14 = .I b ∧ fr 49 = .I n ∧ fr 50 = .I c) n
    ⟨Q, 0, tq, tm, by omega, hI, hD, f1, f2, f3, f9, f10, f11, f12, f41, f42, f13, f45, f46, rfl, rfl, rfl⟩ ?_
  clear f1 f2 f3 f9 f10 f11 f12 f41 f42 f13 f45 f46 hI hD hlt
  rintro qc fr M' ⟨Q, c, tq, tm, hqc, hI, hD, f1, f2, f3, f9, f10, f11, f12, f41, f42, f13, f45, f46, f14, f49, f50⟩
  simp (disch := omega) only [f1, f2, f3, f9, f10, f11, f12, f41, f42, f13, f45, f46, f14, f49, f50, ↓SXd, SXu, slBounds, ↓sop, ↓aop, ↓reduceIte, LV.cells, AOp.dst, LV.I, LV.B, LV.U, LV.S, LV.nil, Nat.reduceEqDiff, Nat.reduceAdd, Nat.reduceMul, Nat.reduceSub, Nat.reduceLeDiff, Nat.reduceBEq, Nat.reduceDiv, Nat.reduceMod, Int.reduceToNat, Int.reduceLT, Int.reduceLE, Int.reduceAdd, Int.reduceSub, Int.reduceMul, Int.reduceEq, Int.reduceNeg, reduceCtorEq, resV, resAll, ARes.ev, LV.flat, ite_true, ite_false, exists_eq_left', exists_eq_left, keyOf, implies_true, fillC, capOf]
  refine condC_dec (fun hlt => ?_) (fun hlt => ?_)
  rotate_left
  · simp (disch := omega) only [f1, f2, f3, f9, f10, f11, f12, f41, f42, f13, f45, f46, f14, f49, f50, ↓SXd, SXu, slBounds, ↓sop, ↓aop, ↓reduceIte, LV.cells, AOp.dst, LV.I, LV.B, LV.U, LV.S, LV.nil, Nat.reduceEqDiff, Nat.reduceAdd, Nat.reduceMul, Nat.reduceSub, Nat.reduceLeDiff, Nat.reduceBEq, Nat.reduceDiv, Nat.reduceMod, Int.reduceToNat, Int.reduceLT, Int.reduceLE, Int.reduceAdd, Int.reduceSub, Int.reduceMul, Int.reduceEq, Int.reduceNeg, reduceCtorEq, resV, resAll, ARes.ev, LV.flat, ite_true, ite_false, exists_eq_left', exists_eq_left, keyOf, implies_true, fillC, capOf]
    exact ⟨qb - 1, by omega, Q, b + 1, tq, tm, by omega, hI, fun a' b' c' d' h1 h2 h3 h4 h5 => hD a' b' c' d' h1 h2 h3 h4 (by omega), f1, f2, f3, f9, f10, f11, f12, f41, f42, f13, f45, eqI (natI _)⟩
  have hcn : c < n := by omega
  simp (disch := omega) only [f1, f2, f3, f9, f10, f11, f12, f41, f42, f13, f45, f46, f14, f49, f50, ↓SXd, SXu, slBounds, ↓sop, ↓aop, ↓reduceIte, LV.cells, AOp.dst, LV.I, LV.B, LV.U, LV.S, LV.nil, Nat.reduceEqDiff, Nat.reduceAdd, Nat.reduceMul, Nat.reduceSub, Nat.reduceLeDiff, Nat.reduceBEq, Nat.reduceDiv, Nat.reduceMod, Int.reduceToNat, Int.reduceLT, Int.reduceLE, Int.reduceAdd, Int.reduceSub, Int.reduceMul, Int.reduceEq, Int.reduceNeg, reduceCtorEq, resV, resAll, ARes.ev, LV.flat, ite_true, ite_false, exists_eq_left', exists_eq_left, keyOf, implies_true, fillC, capOf]
  refine ev_loop (fun qd fr M' => ∃ (Q : List (List (List Int) × Nat)) (d tq tm : Nat), d + qd = c ∧ TSt m n M M' T U V k Q i tq tm ∧ DnS Q V n a b c d ∧
    fr 1 = .W (setF U) ∧ fr 2 = .I m ∧ fr 3 = .I n ∧ fr 9 = .mp tm ∧ fr 10 = .ref tq 0 Q.length ∧ fr 11 = .I i ∧ fr 12 = .W (setF V) ∧ fr 41 = .I m ∧ fr 42 = .I a ∧ fr 13 = .I a ∧ fr 45 = .I a ∧ fr 46 = .I b ∧ fr 14 = .I b ∧ fr 49 = .I n ∧ fr 50 = .I c ∧ fr 15 = .I c ∧ fr 53 = .I c ∧ fr 54 = .I d) c
    ⟨Q, 0, tq, tm, by omega, hI, hD, f1, f2, f3, f9, f10, f11, f12, f41, f42, f13, f45, f46, f14, f49, f50, rfl, rfl, rfl⟩ ?_
  clear f1 f2 f3 f9 f10 f11 f12 f41 f42 f13 f45 f46 f14 f49 f50 hI hD hlt
  rintro qd fr M' ⟨Q, d, tq, tm, hqd, hI, hD, f1, f2, f3, f9, f10, f11, f12, f41, f42, f13, f45, f46, f14, f49, f50, f15, f53, f54⟩
  simp (disch := omega) only [f1, f2, f3, f9, f10, f11, f12, f41, f42, f13, f45, f46, f14, f49, f50, f15, f53, f54, ↓SXd, SXu, slBounds, ↓sop, ↓aop, ↓reduceIte, LV.cells, AOp.dst, LV.I, LV.B, LV.U, LV.S, LV.nil, Nat.reduceEqDiff, Nat.reduceAdd, Nat.reduceMul, Nat.reduceSub, Nat.reduceLeDiff, Nat.reduceBEq, Nat.reduceDiv, Nat.reduceMod, Int.reduceToNat, Int.reduceLT, Int.reduceLE, Int.reduceAdd, Int.reduceSub, Int.reduceMul, Int.reduceEq, Int.reduceNeg, reduceCtorEq, resV, resAll, ARes.ev, LV.flat, ite_true, ite_false, exists_eq_left', exists_eq_left, keyOf, implies_true, fillC, capOf]
  refine condC_dec (fun hlt => ?_) (fun hlt => ?_)
  rotate_left
  · simp (disch := omega) only [f1, f2, f3, f9, f10, f11, f12, f41, f42, f13, f45, f46, f14, f49, f50, f15, f53, f54, ↓SXd, SXu, slBounds, ↓sop, ↓aop, ↓reduceIte, LV.cells, AOp.dst, LV.I, LV.B, LV.U, LV.S, LV.nil, Nat.reduceEqDiff, Nat.reduceAdd, Nat.reduceMul, Nat.reduceSub, Nat.reduceLeDiff, Nat.reduceBEq, Nat.reduceDiv, Nat.reduceMod, Int.reduceToNat, Int.reduceLT, Int.reduceLE, Int.reduceAdd, Int.reduceSub, Int.reduceMul, Int.reduceEq, Int.reduceNeg, reduceCtorEq, resV, resAll, ARes.ev, LV.flat, ite_true, ite_false, exists_eq_left', exists_eq_left, keyOf, implies_true, fillC, capOf]
    exact ⟨qc - 1, by omega, Q, c + 1, tq, tm, by omega, hI, fun a' b' c' d' h1 h2 h3 h4 h5 => hD a' b' c' d' h1 h2 h3 h4 (by omega), f1, f2, f3, f9, f10, f11, f12, f41, f42, f13, f45, f46, f14, f49, eqI (natI _)⟩
  have hdc : d < c := by omega
  have hma : ((a : Nat) : Int) * ((n : Nat) : Int) = ((a * n : Nat) : Int) := by rw [Int.natCast_mul]
  have hmb : ((b : Nat) : Int) * ((n : Nat) : Int) = ((b * n : Nat) : Int) := by rw [Int.natCast_mul]
  have l1 := cel_lt hm.2 hn.2 ham hcn
  have l2 := cel_lt hm.2 hn.2 (show b < m by omega) hcn
  have g1 := fun {Z : Mem} => has_at (Z := Z) hm.2 hn.2 hVO ham hcn
  have g2 := fun {Z : Mem} => has_at (Z := Z) hm.2 hn.2 hVO ham (show d < n by omega)
  have g3 := fun {Z : Mem} => has_at (Z := Z) hm.2 hn.2 hVO (show b < m by omega) hcn
  have g4 := fun {Z : Mem} => has_at (Z := Z) hm.2 hn.2 hVO (show b < m by omega) (show d < n by omega)
  have b1 := hVO.bit ham hcn
  have b2 := hVO.bit ham (show d < n by omega)
  have b3 := hVO.bit (show b < m by omega) hcn
  have b4 := hVO.bit (show b < m by omega) (show d < n by omega)
  simp (disch := omega) only [f1, f2, f3, f9, f10, f11, f12, f41, f42, f13, f45, f46, f14, f49, f50, f15, f53, f54, hma, hmb, ↓SXd, SXu, slBounds, ↓sop, ↓aop, ↓reduceIte, LV.cells, AOp.dst, LV.I, LV.B, LV.U, LV.S, LV.nil, Nat.reduceEqDiff, Nat.reduceAdd, Nat.reduceMul, Nat.reduceSub, Nat.reduceLeDiff, Nat.reduceBEq, Nat.reduceDiv, Nat.reduceMod, Int.reduceToNat, Int.reduceLT, Int.reduceLE, Int.reduceAdd, Int.reduceSub, Int.reduceMul, Int.reduceEq, Int.reduceNeg, reduceCtorEq, resV, resAll, ARes.ev, LV.flat, ite_true, ite_false, exists_eq_left', exists_eq_left, keyOf, implies_true, fillC, capOf]
  refine callK_of g1 ?_
  simp (disch := omega) only [f1, f2, f3, f9, f10, f11, f12, f41, f42, f13, f45, f46, f14, f49, f50, f15, f53, f54, hma, hmb, ↓SXd, SXu, slBounds, ↓sop, ↓aop, ↓reduceIte, LV.cells, AOp.dst, LV.I, LV.B, LV.U, LV.S, LV.nil, Nat.reduceEqDiff, Nat.reduceAdd, Nat.reduceMul, Nat.reduceSub, Nat.reduceLeDiff, Nat.reduceBEq, Nat.reduceDiv, Nat.reduceMod, Int.reduceToNat, Int.reduceLT, Int.reduceLE, Int.reduceAdd, Int.reduceSub, Int.reduceMul, Int.reduceEq, Int.reduceNeg, reduceCtorEq, resV, resAll, ARes.ev, LV.flat, ite_true, ite_false, exists_eq_left', exists_eq_left, keyOf, implies_true, fillC, capOf]
  refine callK_of g2 ?_
  simp (disch := omega) only [f1, f2, f3, f9, f10, f11, f12, f41, f42, f13, f45, f46, f14, f49, f50, f15, f53, f54, hma, hmb, ↓SXd, SXu, slBounds, ↓sop, ↓aop, ↓reduceIte, LV.cells, AOp.dst, LV.I, LV.B, LV.U, LV.S, LV.nil, Nat.reduceEqDiff, Nat.reduceAdd, Nat.reduceMul, Nat.reduceSub, Nat.reduceLeDiff, Nat.reduceBEq, Nat.reduceDiv, Nat.reduceMod, Int.reduceToNat, Int.reduceLT, Int.reduceLE, Int.reduceAdd, Int.reduceSub, Int.reduceMul, Int.reduceEq, Int.reduceNeg, reduceCtorEq, resV, resAll, ARes.ev, LV.flat, ite_true, ite_false, exists_eq_left', exists_eq_left, keyOf, implies_true, fillC, capOf]
  refine callK_of g3 ?_
  simp (disch := omega) only [f1, f2, f3, f9, f10, f11, f12, f41, f42, f13, f45, f46, f14, f49, f50, f15, f53, f54, hma, hmb, ↓SXd, SXu, slBounds, ↓sop, ↓aop, ↓reduceIte, LV.cells, AOp.dst, LV.I, LV.B, LV.U, LV.S, LV.nil, Nat.reduceEqDiff, Nat.reduceAdd, Nat.reduceMul, Nat.reduceSub, Nat.reduceLeDiff, Nat.reduceBEq, Nat.reduceDiv, Nat.reduceMod, Int.reduceToNat, Int.reduceLT, Int.reduceLE, Int.reduceAdd, Int.reduceSub, Int.reduceMul, Int.reduceEq, Int.reduceNeg, reduceCtorEq, resV, resAll, ARes.ev, LV.flat, ite_true, ite_false, exists_eq_left', exists_eq_left, keyOf, implies_true, fillC, capOf]
  refine callK_of g4 ?_
  have hskip : ¬ Cnd V a b c d → DnS Q V n a b c (d + 1) := fun hc a' b' c' d' h1 h2 h3 h4 h5 => by
    by_cases h6 : a' = a ∧ b' = b ∧ c' = c ∧ d' = d
    · obtain ⟨rfl, rfl, rfl, rfl⟩ := h6; exact absurd h4 hc
    · exact hD a' b' c' d' h1 h2 h3 h4 (by omega)
  have hC : Cnd V a b c d ↔ (decide (atT V a c = 1) = decide (atT V b d = 1) ∧ decide (atT V a d = 1) = decide (atT V b c = 1) ∧ ¬ decide (atT V a c = 1) = decide (atT V a d = 1)) := by
    unfold Cnd
    rcases b1 with e1 | e1 <;> rcases b2 with e2 | e2 <;> rcases b3 with e3 | e3 <;> rcases b4 with e4 | e4 <;> rw [e1, e2, e3, e4] <;> decide
  clear g1 g2 g3 g4 b1 b2 b3 b4
  generalize decide (atT V a c = 1) = p at hC ⊢
  generalize decide (atT V a d = 1) = q0 at hC ⊢
  generalize decide (atT V b c = 1) = r at hC ⊢
  generalize decide (atT V b d = 1) = s at hC ⊢
  by_cases e1 : p = s
  rotate_left
  · have e1' := bool_ne e1
    simp (disch := omega) only [f1, f2, f3, f9, f10, f11, f12, f41, f42, f13, f45, f46, f14, f49, f50, f15, f53, f54, e1', ↓SXd, SXu, slBounds, ↓sop, ↓aop, ↓reduceIte, LV.cells, AOp.dst, LV.I, LV.B, LV.U, LV.S, LV.nil, Nat.reduceEqDiff, Nat.reduceAdd, Nat.reduceMul, Nat.reduceSub, Nat.reduceLeDiff, Nat.reduceBEq, Nat.reduceDiv, Nat.reduceMod, Int.reduceToNat, Int.reduceLT, Int.reduceLE, Int.reduceAdd, Int.reduceSub, Int.reduceMul, Int.reduceEq, Int.reduceNeg, reduceCtorEq, resV, resAll, ARes.ev, LV.flat, ite_true, ite_false, exists_eq_left', exists_eq_left, keyOf, implies_true, fillC, capOf]
    exact ⟨qd - 1, by omega, Q, d + 1, tq, tm, by omega, hI, hskip fun h => e1 (hC.1 h).1, f1, f2, f3, f9, f10, f11, f12, f41, f42, f13, f45, f46, f14, f49, f50, f15, f53, eqI (natI _)⟩
  by_cases e2 : q0 = r
  rotate_left
  · have e2' := bool_ne e2
    subst e1
    simp (disch := omega) only [f1, f2, f3, f9, f10, f11, f12, f41, f42, f13, f45, f46, f14, f49, f50, f15, f53, f54, e2', ↓SXd, SXu, slBounds, ↓sop, ↓aop, ↓reduceIte, LV.cells, AOp.dst, LV.I, LV.B, LV.U, LV.S, LV.nil, Nat.reduceEqDiff, Nat.reduceAdd, Nat.reduceMul, Nat.reduceSub, Nat.reduceLeDiff, Nat.reduceBEq, Nat.reduceDiv, Nat.reduceMod, Int.reduceToNat, Int.reduceLT, Int.reduceLE, Int.reduceAdd, Int.reduceSub, Int.reduceMul, Int.reduceEq, Int.reduceNeg, reduceCtorEq, resV, resAll, ARes.ev, LV.flat, ite_true, ite_false, exists_eq_left', exists_eq_left, keyOf, implies_true, fillC, capOf]
    exact ⟨qd - 1, by omega, Q, d + 1, tq, tm, by omega, hI, hskip fun h => e2 (hC.1 h).2.1, f1, f2, f3, f9, f10, f11, f12, f41, f42, f13, f45, f46, f14, f49, f50, f15, f53, eqI (natI _)⟩
  by_cases e3 : p = q0
  · subst e1
    subst e2
    subst e3
    simp (disch := omega) only [f1, f2, f3, f9, f10, f11, f12, f41, f42, f13, f45, f46, f14, f49, f50, f15, f53, f54, ↓SXd, SXu, slBounds, ↓sop, ↓aop, ↓reduceIte, LV.cells, AOp.dst, LV.I, LV.B, LV.U, LV.S, LV.nil, Nat.reduceEqDiff, Nat.reduceAdd, Nat.reduceMul, Nat.reduceSub, Nat.reduceLeDiff, Nat.reduceBEq, Nat.reduceDiv, Nat.reduceMod, Int.reduceToNat, Int.reduceLT, Int.reduceLE, Int.reduceAdd, Int.reduceSub, Int.reduceMul, Int.reduceEq, Int.reduceNeg, reduceCtorEq, resV, resAll, ARes.ev, LV.flat, ite_true, ite_false, exists_eq_left', exists_eq_left, keyOf, implies_true, fillC, capOf]
    exact ⟨qd - 1, by omega, Q, d + 1, tq, tm, by omega, hI, hskip fun h => (hC.1 h).2.2 rfl, f1, f2, f3, f9, f10, f11, f12, f41, f42, f13, f45, f46, f14, f49, f50, f15, f53, eqI (natI _)⟩
  have hCnd := hC.2 ⟨e1, e2, e3⟩
  have e3' := bool_ne e3
  have hsw := setF_sw hm.2 hn.2 hVO ham hba hcn hdc hCnd.1 hCnd.2.1 hCnd.2.2
  have hWG := cnd_sw hVO ham hba hcn hdc hCnd
  have hDW : ∀ Q', (∀ v, v ∈ Q.map (·.1) → v ∈ Q'.map (·.1)) → swT V b a d c ∈ Q'.map (·.1) → DnS Q' V n a b c (d + 1) := fun Q' hm' hw a' b' c' d' h1 h2 h3 h4 h5 => by
    by_cases h6 : a' = a ∧ b' = b ∧ c' = c ∧ d' = d
    · obtain ⟨rfl, rfl, rfl, rfl⟩ := h6; exact hw
    · exact hm' _ (hD a' b' c' d' h1 h2 h3 h4 (by omega))
  subst e1
  subst e2
  have hWO := hWG.ok
  generalize swT V b a d c = W at hsw hWG hDW hWO
  have t1 : (((a * n : Nat) : Int) + (c : Nat)).toNat = a * n + c := by omega
  have t2 : (((a * n : Nat) : Int) + (d : Nat)).toNat = a * n + d := by omega
  have t3 : (((b * n : Nat) : Int) + (c : Nat)).toNat = b * n + c := by omega
  have t4 : (((b * n : Nat) : Int) + (d : Nat)).toNat = b * n + d := by omega
  clear hC hskip hCnd
  obtain ⟨hB, hpre, hnew, hL, hP, hkl, hQi, hil, hno⟩ := hI
  have hVm : (V, k) ∈ Q := List.mem_of_getElem? hQi
  have hlk := lookQ hm.2 hn.2 hP hVO (hQT hB) hB.nod hVm
  by_cases hin : W ∈ Q.map (·.1)
  · obtain ⟨⟨W', kw⟩, hw1, hw2⟩ := List.mem_map.1 hin
    simp only at hw2
    subst hw2
    have hlw := lookQ hm.2 hn.2 hP hWO (hQT hB) hB.nod hw1
    simp (disch := omega) only [f1, f2, f3, f9, f10, f11, f12, f41, f42, f13, f45, f46, f14, f49, f50, f15, f53, f54, e3', hma, hmb, t1, t2, t3, t4, hsw, hlw, Option.getD_some, Option.isSome_some, ↓SXd, SXu, slBounds, ↓sop, ↓aop, ↓reduceIte, LV.cells, AOp.dst, LV.I, LV.B, LV.U, LV.S, LV.nil, Nat.reduceEqDiff, Nat.reduceAdd, Nat.reduceMul, Nat.reduceSub, Nat.reduceLeDiff, Nat.reduceBEq, Nat.reduceDiv, Nat.reduceMod, Int.reduceToNat, Int.reduceLT, Int.reduceLE, Int.reduceAdd, Int.reduceSub, Int.reduceMul, Int.reduceEq, Int.reduceNeg, reduceCtorEq, resV, resAll, ARes.ev, LV.flat, ite_true, ite_false, exists_eq_left', exists_eq_left, keyOf, implies_true, fillC, capOf]
    exact ⟨qd - 1, by omega, Q, d + 1, tq, tm, by omega, ⟨hB, hpre, hnew, hL, hP, hkl, hQi, hil, hno⟩, hDW Q (fun _ h => h) hin, f1, f2, f3, f9, f10, f11, f12, f41, f42, f13, f45, f46, f14, f49, f50, f15, f53, eqI (natI _)⟩
  · have hlw := lookQ0 hm.2 hn.2 hP hWO (hQT hB) hin
    have hQ6 := hQl hB
    have hB2 := hB.add hQi hWG hin
    have hkQ := hkl V k hVm
    obtain ⟨n1, n2, n3⟩ := hnew
    have hLl := hL.lt
    have hPl := hP.lt
    have hMl := hpre.1
    simp (disch := omega) only [f1, f2, f3, f9, f10, f11, f12, f41, f42, f13, f45, f46, f14, f49, f50, f15, f53, f54, e3', hma, hmb, t1, t2, t3, t4, hsw, hlw, hlk, Option.getD_some, Option.getD_none, Option.isSome_none, ↓SXd, SXu, slBounds, ↓sop, ↓aop, ↓reduceIte, LV.cells, AOp.dst, LV.I, LV.B, LV.U, LV.S, LV.nil, Nat.reduceEqDiff, Nat.reduceAdd, Nat.reduceMul, Nat.reduceSub, Nat.reduceLeDiff, Nat.reduceBEq, Nat.reduceDiv, Nat.reduceMod, Int.reduceToNat, Int.reduceLT, Int.reduceLE, Int.reduceAdd, Int.reduceSub, Int.reduceMul, Int.reduceEq, Int.reduceNeg, reduceCtorEq, resV, resAll, ARes.ev, LV.flat, ite_true, ite_false, exists_eq_left', exists_eq_left, keyOf, implies_true, fillC, capOf]
    refine memQ_put (k := k + 1) hm.2 hn.2 hP hWO (hQT hB) hin fun N1 k1 k2 k3 => ?_
    have hL1 := live_step hL n3 k3
    simp (disch := omega) only [f1, f2, f3, f9, f10, f11, f12, f41, f42, f13, f45, f46, f14, f49, f50, f15, f53, f54, ↓SXd, SXu, slBounds, ↓sop, ↓aop, ↓reduceIte, LV.cells, AOp.dst, LV.I, LV.B, LV.U, LV.S, LV.nil, Nat.reduceEqDiff, Nat.reduceAdd, Nat.reduceMul, Nat.reduceSub, Nat.reduceLeDiff, Nat.reduceBEq, Nat.reduceDiv, Nat.reduceMod, Int.reduceToNat, Int.reduceLT, Int.reduceLE, Int.reduceAdd, Int.reduceSub, Int.reduceMul, Int.reduceEq, Int.reduceNeg, reduceCtorEq, resV, resAll, ARes.ev, LV.flat, ite_true, ite_false, exists_eq_left', exists_eq_left, keyOf, implies_true, fillC, capOf]
    refine appendK_1 (acc := setsQ Q) (new := [.W (setF W)]) hL1 (by rw [hsl]; omega) rfl (by omega) (by omega) (by omega) fun N2 j1 j2 j3 => ?_
    simp (disch := omega) only [f1, f2, f3, f9, f10, f11, f12, f41, f42, f13, f45, f46, f14, f49, f50, f15, f53, f54, ↓SXd, SXu, slBounds, ↓sop, ↓aop, ↓reduceIte, LV.cells, AOp.dst, LV.I, LV.B, LV.U, LV.S, LV.nil, Nat.reduceEqDiff, Nat.reduceAdd, Nat.reduceMul, Nat.reduceSub, Nat.reduceLeDiff, Nat.reduceBEq, Nat.reduceDiv, Nat.reduceMod, Int.reduceToNat, Int.reduceLT, Int.reduceLE, Int.reduceAdd, Int.reduceSub, Int.reduceMul, Int.reduceEq, Int.reduceNeg, reduceCtorEq, resV, resAll, ARes.ev, LV.flat, ite_true, ite_false, exists_eq_left', exists_eq_left, keyOf, implies_true, fillC, capOf]
    refine ⟨qd - 1, by omega, Q ++ [(W, k + 1)], d + 1, N1.length + 1, tm, by omega, ⟨hB2, pre_step (pre_step hpre n2 (j := 0) k1 k3) (by omega) j1 j3, by omega, ?_, live_step k2 (by omega) j3, fun v k' hv => ?_, by rw [List.getElem?_append_left hil]; exact hQi, by rw [List.length_append]; omega, fun j v k' hj hv => ?_⟩, hDW _ (fun v hv => by rw [List.map_append]; exact List.mem_append_left _ hv) (by simp), f1, f2, f3, f9, by rw [List.length_append]; rfl, f11, f12, f41, f42, f13, f45, f46, f14, f49, f50, f15, f53, eqI (natI _)⟩
    · have : setsQ (Q ++ [(W, k + 1)]) = setsQ Q ++ [.W (setF W)] := by simp [setsQ]
      rw [this]; exact j2
    · rw [List.length_append, List.length_singleton]
      rcases List.mem_append.1 hv with h | h
      · have := hkl v k' h; omega
      · simp at h; omega
    · rw [List.getElem?_append_left (by omega)] at hv
      exact hno j v k' hj hv
end Go.Ab

/- Contracts: the least number of switches between heaps (program). -/
namespace Go.Ab
open Go
set_option linter.unusedSimpArgs false
set_option linter.unusedVariables false
set_option maxRecDepth 20000

theorem g_FewestSwitches {x y z x' y' z' a b : Int} {t t' : Nat} {w w' : Bool} {cs ds : List Cell} {M : Mem} (h : Live M t (.row (triL cs) w 3)) (hn : cs.length ≤ 1000000000) (h' : Live M t' (.row (triL ds) w' 3)) (hn' : ds.length ≤ 1000000000) :
    CallsR PG F.impl_FewestSwitches [.agg [.I x, .I y, .I z, .ref t 0 cs.length], .agg [.I x', .I y', .I z', .ref t' 0 ds.length], .I a, .I b] M fun v N => v = fewSw x y z cs ds x' y' z' a b ∧ Pre M N := by
  have hTri : Tri M t 0 cs := h.has
  have hTri' : Tri M t' 0 ds := h'.has
  refine callsR_run K.impl_FewestSwitches rfl ?_
  simp (disch := omega) only [C.impl_FewestSwitches, ↓SXd, SXu, slBounds, ↓sop, ↓aop, ↓reduceIte, LV.cells, AOp.dst, LV.I, LV.B, LV.U, LV.S, LV.nil, Nat.reduceEqDiff, Nat.reduceAdd, Nat.reduceMul, Nat.reduceSub, Nat.reduceLeDiff, Nat.reduceBEq, Nat.reduceDiv, Nat.reduceMod, Int.reduceToNat, Int.reduceLT, Int.reduceLE, Int.reduceAdd, Int.reduceSub, Int.reduceMul, Int.reduceEq, Int.reduceNeg, reduceCtorEq, resV, resAll, ARes.ev, LV.flat, ite_true, ite_false, exists_eq_left', exists_eq_left, keyOf, implies_true, fillC, capOf]
  refine callK_of (g_areAlike h.app hn h'.app hn') ?_
  simp (disch := omega) only [↓SXd, SXu, slBounds, ↓sop, ↓aop, ↓reduceIte, LV.cells, AOp.dst, LV.I, LV.B, LV.U, LV.S, LV.nil, Nat.reduceEqDiff, Nat.reduceAdd, Nat.reduceMul, Nat.reduceSub, Nat.reduceLeDiff, Nat.reduceBEq, Nat.reduceDiv, Nat.reduceMod, Int.reduceToNat, Int.reduceLT, Int.reduceLE, Int.reduceAdd, Int.reduceSub, Int.reduceMul, Int.reduceEq, Int.reduceNeg, reduceCtorEq, resV, resAll, ARes.ev, LV.flat, ite_true, ite_false, exists_eq_left', exists_eq_left, keyOf, implies_true, fillC, capOf]
  by_cases hA : Alike x y z cs x' y' z' ds
  rotate_left
  · rw [decide_eq_false hA]
    simp (disch := omega) only [splice, ↓SXd, SXu, slBounds, ↓sop, ↓aop, ↓reduceIte, LV.cells, AOp.dst, LV.I, LV.B, LV.U, LV.S, LV.nil, Nat.reduceEqDiff, Nat.reduceAdd, Nat.reduceMul, Nat.reduceSub, Nat.reduceLeDiff, Nat.reduceBEq, Nat.reduceDiv, Nat.reduceMod, Int.reduceToNat, Int.reduceLT, Int.reduceLE, Int.reduceAdd, Int.reduceSub, Int.reduceMul, Int.reduceEq, Int.reduceNeg, reduceCtorEq, resV, resAll, ARes.ev, LV.flat, ite_true, ite_false, exists_eq_left', exists_eq_left, keyOf, implies_true, fillC, capOf]
    exact ⟨(if_neg fun e => hA e.2.1).symm, Pre.app _ _⟩
  rw [decide_eq_true hA]
  obtain ⟨hH, hD, rfl, rfl, rfl⟩ := id hA
  have hS := hH.1
  simp (disch := omega) only [↓SXd, SXu, slBounds, ↓sop, ↓aop, ↓reduceIte, LV.cells, AOp.dst, LV.I, LV.B, LV.U, LV.S, LV.nil, Nat.reduceEqDiff, Nat.reduceAdd, Nat.reduceMul, Nat.reduceSub, Nat.reduceLeDiff, Nat.reduceBEq, Nat.reduceDiv, Nat.reduceMod, Int.reduceToNat, Int.reduceLT, Int.reduceLE, Int.reduceAdd, Int.reduceSub, Int.reduceMul, Int.reduceEq, Int.reduceNeg, reduceCtorEq, resV, resAll, ARes.ev, LV.flat, ite_true, ite_false, exists_eq_left', exists_eq_left, keyOf, implies_true, fillC, capOf]
  refine callK_of (g_areDirections) ?_
  simp (disch := omega) only [↓SXd, SXu, slBounds, ↓sop, ↓aop, ↓reduceIte, LV.cells, AOp.dst, LV.I, LV.B, LV.U, LV.S, LV.nil, Nat.reduceEqDiff, Nat.reduceAdd, Nat.reduceMul, Nat.reduceSub, Nat.reduceLeDiff, Nat.reduceBEq, Nat.reduceDiv, Nat.reduceMod, Int.reduceToNat, Int.reduceLT, Int.reduceLE, Int.reduceAdd, Int.reduceSub, Int.reduceMul, Int.reduceEq, Int.reduceNeg, reduceCtorEq, resV, resAll, ARes.ev, LV.flat, ite_true, ite_false, exists_eq_left', exists_eq_left, keyOf, implies_true, fillC, capOf]
  by_cases hdr : (0 ≤ a ∧ a ≤ 2) ∧ (0 ≤ b ∧ b ≤ 2) ∧ ¬ a = b
  rotate_left
  · rw [decide_eq_false hdr]
    simp (disch := omega) only [splice, ↓SXd, SXu, slBounds, ↓sop, ↓aop, ↓reduceIte, LV.cells, AOp.dst, LV.I, LV.B, LV.U, LV.S, LV.nil, Nat.reduceEqDiff, Nat.reduceAdd, Nat.reduceMul, Nat.reduceSub, Nat.reduceLeDiff, Nat.reduceBEq, Nat.reduceDiv, Nat.reduceMod, Int.reduceToNat, Int.reduceLT, Int.reduceLE, Int.reduceAdd, Int.reduceSub, Int.reduceMul, Int.reduceEq, Int.reduceNeg, reduceCtorEq, resV, resAll, ARes.ev, LV.flat, ite_true, ite_false, exists_eq_left', exists_eq_left, keyOf, implies_true, fillC, capOf]
    exact ⟨(if_neg fun e => hdr e.1.2).symm, Pre.app _ _⟩
  rw [decide_eq_true hdr]
  obtain ⟨ha, hb, hab⟩ := id hdr
  have hTw : TwoOK x y z cs a b := ⟨hH, hdr⟩
  obtain ⟨an, rfl⟩ : ∃ an : Nat, a = an := ⟨a.toNat, by omega⟩
  obtain ⟨bn, rfl⟩ : ∃ bn : Nat, b = bn := ⟨b.toNat, by omega⟩
  simp (disch := omega) only [↓SXd, SXu, slBounds, ↓sop, ↓aop, ↓reduceIte, LV.cells, AOp.dst, LV.I, LV.B, LV.U, LV.S, LV.nil, Nat.reduceEqDiff, Nat.reduceAdd, Nat.reduceMul, Nat.reduceSub, Nat.reduceLeDiff, Nat.reduceBEq, Nat.reduceDiv, Nat.reduceMod, Int.reduceToNat, Int.reduceLT, Int.reduceLE, Int.reduceAdd, Int.reduceSub, Int.reduceMul, Int.reduceEq, Int.reduceNeg, reduceCtorEq, resV, resAll, ARes.ev, LV.flat, ite_true, ite_false, exists_eq_left', exists_eq_left, keyOf, implies_true, fillC, capOf]
  refine callK_of (g_alike hTri.app hTri'.app hH hD (by omega) (by omega)) ?_
  by_cases hV : viewL x y z an cs = viewL x y z an ds ∧ viewL x y z bn cs = viewL x y z bn ds
  rotate_left
  · rw [decide_eq_false hV]
    simp (disch := omega) only [splice, ↓SXd, SXu, slBounds, ↓sop, ↓aop, ↓reduceIte, LV.cells, AOp.dst, LV.I, LV.B, LV.U, LV.S, LV.nil, Nat.reduceEqDiff, Nat.reduceAdd, Nat.reduceMul, Nat.reduceSub, Nat.reduceLeDiff, Nat.reduceBEq, Nat.reduceDiv, Nat.reduceMod, Int.reduceToNat, Int.reduceLT, Int.reduceLE, Int.reduceAdd, Int.reduceSub, Int.reduceMul, Int.reduceEq, Int.reduceNeg, reduceCtorEq, resV, resAll, ARes.ev, LV.flat, ite_true, ite_false, exists_eq_left', exists_eq_left, keyOf, implies_true, fillC, capOf]
    exact ⟨(if_neg fun e => hV ⟨by simpa using e.2.2.1, by simpa using e.2.2.2⟩).symm, Pre.app _ _⟩
  rw [decide_eq_true hV]
  simp (disch := omega) only [↓SXd, SXu, slBounds, ↓sop, ↓aop, ↓reduceIte, LV.cells, AOp.dst, LV.I, LV.B, LV.U, LV.S, LV.nil, Nat.reduceEqDiff, Nat.reduceAdd, Nat.reduceMul, Nat.reduceSub, Nat.reduceLeDiff, Nat.reduceBEq, Nat.reduceDiv, Nat.reduceMod, Int.reduceToNat, Int.reduceLT, Int.reduceLE, Int.reduceAdd, Int.reduceSub, Int.reduceMul, Int.reduceEq, Int.reduceNeg, reduceCtorEq, resV, resAll, ARes.ev, LV.flat, ite_true, ite_false, exists_eq_left', exists_eq_left, keyOf, implies_true, fillC, capOf]
  refine callK_of (g_third ha hb) ?_
  simp (disch := omega) only [↓SXd, SXu, slBounds, ↓sop, ↓aop, ↓reduceIte, LV.cells, AOp.dst, LV.I, LV.B, LV.U, LV.S, LV.nil, Nat.reduceEqDiff, Nat.reduceAdd, Nat.reduceMul, Nat.reduceSub, Nat.reduceLeDiff, Nat.reduceBEq, Nat.reduceDiv, Nat.reduceMod, Int.reduceToNat, Int.reduceLT, Int.reduceLE, Int.reduceAdd, Int.reduceSub, Int.reduceMul, Int.reduceEq, Int.reduceNeg, reduceCtorEq, resV, resAll, ARes.ev, LV.flat, ite_true, ite_false, exists_eq_left', exists_eq_left, keyOf, implies_true, fillC, capOf]
  have hres : fewSw x y z cs ds x y z an bn = .tup [.I (sN (sideOf x y z (3 - an - bn)).toNat (farK x y z cs ds (3 - (an : Int) - bn).toNat)), .B true] := if_pos ⟨hTw, hA, by simpa using hV.1, by simpa using hV.2⟩
  obtain ⟨d, hd0⟩ : ∃ d : Nat, d = 3 - an - bn := ⟨_, rfl⟩
  have hdi : 3 - (an : Int) - bn = ((d : Nat) : Int) := by omega
  have hd : d < 3 := by omega
  obtain ⟨vA, vB⟩ := third_dirs (P := fun e => viewL x y z e cs = viewL x y z e ds) (by omega) (by omega) (by omega) hd0 hV.1 hV.2
  rw [hres, hdi]
  rw [Int.toNat_natCast]
  clear hres hdi hd0 hA hTw hab hV ha hb hdr
  have hdd : Dir (d : Nat) := by unfold Dir; omega
  have sA := sideOf_in hS (dirA d)
  have sB := sideOf_in hS (dirB d)
  have sD := sideOf_in hS (d : Nat)
  have hsD := sideB_row (x := x) (y := y) (z := z) hdd
  rw [Int.toNat_natCast] at hsD
  simp (disch := omega) only [↓SXd, SXu, slBounds, ↓sop, ↓aop, ↓reduceIte, LV.cells, AOp.dst, LV.I, LV.B, LV.U, LV.S, LV.nil, Nat.reduceEqDiff, Nat.reduceAdd, Nat.reduceMul, Nat.reduceSub, Nat.reduceLeDiff, Nat.reduceBEq, Nat.reduceDiv, Nat.reduceMod, Int.reduceToNat, Int.reduceLT, Int.reduceLE, Int.reduceAdd, Int.reduceSub, Int.reduceMul, Int.reduceEq, Int.reduceNeg, reduceCtorEq, resV, resAll, ARes.ev, LV.flat, ite_true, ite_false, exists_eq_left', exists_eq_left, keyOf, implies_true, fillC, capOf]
  refine callK_of (g_box) ?_
  simp (disch := omega) only [splice, hsD, ↓SXd, SXu, slBounds, ↓sop, ↓aop, ↓reduceIte, LV.cells, AOp.dst, LV.I, LV.B, LV.U, LV.S, LV.nil, Nat.reduceEqDiff, Nat.reduceAdd, Nat.reduceMul, Nat.reduceSub, Nat.reduceLeDiff, Nat.reduceBEq, Nat.reduceDiv, Nat.reduceMod, Int.reduceToNat, Int.reduceLT, Int.reduceLE, Int.reduceAdd, Int.reduceSub, Int.reduceMul, Int.reduceEq, Int.reduceNeg, reduceCtorEq, resV, resAll, ARes.ev, LV.flat, ite_true, ite_false, exists_eq_left', exists_eq_left, keyOf, implies_true, fillC, capOf]
  refine ev_loop (fun m fr M' => ∃ (k : Nat), k + m = (sideOf x y z (d : Nat)).toNat ∧ Pre M M' ∧ Live M' M.length (.row [.I x, .I y, .I z, .ref t 0 cs.length] true 0) ∧ Live M' (M.length + 1) (.row [.I x, .I y, .I z, .ref t' 0 ds.length] true 0) ∧
    fr 4 = .ptr M.length 0 ∧ fr 5 = .ptr (M.length + 1) 0 ∧ fr 10 = .I (sN k (farK x y z cs ds d)) ∧ fr 11 = .I (d : Nat) ∧ fr 43 = .I (sideOf x y z (d : Nat)) ∧ fr 44 = .I k) (sideOf x y z (d : Nat)).toNat
    ⟨0, by omega, Pre.app _ _, Live.new, Live.newj rfl, rfl, rfl, rfl, rfl, rfl, rfl⟩ ?_
  rintro m fr M' ⟨k, hk, hpre, b4, b5, f4, f5, f10, f11, f43, f44⟩
  simp (disch := omega) only [f4, f5, f10, f11, f43, f44, ↓SXd, SXu, slBounds, ↓sop, ↓aop, ↓reduceIte, LV.cells, AOp.dst, LV.I, LV.B, LV.U, LV.S, LV.nil, Nat.reduceEqDiff, Nat.reduceAdd, Nat.reduceMul, Nat.reduceSub, Nat.reduceLeDiff, Nat.reduceBEq, Nat.reduceDiv, Nat.reduceMod, Int.reduceToNat, Int.reduceLT, Int.reduceLE, Int.reduceAdd, Int.reduceSub, Int.reduceMul, Int.reduceEq, Int.reduceNeg, reduceCtorEq, resV, resAll, ARes.ev, LV.flat, ite_true, ite_false, exists_eq_left', exists_eq_left, keyOf, implies_true, fillC, capOf]
  have hbd := farK_in (x := x) (y := y) (z := z) (cs := cs) (ds := ds) (d := d) (n := k)
  refine condC_dec (fun hlt => ?_) (fun hlt => ?_)
  rotate_left
  · have hks : k = (sideOf x y z (d : Nat)).toNat := by omega
    subst hks
    simp (disch := omega) only [f4, f5, f10, f11, f43, f44, ↓SXd, SXu, slBounds, ↓sop, ↓aop, ↓reduceIte, LV.cells, AOp.dst, LV.I, LV.B, LV.U, LV.S, LV.nil, Nat.reduceEqDiff, Nat.reduceAdd, Nat.reduceMul, Nat.reduceSub, Nat.reduceLeDiff, Nat.reduceBEq, Nat.reduceDiv, Nat.reduceMod, Int.reduceToNat, Int.reduceLT, Int.reduceLE, Int.reduceAdd, Int.reduceSub, Int.reduceMul, Int.reduceEq, Int.reduceNeg, reduceCtorEq, resV, resAll, ARes.ev, LV.flat, ite_true, ite_false, exists_eq_left', exists_eq_left, keyOf, implies_true, fillC, capOf]
    exact ⟨rfl, hpre⟩
  have hks : 0 ≤ (k : Int) ∧ (k : Int) < sideOf x y z (d : Nat) := by omega
  simp (disch := omega) only [f4, f5, f10, f11, f43, f44, b4.cells, b5.cells, ↓SXd, SXu, slBounds, ↓sop, ↓aop, ↓reduceIte, LV.cells, AOp.dst, LV.I, LV.B, LV.U, LV.S, LV.nil, Nat.reduceEqDiff, Nat.reduceAdd, Nat.reduceMul, Nat.reduceSub, Nat.reduceLeDiff, Nat.reduceBEq, Nat.reduceDiv, Nat.reduceMod, Int.reduceToNat, Int.reduceLT, Int.reduceLE, Int.reduceAdd, Int.reduceSub, Int.reduceMul, Int.reduceEq, Int.reduceNeg, reduceCtorEq, resV, resAll, ARes.ev, LV.flat, ite_true, ite_false, exists_eq_left', exists_eq_left, keyOf, implies_true, fillC, capOf]
  refine callR_of (g_layerS (hTri.pre hpre) hH hd hks) ?_
  rintro _ N1 ⟨r1, c1, rfl, hp1, _, _⟩
  simp (disch := omega) only [f4, f5, f10, f11, f43, f44, (b4.pre hp1).cells, (b5.pre hp1).cells, splice, ↓SXd, SXu, slBounds, ↓sop, ↓aop, ↓reduceIte, LV.cells, AOp.dst, LV.I, LV.B, LV.U, LV.S, LV.nil, Nat.reduceEqDiff, Nat.reduceAdd, Nat.reduceMul, Nat.reduceSub, Nat.reduceLeDiff, Nat.reduceBEq, Nat.reduceDiv, Nat.reduceMod, Int.reduceToNat, Int.reduceLT, Int.reduceLE, Int.reduceAdd, Int.reduceSub, Int.reduceMul, Int.reduceEq, Int.reduceNeg, reduceCtorEq, resV, resAll, ARes.ev, LV.flat, ite_true, ite_false, exists_eq_left', exists_eq_left, keyOf, implies_true, fillC, capOf]
  refine callR_of (g_layerS (hTri'.pre (hpre.trans hp1)) hD hd hks) ?_
  rintro _ N2 ⟨r2, c2, rfl, hp2, _, _⟩
  have hcl := colsV_len (x := x) (y := y) (z := z) (d := d) (cs := cs) (k := k)
  have hrl := rowsV_len (x := x) (y := y) (z := z) (d := d) (cs := cs) (k := k)
  simp (disch := omega) only [f4, f5, f10, f11, f43, f44, splice, ↓SXd, SXu, slBounds, ↓sop, ↓aop, ↓reduceIte, LV.cells, AOp.dst, LV.I, LV.B, LV.U, LV.S, LV.nil, Nat.reduceEqDiff, Nat.reduceAdd, Nat.reduceMul, Nat.reduceSub, Nat.reduceLeDiff, Nat.reduceBEq, Nat.reduceDiv, Nat.reduceMod, Int.reduceToNat, Int.reduceLT, Int.reduceLE, Int.reduceAdd, Int.reduceSub, Int.reduceMul, Int.reduceEq, Int.reduceNeg, reduceCtorEq, resV, resAll, ARes.ev, LV.flat, ite_true, ite_false, exists_eq_left', exists_eq_left, keyOf, implies_true, fillC, capOf]
  rw [hcl, hrl]
  refine callR_of (g_tableSwitches (n := layN x y z d) layT_ok layT_ok (by omega) (by unfold layN; omega) (lay_same hS hd hks hH hD vA vB)) ?_
  rintro _ N3 ⟨q, rfl, hq, hF, hp3⟩
  have hfq : farK x y z cs ds d k = (q : Nat) := by unfold farK; rw [farOf_eq hq hF]
  have hpN := ((hp1.trans hp2).trans hp3)
  simp (disch := omega) only [f4, f5, f10, f11, f43, f44, ↓SXd, SXu, slBounds, ↓sop, ↓aop, ↓reduceIte, LV.cells, AOp.dst, LV.I, LV.B, LV.U, LV.S, LV.nil, Nat.reduceEqDiff, Nat.reduceAdd, Nat.reduceMul, Nat.reduceSub, Nat.reduceLeDiff, Nat.reduceBEq, Nat.reduceDiv, Nat.reduceMod, Int.reduceToNat, Int.reduceLT, Int.reduceLE, Int.reduceAdd, Int.reduceSub, Int.reduceMul, Int.reduceEq, Int.reduceNeg, reduceCtorEq, resV, resAll, ARes.ev, LV.flat, ite_true, ite_false, exists_eq_left', exists_eq_left, keyOf, implies_true, fillC, capOf]
  exact ⟨m - 1, by omega, k + 1, by omega, hpre.trans hpN, b4.pre hpN, b5.pre hpN, f4, f5, by rw [← hfq]; rfl, f11, f43, eqI (natI _)⟩
end Go.Ab

/- The law of FewestSwitches. -/
namespace Go.Ab
open Go
set_option linter.unusedSimpArgs false
set_option linter.unusedVariables false
set_option maxRecDepth 20000

theorem fewSw_tup {x y z x' y' z' a b : Int} {cs ds : List Cell} : ∃ (s : Int) (e : Bool), fewSw x y z cs ds x' y' z' a b = .tup [.I s, .B e] := by
  unfold fewSw; split
  · exact ⟨_, _, rfl⟩
  · exact ⟨_, _, rfl⟩
theorem l_FewestSwitches {x y z x' y' z' a b : Int} {t o t' o' : Nat} {cs ds : List Cell} {M : Mem} (h : Tri M t o cs) (hn0 : cs.length ≤ 9223372036854775807) (h' : Tri M t' o' ds) (hn0' : ds.length ≤ 9223372036854775807) :
    CallsR PG F.laws_FnExactFewestSwitches [.agg [.I x, .I y, .I z, .ref t o cs.length], .agg [.I x', .I y', .I z', .ref t' o' ds.length], .I a, .I b] M fun v _ => v = .B true := by
  have ht := h.lt
  have ht' := h'.lt
  refine callsR_run K.laws_FnExactFewestSwitches rfl ?_
  simp (disch := omega) only [C.laws_FnExactFewestSwitches, ↓SXd, SXu, slBounds, ↓sop, ↓aop, ↓reduceIte, LV.cells, AOp.dst, LV.I, LV.B, LV.U, LV.S, LV.nil, Nat.reduceEqDiff, Nat.reduceAdd, Nat.reduceMul, Nat.reduceSub, Nat.reduceLeDiff, Nat.reduceBEq, Nat.reduceDiv, Nat.reduceMod, Int.reduceToNat, Int.reduceLT, Int.reduceLE, Int.reduceAdd, Int.reduceSub, Int.reduceMul, Int.reduceEq, Int.reduceNeg, reduceCtorEq, resV, resAll, ARes.ev, LV.flat, ite_true, ite_false, exists_eq_left', exists_eq_left, keyOf, implies_true, fillC, capOf]
  refine callK_of (h_szHeap (by omega) (by omega) (by omega)) ?_
  simp (disch := omega) only [↓SXd, SXu, slBounds, ↓sop, ↓aop, ↓reduceIte, LV.cells, AOp.dst, LV.I, LV.B, LV.U, LV.S, LV.nil, Nat.reduceEqDiff, Nat.reduceAdd, Nat.reduceMul, Nat.reduceSub, Nat.reduceLeDiff, Nat.reduceBEq, Nat.reduceDiv, Nat.reduceMod, Int.reduceToNat, Int.reduceLT, Int.reduceLE, Int.reduceAdd, Int.reduceSub, Int.reduceMul, Int.reduceEq, Int.reduceNeg, reduceCtorEq, resV, resAll, ARes.ev, LV.flat, ite_true, ite_false, exists_eq_left', exists_eq_left, keyOf, implies_true, fillC, capOf]
  by_cases hl : (1048576 : Int) < (cs.length : Nat)
  · rw [if_pos hl]
    simp (disch := omega) only [Int.reduceLT, ↓SXd, SXu, slBounds, ↓sop, ↓aop, ↓reduceIte, LV.cells, AOp.dst, LV.I, LV.B, LV.U, LV.S, LV.nil, Nat.reduceEqDiff, Nat.reduceAdd, Nat.reduceMul, Nat.reduceSub, Nat.reduceLeDiff, Nat.reduceBEq, Nat.reduceDiv, Nat.reduceMod, Int.reduceToNat, Int.reduceLT, Int.reduceLE, Int.reduceAdd, Int.reduceSub, Int.reduceMul, Int.reduceEq, Int.reduceNeg, reduceCtorEq, resV, resAll, ARes.ev, LV.flat, ite_true, ite_false, exists_eq_left', exists_eq_left, keyOf, implies_true, fillC, capOf]
    rfl
  · rw [if_neg hl]
    have hn : cs.length ≤ 1000000000 := by omega
    simp (disch := omega) only [↓SXd, SXu, slBounds, ↓sop, ↓aop, ↓reduceIte, LV.cells, AOp.dst, LV.I, LV.B, LV.U, LV.S, LV.nil, Nat.reduceEqDiff, Nat.reduceAdd, Nat.reduceMul, Nat.reduceSub, Nat.reduceLeDiff, Nat.reduceBEq, Nat.reduceDiv, Nat.reduceMod, Int.reduceToNat, Int.reduceLT, Int.reduceLE, Int.reduceAdd, Int.reduceSub, Int.reduceMul, Int.reduceEq, Int.reduceNeg, reduceCtorEq, resV, resAll, ARes.ev, LV.flat, ite_true, ite_false, exists_eq_left', exists_eq_left, keyOf, implies_true, fillC, capOf]
    refine callK_of (h_szHeap (by omega) (by omega) (by omega)) ?_
    simp (disch := omega) only [↓SXd, SXu, slBounds, ↓sop, ↓aop, ↓reduceIte, LV.cells, AOp.dst, LV.I, LV.B, LV.U, LV.S, LV.nil, Nat.reduceEqDiff, Nat.reduceAdd, Nat.reduceMul, Nat.reduceSub, Nat.reduceLeDiff, Nat.reduceBEq, Nat.reduceDiv, Nat.reduceMod, Int.reduceToNat, Int.reduceLT, Int.reduceLE, Int.reduceAdd, Int.reduceSub, Int.reduceMul, Int.reduceEq, Int.reduceNeg, reduceCtorEq, resV, resAll, ARes.ev, LV.flat, ite_true, ite_false, exists_eq_left', exists_eq_left, keyOf, implies_true, fillC, capOf]
    by_cases hl' : (1048576 : Int) - (cs.length : Nat) < (ds.length : Nat)
    · rw [if_pos hl']
      simp (disch := omega) only [Int.reduceLT, ↓SXd, SXu, slBounds, ↓sop, ↓aop, ↓reduceIte, LV.cells, AOp.dst, LV.I, LV.B, LV.U, LV.S, LV.nil, Nat.reduceEqDiff, Nat.reduceAdd, Nat.reduceMul, Nat.reduceSub, Nat.reduceLeDiff, Nat.reduceBEq, Nat.reduceDiv, Nat.reduceMod, Int.reduceToNat, Int.reduceLT, Int.reduceLE, Int.reduceAdd, Int.reduceSub, Int.reduceMul, Int.reduceEq, Int.reduceNeg, reduceCtorEq, resV, resAll, ARes.ev, LV.flat, ite_true, ite_false, exists_eq_left', exists_eq_left, keyOf, implies_true, fillC, capOf]
      rfl
    · rw [if_neg hl']
      have hn' : ds.length ≤ 1000000000 := by omega
      simp (disch := omega) only [↓SXd, SXu, slBounds, ↓sop, ↓aop, ↓reduceIte, LV.cells, AOp.dst, LV.I, LV.B, LV.U, LV.S, LV.nil, Nat.reduceEqDiff, Nat.reduceAdd, Nat.reduceMul, Nat.reduceSub, Nat.reduceLeDiff, Nat.reduceBEq, Nat.reduceDiv, Nat.reduceMod, Int.reduceToNat, Int.reduceLT, Int.reduceLE, Int.reduceAdd, Int.reduceSub, Int.reduceMul, Int.reduceEq, Int.reduceNeg, reduceCtorEq, resV, resAll, ARes.ev, LV.flat, ite_true, ite_false, exists_eq_left', exists_eq_left, keyOf, implies_true, fillC, capOf]
      refine callK_of (h_toHeap h.app hn) ?_
      simp (disch := omega) only [↓SXd, SXu, slBounds, ↓sop, ↓aop, ↓reduceIte, LV.cells, AOp.dst, LV.I, LV.B, LV.U, LV.S, LV.nil, Nat.reduceEqDiff, Nat.reduceAdd, Nat.reduceMul, Nat.reduceSub, Nat.reduceLeDiff, Nat.reduceBEq, Nat.reduceDiv, Nat.reduceMod, Int.reduceToNat, Int.reduceLT, Int.reduceLE, Int.reduceAdd, Int.reduceSub, Int.reduceMul, Int.reduceEq, Int.reduceNeg, reduceCtorEq, resV, resAll, ARes.ev, LV.flat, ite_true, ite_false, exists_eq_left', exists_eq_left, keyOf, implies_true, fillC, capOf]
      refine callK_of (h_toHeap h'.app hn') ?_
      simp (disch := omega) only [↓SXd, SXu, slBounds, ↓sop, ↓aop, ↓reduceIte, LV.cells, AOp.dst, LV.I, LV.B, LV.U, LV.S, LV.nil, Nat.reduceEqDiff, Nat.reduceAdd, Nat.reduceMul, Nat.reduceSub, Nat.reduceLeDiff, Nat.reduceBEq, Nat.reduceDiv, Nat.reduceMod, Int.reduceToNat, Int.reduceLT, Int.reduceLE, Int.reduceAdd, Int.reduceSub, Int.reduceMul, Int.reduceEq, Int.reduceNeg, reduceCtorEq, resV, resAll, ARes.ev, LV.flat, ite_true, ite_false, exists_eq_left', exists_eq_left, keyOf, implies_true, fillC, capOf]
      refine callR_of (h_sFewestSwitches (Live.newj (j := 2) (b := .row (triL cs) true 3) rfl) hn (Live.newj (j := 3) (b := .row (triL ds) true 3) rfl) hn') ?_
      rintro _ N ⟨rfl, hp⟩
      have b1 : Live N M.length (.row [.I x, .I y, .I z, .ref t o cs.length] true 0) := (Live.newj (j := 0) rfl).pre hp
      have b2 : Live N (M.length + 1) (.row [.I x', .I y', .I z', .ref t' o' ds.length] true 0) := (Live.newj (j := 1) rfl).pre hp
      have hM : Pre M N := (Pre.app _ _).trans hp
      have hg := fun {Z : Mem} {u u' : Nat} (k : Live Z u (.row (triL cs) true 3)) (k' : Live Z u' (.row (triL ds) true 3)) => g_FewestSwitches (x := x) (y := y) (z := z) (x' := x') (y' := y') (z' := z') (a := a) (b := b) k hn k' hn'
      obtain ⟨s, e, hse⟩ := fewSw_tup (x := x) (y := y) (z := z) (x' := x') (y' := y') (z' := z') (a := a) (b := b) (cs := cs) (ds := ds)
      rw [hse] at hg ⊢
      simp (disch := omega) only [(keepL_pr hp), b1.cells, splice, ↓SXd, SXu, slBounds, ↓sop, ↓aop, ↓reduceIte, LV.cells, AOp.dst, LV.I, LV.B, LV.U, LV.S, LV.nil, Nat.reduceEqDiff, Nat.reduceAdd, Nat.reduceMul, Nat.reduceSub, Nat.reduceLeDiff, Nat.reduceBEq, Nat.reduceDiv, Nat.reduceMod, Int.reduceToNat, Int.reduceLT, Int.reduceLE, Int.reduceAdd, Int.reduceSub, Int.reduceMul, Int.reduceEq, Int.reduceNeg, reduceCtorEq, resV, resAll, ARes.ev, LV.flat, ite_true, ite_false, exists_eq_left', exists_eq_left, keyOf, implies_true, fillC, capOf]
      refine callK_of (h_toHeap (h.pre hM) hn) ?_
      simp (disch := omega) only [b2.app.cells, ↓SXd, SXu, slBounds, ↓sop, ↓aop, ↓reduceIte, LV.cells, AOp.dst, LV.I, LV.B, LV.U, LV.S, LV.nil, Nat.reduceEqDiff, Nat.reduceAdd, Nat.reduceMul, Nat.reduceSub, Nat.reduceLeDiff, Nat.reduceBEq, Nat.reduceDiv, Nat.reduceMod, Int.reduceToNat, Int.reduceLT, Int.reduceLE, Int.reduceAdd, Int.reduceSub, Int.reduceMul, Int.reduceEq, Int.reduceNeg, reduceCtorEq, resV, resAll, ARes.ev, LV.flat, ite_true, ite_false, exists_eq_left', exists_eq_left, keyOf, implies_true, fillC, capOf]
      refine callK_of (h_toHeap (h'.pre hM).app hn') ?_
      simp (disch := omega) only [↓SXd, SXu, slBounds, ↓sop, ↓aop, ↓reduceIte, LV.cells, AOp.dst, LV.I, LV.B, LV.U, LV.S, LV.nil, Nat.reduceEqDiff, Nat.reduceAdd, Nat.reduceMul, Nat.reduceSub, Nat.reduceLeDiff, Nat.reduceBEq, Nat.reduceDiv, Nat.reduceMod, Int.reduceToNat, Int.reduceLT, Int.reduceLE, Int.reduceAdd, Int.reduceSub, Int.reduceMul, Int.reduceEq, Int.reduceNeg, reduceCtorEq, resV, resAll, ARes.ev, LV.flat, ite_true, ite_false, exists_eq_left', exists_eq_left, keyOf, implies_true, fillC, capOf]
      refine callR_of (hg (Live.newj (j := 0) (b := .row (triL cs) true 3) rfl) (Live.newj (j := 2) (b := .row (triL ds) true 3) rfl)) ?_
      rintro _ N2 ⟨rfl, hp2⟩
      have c1 := b1.app.pre hp2
      have c2 := b2.app.pre hp2
      have r1 : Live N2 N.length (.row (triL cs) true 3) := (Live.newj (j := 0) rfl).pre hp2
      have x1 : Live N2 (N.length + 1) (.row [.I x, .I y, .I z, .ref N.length 0 cs.length] true 0) := (Live.newj (j := 1) rfl).pre hp2
      have r2 : Live N2 (N.length + 2) (.row (triL ds) true 3) := (Live.newj (j := 2) rfl).pre hp2
      have x2 : Live N2 (N.length + 3) (.row [.I x', .I y', .I z', .ref (N.length + 2) 0 ds.length] true 0) := (Live.newj (j := 3) rfl).pre hp2
      have hM2 : Pre M N2 := hM.trans ((Pre.app _ _).trans hp2)
      simp (disch := omega) only [c1.cells, x1.cells, splice, ↓SXd, SXu, slBounds, ↓sop, ↓aop, ↓reduceIte, LV.cells, AOp.dst, LV.I, LV.B, LV.U, LV.S, LV.nil, Nat.reduceEqDiff, Nat.reduceAdd, Nat.reduceMul, Nat.reduceSub, Nat.reduceLeDiff, Nat.reduceBEq, Nat.reduceDiv, Nat.reduceMod, Int.reduceToNat, Int.reduceLT, Int.reduceLE, Int.reduceAdd, Int.reduceSub, Int.reduceMul, Int.reduceEq, Int.reduceNeg, reduceCtorEq, resV, resAll, ARes.ev, LV.flat, ite_true, ite_false, exists_eq_left', exists_eq_left, keyOf, implies_true, fillC, capOf]
      refine callK_of (h_toHeap (h.pre hM2) hn) ?_
      simp (disch := omega) only [c1.cells, x1.cells, ↓SXd, SXu, slBounds, ↓sop, ↓aop, ↓reduceIte, LV.cells, AOp.dst, LV.I, LV.B, LV.U, LV.S, LV.nil, Nat.reduceEqDiff, Nat.reduceAdd, Nat.reduceMul, Nat.reduceSub, Nat.reduceLeDiff, Nat.reduceBEq, Nat.reduceDiv, Nat.reduceMod, Int.reduceToNat, Int.reduceLT, Int.reduceLE, Int.reduceAdd, Int.reduceSub, Int.reduceMul, Int.reduceEq, Int.reduceNeg, reduceCtorEq, resV, resAll, ARes.ev, LV.flat, ite_true, ite_false, exists_eq_left', exists_eq_left, keyOf, implies_true, fillC, capOf]
      have he := h_eqHeap (x := x) (y := y) (z := z) (x' := x) (y' := y) (z' := z) (M := N2 ++ [some (.row (triL cs) true 3)]) (Live.app r1).has (Live.newj (M := N2) (L := [some (.row (triL cs) true 3)]) (j := 0) rfl).has hn hn
      rw [decide_eq_true (by simp)] at he
      refine callK_of he ?_
      simp (disch := omega) only [c2.app.cells, x2.app.cells, ↓SXd, SXu, slBounds, ↓sop, ↓aop, ↓reduceIte, LV.cells, AOp.dst, LV.I, LV.B, LV.U, LV.S, LV.nil, Nat.reduceEqDiff, Nat.reduceAdd, Nat.reduceMul, Nat.reduceSub, Nat.reduceLeDiff, Nat.reduceBEq, Nat.reduceDiv, Nat.reduceMod, Int.reduceToNat, Int.reduceLT, Int.reduceLE, Int.reduceAdd, Int.reduceSub, Int.reduceMul, Int.reduceEq, Int.reduceNeg, reduceCtorEq, resV, resAll, ARes.ev, LV.flat, ite_true, ite_false, exists_eq_left', exists_eq_left, keyOf, implies_true, fillC, capOf]
      refine callK_of (h_toHeap (h'.pre (hM2.trans (Pre.app _ _))) hn') ?_
      have hlx := x2.lt
      simp (disch := omega) only [c2.app.cells, x2.app.cells, List.getElem?_append_left, ↓SXd, SXu, slBounds, ↓sop, ↓aop, ↓reduceIte, LV.cells, AOp.dst, LV.I, LV.B, LV.U, LV.S, LV.nil, Nat.reduceEqDiff, Nat.reduceAdd, Nat.reduceMul, Nat.reduceSub, Nat.reduceLeDiff, Nat.reduceBEq, Nat.reduceDiv, Nat.reduceMod, Int.reduceToNat, Int.reduceLT, Int.reduceLE, Int.reduceAdd, Int.reduceSub, Int.reduceMul, Int.reduceEq, Int.reduceNeg, reduceCtorEq, resV, resAll, ARes.ev, LV.flat, ite_true, ite_false, exists_eq_left', exists_eq_left, keyOf, implies_true, fillC, capOf]
      have hg2 := h_eqHeap (x := x') (y := y') (z := z') (x' := x') (y' := y') (z' := z') (M := N2 ++ [some (.row (triL cs) true 3), some (.row (triL ds) true 3)]) (Live.app r2).has (Live.newj (M := N2) (L := [some (.row (triL cs) true 3), some (.row (triL ds) true 3)]) (j := 1) rfl).has hn' hn'
      rw [decide_eq_true (by simp)] at hg2
      refine callK_of hg2 ?_
      simp (disch := omega) only [↓SXd, SXu, slBounds, ↓sop, ↓aop, ↓reduceIte, LV.cells, AOp.dst, LV.I, LV.B, LV.U, LV.S, LV.nil, Nat.reduceEqDiff, Nat.reduceAdd, Nat.reduceMul, Nat.reduceSub, Nat.reduceLeDiff, Nat.reduceBEq, Nat.reduceDiv, Nat.reduceMod, Int.reduceToNat, Int.reduceLT, Int.reduceLE, Int.reduceAdd, Int.reduceSub, Int.reduceMul, Int.reduceEq, Int.reduceNeg, reduceCtorEq, resV, resAll, ARes.ev, LV.flat, ite_true, ite_false, exists_eq_left', exists_eq_left, keyOf, implies_true, fillC, capOf]
      rfl
end Go.Ab
