/- Parts of the proof of FnExactCountPackingsSaid: Ub C_Nb K_Nb Nb Uc Ud Ue C_Od K_Od C_Ob K_Ob C_Oa K_Oa C_Dd K_Dd C_Dc K_Dc Dc Dd Oa Ob Od Uf C_Vb K_Vb Vb Ya C_Zk K_Zk C_Zj K_Zj C_Zh K_Zh C_Zg K_Zg C_Ze K_Ze C_Zd K_Zd C_Zc K_Zc C_Zb K_Zb C_Za K_Za Za C_Yh K_Yh C_Yf K_Yf C_Yd K_Yd C_Yc K_Yc C_Yb K_Yb C_Tc K_Tc C_Tb K_Tb Ge. -/
import Derived.Test.YtjndofbhdogblaaA5
import Derived.Test.YtjndofbhdogblaaA4
import Derived.Test.YtjndofbhdogblaaA3
import Derived.Test.YtjndofbhdogblaaProg
import Derived.KernelRfl
set_option linter.all false
/- Contracts: valid shadows, both sides. -/
namespace Go.Ab
open Go
set_option linter.unusedSimpArgs false
set_option linter.unusedVariables false

/-- All numbers are 0 or 1. -/
def Ones (xs : List Int) : Prop := ∀ v ∈ xs, 0 ≤ v ∧ v ≤ 1
instance (xs : List Int) : Decidable (Ones xs) := by unfold Ones; exact inferInstance
/-- A valid shadow. -/
def ShdOK (x y z : Int) (tp fr sd : List Int) : Prop := Sides x y z ∧ (Ones tp ∧ (tp.length : Int) = x * y) ∧ (Ones fr ∧ (fr.length : Int) = x * z) ∧ (Ones sd ∧ (sd.length : Int) = y * z)
instance (x y z : Int) (tp fr sd : List Int) : Decidable (ShdOK x y z tp fr sd) := by unfold ShdOK; exact inferInstance
theorem prod_le {x y z : Int} (hS : Sides x y z) : (1 ≤ x * y ∧ x * y ≤ 16) ∧ (1 ≤ x * z ∧ x * z ≤ 16) ∧ (1 ≤ y * z ∧ y * z ≤ 16) := by
  obtain ⟨hx, hy, hz⟩ := hS
  have h2 : y = 1 ∨ y = 2 ∨ y = 3 ∨ y = 4 := by omega
  have h3 : z = 1 ∨ z = 2 ∨ z = 3 ∨ z = 4 := by omega
  rcases h2 with rfl | rfl | rfl | rfl <;> rcases h3 with rfl | rfl | rfl | rfl <;> omega
end Go.Ab

/- The abstract code of some functions (written by a program of mine from the translation, by way of prepF). -/
namespace Go.Ab.C
open Go.Ab
def impl_box_size : AFn :=
  ⟨1, 11, [.tmp 2],
    .seq (.ops [(none, .box 1 (.t 0)),
       (none, .mv 2 (.c (.I 0)))])
    (.seq (.ops [(none, .idxA 3 3 1 (.t 1) (.c (.I 0))),
        (none, .load1 4 (.t 3)),
        (none, .idxA 5 3 1 (.t 1) (.c (.I 1))),
        (none, .load1 6 (.t 5)),
        (none, .bin 7 .mul (.t 4) (.t 6)),
        (none, .idxA 8 3 1 (.t 1) (.c (.I 2))),
        (none, .load1 9 (.t 8)),
        (none, .bin 10 .mul (.t 7) (.t 9)),
        (none, .mv 2 (.t 10))])
     (.ret))⟩
def impl_box_index : AFn :=
  ⟨2, 19, [.tmp 4],
    .seq (.ops [(none, .box 2 (.t 0)),
       (none, .box 3 (.t 1)),
       (none, .mv 4 (.c (.I 0)))])
    (.seq (.ops [(none, .idxA 5 3 1 (.t 3) (.c (.I 0))),
        (none, .load1 6 (.t 5)),
        (none, .idxA 7 3 1 (.t 2) (.c (.I 1))),
        (none, .load1 8 (.t 7)),
        (none, .bin 9 .mul (.t 6) (.t 8)),
        (none, .idxA 10 3 1 (.t 3) (.c (.I 1))),
        (none, .load1 11 (.t 10)),
        (none, .bin 12 .add (.t 9) (.t 11)),
        (none, .idxA 13 3 1 (.t 2) (.c (.I 2))),
        (none, .load1 14 (.t 13)),
        (none, .bin 15 .mul (.t 12) (.t 14)),
        (none, .idxA 16 3 1 (.t 3) (.c (.I 2))),
        (none, .load1 17 (.t 16)),
        (none, .bin 18 .add (.t 15) (.t 17)),
        (none, .mv 4 (.t 18))])
     (.ret))⟩
def impl_box_cell : AFn :=
  ⟨2, 24, [.cellN 4 3],
    .seq (.ops [(none, .box 2 (.t 0)),
       (none, .alloc 4 [(.I 0), (.I 0), (.I 0)])])
    (.seq (.draw [⟨(none, .mv 5 (.t 1)), [], []⟩,
        ⟨(none, .idxA 6 3 1 (.t 2) (.c (.I 2))), [], []⟩,
        ⟨(none, .load1 7 (.t 6)), [], []⟩,
        ⟨(none, .bin 8 .quo (.t 5) (.t 7)), [], []⟩,
        ⟨(none, .idxA 9 3 1 (.t 2) (.c (.I 1))), [], []⟩,
        ⟨(none, .load1 10 (.t 9)), [], []⟩,
        ⟨(none, .bin 11 .quo (.t 8) (.t 10)), [], []⟩,
        ⟨(none, .mv 12 (.t 1)), [], []⟩,
        ⟨(none, .idxA 13 3 1 (.t 2) (.c (.I 2))), [], []⟩,
        ⟨(none, .load1 14 (.t 13)), [], []⟩,
        ⟨(none, .bin 15 .quo (.t 12) (.t 14)), [], []⟩,
        ⟨(none, .idxA 16 3 1 (.t 2) (.c (.I 1))), [], []⟩,
        ⟨(none, .load1 17 (.t 16)), [], []⟩,
        ⟨(none, .bin 18 .rem (.t 15) (.t 17)), [], []⟩,
        ⟨(none, .mv 19 (.t 1)), [], []⟩,
        ⟨(none, .idxA 20 3 1 (.t 2) (.c (.I 2))), [], []⟩,
        ⟨(none, .load1 21 (.t 20)), [], []⟩,
        ⟨(none, .bin 22 .rem (.t 19) (.t 21)), [], []⟩,
        ⟨(none, .build 23 [(.I 0), (.I 0), (.I 0)] [(0, 1, (.t 11)), (1, 1, (.t 18)), (2, 1, (.t 22))]), [], []⟩,
        ⟨(none, .store 3 (.t 4) (.t 23)), [], []⟩])
     (.ret))⟩
def impl_set_has : AFn :=
  ⟨2, 10, [.tmp 4],
    .seq (.ops [(none, .mv 4 (.c (.B false)))])
    (.seq (.ops [(none, .mv 5 (.t 0)),
        (none, .mv 6 (.t 1)),
        (none, .bin 7 .shr (.t 5) (.t 6)),
        (none, .bin 8 .and (.t 7) (.c (.U 1))),
        (none, .bin 9 .eql (.t 8) (.c (.U 1))),
        (none, .mv 4 (.t 9))])
     (.ret))⟩
def impl_box_full : AFn :=
  ⟨1, 7, [.tmp 2],
    .seq (.ops [(none, .box 1 (.t 0)),
       (none, .mv 2 (.c (.U 0)))])
    (.seq (.ops [(none, .loadN 3 3 (.t 1)),
        (none, .call (some 4) F.impl_box_size [(.t 3)]),
        (none, .bin 5 .shl (.c (.U 1)) (.t 4)),
        (none, .bin 6 .sub (.t 5) (.c (.U 1))),
        (none, .mv 2 (.t 6))])
     (.ret))⟩
def impl_box_list : AFn :=
  ⟨2, 24, [.tmp 4],
    .seq (.ops [(none, .box 2 (.t 0)),
       (none, .mv 4 (.c .nil))])
    (.seq (.ops [(none, .buildSl 7 0 3 [] []),
        (none, .mv 5 (.t 7))])
     (.seq (.seq (.ops [(none, .loadN 8 3 (.t 2)),
          (none, .call (some 9) F.impl_box_size [(.t 8)]),
          (none, .mv 10 (.c (.I 0)))])
       (.block 0 (.loop (.seq (.ops [(none, .bin 11 .lss (.t 10) (.t 9))])
          (.seq (.cond (.t 11) (.skip)
            (.exit 0))
           (.seq (.block 1 (.seq (.ops [(none, .mv 12 (.t 10)),
                 (none, .mv 6 (.t 12))])
              (.seq (.ops [(none, .mv 13 (.t 1)),
                  (none, .mv 14 (.t 6)),
                  (none, .call (some 15) F.impl_set_has [(.t 13), (.t 14)])])
               (.cond (.t 15) (.ops [(none, .mv 16 (.t 5)),
                   (none, .loadN 17 3 (.t 2)),
                   (none, .mv 18 (.t 6)),
                   (none, .call (some 19) F.impl_box_cell [(.t 17), (.t 18)]),
                   (none, .buildSl 20 1 3 [(.I 0), (.I 0), (.I 0)] [(0, 3, (.t 19))]),
                   (none, .append 21 3 24 (.t 16) (.t 20)),
                   (none, .mv 5 (.t 21))])
                (.skip)))))
            (.ops [(none, .bin 22 .add (.t 10) (.c (.I 1))),
               (none, .mv 10 (.t 22))])))))))
      (.seq (.ops [(none, .mv 23 (.t 5)),
          (none, .mv 4 (.t 23))])
       (.ret))))⟩
def impl_Heap_cubes : AFn :=
  ⟨1, 22, [.tmp 2],
    .seq (.ops [(none, .box 1 (.t 0)),
       (none, .mv 2 (.c (.U 0)))])
    (.seq (.ops [(none, .mv 3 (.c (.U 0)))])
     (.seq (.seq (.ops [(none, .fieldAddr 6 (.t 1) 3),
          (none, .load1 7 (.t 6)),
          (none, .len 8 (.t 7)),
          (none, .mv 9 (.c (.I 0)))])
       (.block 0 (.loop (.seq (.ops [(none, .bin 10 .lss (.t 9) (.t 8))])
          (.seq (.cond (.t 10) (.skip)
            (.exit 0))
           (.seq (.block 1 (.seq (.ops [(none, .idxS 11 3 (.t 7) (.t 9)),
                 (none, .loadN 12 3 (.t 11)),
                 (none, .alloc 5 [(.I 0), (.I 0), (.I 0)]),
                 (none, .store 3 (.t 5) (.t 12))])
              (.draw [⟨(none, .mv 13 (.t 3)), [], []⟩,
                 ⟨(none, .loadN 14 4 (.t 1)), [], []⟩,
                 ⟨(none, .loadN 16 3 (.t 5)), [], []⟩,
                 ⟨(none, .call (some 15) F.impl_Heap_box [(.t 14)]), [], [0, 2]⟩,
                 ⟨(none, .call (some 17) F.impl_box_index [(.t 15), (.t 16)]), [], [0]⟩,
                 ⟨(none, .bin 18 .shl (.c (.U 1)) (.t 17)), [], []⟩,
                 ⟨(none, .bin 19 .or (.t 13) (.t 18)), [], []⟩,
                 ⟨(none, .mv 3 (.t 19)), [], []⟩])))
            (.ops [(none, .bin 20 .add (.t 9) (.c (.I 1))),
               (none, .mv 9 (.t 20))])))))))
      (.seq (.ops [(none, .mv 21 (.t 3)),
          (none, .mv 2 (.t 21))])
       (.ret))))⟩
end Go.Ab.C

/- That the program has this code. -/
namespace Go.Ab.K
open Go Go.Ab
theorem impl_box_size : prepF Go.Proofs.Try.prog F.impl_box_size = some C.impl_box_size := by kernel_rfl
theorem impl_box_index : prepF Go.Proofs.Try.prog F.impl_box_index = some C.impl_box_index := by kernel_rfl
theorem impl_box_cell : prepF Go.Proofs.Try.prog F.impl_box_cell = some C.impl_box_cell := by kernel_rfl
theorem impl_set_has : prepF Go.Proofs.Try.prog F.impl_set_has = some C.impl_set_has := by kernel_rfl
theorem impl_box_full : prepF Go.Proofs.Try.prog F.impl_box_full = some C.impl_box_full := by kernel_rfl
theorem impl_box_list : prepF Go.Proofs.Try.prog F.impl_box_list = some C.impl_box_list := by kernel_rfl
theorem impl_Heap_cubes : prepF Go.Proofs.Try.prog F.impl_Heap_cubes = some C.impl_Heap_cubes := by kernel_rfl
end Go.Ab.K

/- Contracts: the program's boxes, cells and sets. -/
namespace Go.Ab
open Go
set_option linter.unusedSimpArgs false
set_option linter.unusedVariables false

theorem set_bit {s : BitVec 64} {n : Nat} : decide (s >>> n &&& 1#64 = 1#64) = s.getLsbD n := by
  have : (s >>> n &&& 1#64 = 1#64) ↔ s.getLsbD n = true := by
    constructor
    · intro h
      have := congrArg (fun t => BitVec.getLsbD t 0) h
      simpa using this
    · intro h
      apply BitVec.eq_of_getLsbD_eq
      intro i hi
      rw [BitVec.getLsbD_and, BitVec.getLsbD_one]
      by_cases h0 : i = 0
      · subst h0; simp [h]
      · simp [h0]
  by_cases h : s.getLsbD n = true
  · rw [h, decide_eq_true (this.2 h)]
  · rw [decide_eq_false (fun e => h (this.1 e))]; simpa using h

theorem g_has_set {s : BitVec 64} {i : Int} {M : Mem} (hi : 0 ≤ i) : CallsTo PG F.impl_set_has [.W s, .I i] M (.B (s.getLsbD i.toNat)) M := by
  refine calls_run K.impl_set_has rfl ?_
  simp (disch := omega) only [C.impl_set_has, set_bit, ↓SXd, SXu, slBounds, ↓sop, ↓aop, ↓reduceIte, LV.cells, AOp.dst, LV.I, LV.B, LV.U, LV.S, LV.nil, Nat.reduceEqDiff, Nat.reduceAdd, Nat.reduceMul, Nat.reduceSub, Nat.reduceLeDiff, Nat.reduceBEq, Nat.reduceDiv, Nat.reduceMod, Int.reduceToNat, Int.reduceLT, Int.reduceLE, Int.reduceAdd, Int.reduceSub, Int.reduceMul, Int.reduceEq, Int.reduceNeg, reduceCtorEq, resV, resAll, ARes.ev, LV.flat, ite_true, ite_false, exists_eq_left', exists_eq_left, keyOf, implies_true, fillC, capOf]
  exact cmp_drop0 rfl

section
variable {x y z : Int} (hS : Sides x y z)
include hS

theorem g_size {M : Mem} : CallsTo PG F.impl_box_size [.agg [.I x, .I y, .I z]] M (.I ((vol x y z : Nat) : Int)) M := by
  have hb := vol_bound hS
  have hv := vol_cast hS
  refine calls_run K.impl_box_size rfl ?_
  simp (disch := omega) only [C.impl_box_size, ↓SXd, SXu, slBounds, ↓sop, ↓aop, ↓reduceIte, LV.cells, AOp.dst, LV.I, LV.B, LV.U, LV.S, LV.nil, Nat.reduceEqDiff, Nat.reduceAdd, Nat.reduceMul, Nat.reduceSub, Nat.reduceLeDiff, Nat.reduceBEq, Nat.reduceDiv, Nat.reduceMod, Int.reduceToNat, Int.reduceLT, Int.reduceLE, Int.reduceAdd, Int.reduceSub, Int.reduceMul, Int.reduceEq, Int.reduceNeg, reduceCtorEq, resV, resAll, ARes.ev, LV.flat, ite_true, ite_false, exists_eq_left', exists_eq_left, keyOf, implies_true, fillC, capOf]
  rw [hv.1]
  exact cmp_drop rfl

theorem g_index {c : Cell} {M : Mem} (hc : c.inBox x y z) : CallsTo PG F.impl_box_index [.agg [.I x, .I y, .I z], .agg [.I c.a, .I c.b, .I c.c]] M (.I (idx y z c)) M := by
  have hb := vol_bound hS
  have hi := idx_in hS hc
  obtain ⟨hx, hy, hz⟩ := id hS
  obtain ⟨h1, h2, h3⟩ := id hc
  have k1 : 0 ≤ c.a * y ∧ c.a * y ≤ 16 := by
    have e2 : y = 1 ∨ y = 2 ∨ y = 3 ∨ y = 4 := by omega
    rcases e2 with rfl | rfl | rfl | rfl <;> omega
  have k2 : 0 ≤ (c.a * y + c.b) * z ∧ (c.a * y + c.b) * z ≤ 100 := by
    have e3 : z = 1 ∨ z = 2 ∨ z = 3 ∨ z = 4 := by omega
    rcases e3 with rfl | rfl | rfl | rfl <;> omega
  refine calls_run K.impl_box_index rfl ?_
  simp (disch := omega) only [C.impl_box_index, ↓SXd, SXu, slBounds, ↓sop, ↓aop, ↓reduceIte, LV.cells, AOp.dst, LV.I, LV.B, LV.U, LV.S, LV.nil, Nat.reduceEqDiff, Nat.reduceAdd, Nat.reduceMul, Nat.reduceSub, Nat.reduceLeDiff, Nat.reduceBEq, Nat.reduceDiv, Nat.reduceMod, Int.reduceToNat, Int.reduceLT, Int.reduceLE, Int.reduceAdd, Int.reduceSub, Int.reduceMul, Int.reduceEq, Int.reduceNeg, reduceCtorEq, resV, resAll, ARes.ev, LV.flat, ite_true, ite_false, exists_eq_left', exists_eq_left, keyOf, implies_true, fillC, capOf]
  exact cmp_drop rfl

theorem g_cell {i : Int} {M : Mem} (h0 : 0 ≤ i) (hi : i < x * y * z) : CallsTo PG F.impl_box_cell [.agg [.I x, .I y, .I z], .I i] M (.agg [.I (cellAt y z i).a, .I (cellAt y z i).b, .I (cellAt y z i).c]) M := by
  have hb := vol_bound hS
  obtain ⟨hx, hy, hz⟩ := id hS
  have hy0 : y ≠ 0 := by omega
  have hz0 : z ≠ 0 := by omega
  have q1 : 0 ≤ i.tdiv z ∧ i.tdiv z ≤ 100 := by
    rw [Int.tdiv_eq_ediv_of_nonneg h0]
    exact ⟨Int.ediv_nonneg h0 (by omega), Int.le_trans (Int.ediv_le_self z h0) (by omega)⟩
  have q2 : 0 ≤ (i.tdiv z).tdiv y ∧ (i.tdiv z).tdiv y ≤ 100 := by
    rw [Int.tdiv_eq_ediv_of_nonneg q1.1]
    exact ⟨Int.ediv_nonneg q1.1 (by omega), Int.le_trans (Int.ediv_le_self y q1.1) (by omega)⟩
  have q3 : 0 ≤ (i.tdiv z).tmod y ∧ (i.tdiv z).tmod y ≤ 100 := by
    rw [Int.tmod_eq_emod_of_nonneg q1.1]
    have := Int.emod_lt_of_pos (i.tdiv z) (show 0 < y by omega)
    exact ⟨Int.emod_nonneg _ hy0, by omega⟩
  have q4 : 0 ≤ i.tmod z ∧ i.tmod z ≤ 100 := by
    rw [Int.tmod_eq_emod_of_nonneg h0]
    have := Int.emod_lt_of_pos i (show 0 < z by omega)
    exact ⟨Int.emod_nonneg _ hz0, by omega⟩
  refine calls_run K.impl_box_cell rfl ?_
  simp (disch := omega) only [C.impl_box_cell, ne_eq, not_false_eq_true, hy0, hz0, splice, ↓SXd, SXu, slBounds, ↓sop, ↓aop, ↓reduceIte, LV.cells, AOp.dst, LV.I, LV.B, LV.U, LV.S, LV.nil, Nat.reduceEqDiff, Nat.reduceAdd, Nat.reduceMul, Nat.reduceSub, Nat.reduceLeDiff, Nat.reduceBEq, Nat.reduceDiv, Nat.reduceMod, Int.reduceToNat, Int.reduceLT, Int.reduceLE, Int.reduceAdd, Int.reduceSub, Int.reduceMul, Int.reduceEq, Int.reduceNeg, reduceCtorEq, resV, resAll, ARes.ev, LV.flat, ite_true, ite_false, exists_eq_left', exists_eq_left, keyOf, implies_true, fillC, capOf]
  exact cmp_drop rfl

theorem g_full {M : Mem} : CallsTo PG F.impl_box_full [.agg [.I x, .I y, .I z]] M (.W (bs x y z fun _ => true)) M := by
  refine calls_run K.impl_box_full rfl ?_
  simp (disch := omega) only [C.impl_box_full, ↓SXd, SXu, slBounds, ↓sop, ↓aop, ↓reduceIte, LV.cells, AOp.dst, LV.I, LV.B, LV.U, LV.S, LV.nil, Nat.reduceEqDiff, Nat.reduceAdd, Nat.reduceMul, Nat.reduceSub, Nat.reduceLeDiff, Nat.reduceBEq, Nat.reduceDiv, Nat.reduceMod, Int.reduceToNat, Int.reduceLT, Int.reduceLE, Int.reduceAdd, Int.reduceSub, Int.reduceMul, Int.reduceEq, Int.reduceNeg, reduceCtorEq, resV, resAll, ARes.ev, LV.flat, ite_true, ite_false, exists_eq_left', exists_eq_left, keyOf, implies_true, fillC, capOf]
  refine callK_of (g_size hS) ?_
  simp (disch := omega) only [Int.toNat_natCast, ↓SXd, SXu, slBounds, ↓sop, ↓aop, ↓reduceIte, LV.cells, AOp.dst, LV.I, LV.B, LV.U, LV.S, LV.nil, Nat.reduceEqDiff, Nat.reduceAdd, Nat.reduceMul, Nat.reduceSub, Nat.reduceLeDiff, Nat.reduceBEq, Nat.reduceDiv, Nat.reduceMod, Int.reduceToNat, Int.reduceLT, Int.reduceLE, Int.reduceAdd, Int.reduceSub, Int.reduceMul, Int.reduceEq, Int.reduceNeg, reduceCtorEq, resV, resAll, ARes.ev, LV.flat, ite_true, ite_false, exists_eq_left', exists_eq_left, keyOf, implies_true, fillC, capOf]
  rw [bs_full hS]
  exact cmp_drop rfl

theorem range_pick_step {p : Cell → Bool} {k : Nat} : ((List.range (k + 1)).map fun (i : Nat) => cellAt y z i).filter p = ((List.range k).map fun (i : Nat) => cellAt y z i).filter p ++ (if p (cellAt y z k) then [cellAt y z k] else []) := by
  rw [List.range_succ, List.map_append, List.filter_append]
  congr 1
  by_cases h : p (cellAt y z k) = true
  · simp [h]
  · simp [h]

theorem g_list {p : Cell → Bool} {M : Mem} : CallsTo PG F.impl_box_list [.agg [.I x, .I y, .I z], .W (bs x y z p)] M (.ref M.length 0 (pick x y z p).length) (M ++ [some (.row (triL (pick x y z p)) true 3)]) := by
  have hv := vol_cast hS
  refine calls_run K.impl_box_list rfl ?_
  simp (disch := omega) only [C.impl_box_list, ↓SXd, SXu, slBounds, ↓sop, ↓aop, ↓reduceIte, LV.cells, AOp.dst, LV.I, LV.B, LV.U, LV.S, LV.nil, Nat.reduceEqDiff, Nat.reduceAdd, Nat.reduceMul, Nat.reduceSub, Nat.reduceLeDiff, Nat.reduceBEq, Nat.reduceDiv, Nat.reduceMod, Int.reduceToNat, Int.reduceLT, Int.reduceLE, Int.reduceAdd, Int.reduceSub, Int.reduceMul, Int.reduceEq, Int.reduceNeg, reduceCtorEq, resV, resAll, ARes.ev, LV.flat, ite_true, ite_false, exists_eq_left', exists_eq_left, keyOf, implies_true, fillC, capOf]
  refine callK_of (g_size hS) ?_
  simp (disch := omega) only [↓SXd, SXu, slBounds, ↓sop, ↓aop, ↓reduceIte, LV.cells, AOp.dst, LV.I, LV.B, LV.U, LV.S, LV.nil, Nat.reduceEqDiff, Nat.reduceAdd, Nat.reduceMul, Nat.reduceSub, Nat.reduceLeDiff, Nat.reduceBEq, Nat.reduceDiv, Nat.reduceMod, Int.reduceToNat, Int.reduceLT, Int.reduceLE, Int.reduceAdd, Int.reduceSub, Int.reduceMul, Int.reduceEq, Int.reduceNeg, reduceCtorEq, resV, resAll, ARes.ev, LV.flat, ite_true, ite_false, exists_eq_left', exists_eq_left, keyOf, implies_true, fillC, capOf]
  refine ev_loop (fun m fr M' => ∃ (k u : Nat) (acc : List Cell), k + m = vol x y z ∧ acc = ((List.range k).map fun (i : Nat) => cellAt y z i).filter p ∧ Pre M M' ∧ Live M' M.length (.row [.I x, .I y, .I z] true 0) ∧ M.length + 1 ≤ u ∧ Live M' u (.row (triL acc) true 3) ∧
    fr 1 = .W (bs x y z p) ∧ fr 2 = .ptr M.length 0 ∧ fr 5 = .ref u 0 acc.length ∧ fr 9 = .I ((vol x y z : Nat) : Int) ∧ fr 10 = .I k) (vol x y z)
    ⟨0, M.length + 1, [], by omega, rfl, Pre.app _ _, Live.new, by omega, Live.newj rfl, rfl, rfl, rfl, rfl, rfl⟩ ?_
  rintro m fr M' ⟨k, u, acc, hk, hacc, hpre, hbox, hu, hout, f1, f2, f5, f9, f10⟩
  have hal : acc.length ≤ k := by
    rw [hacc]
    exact Nat.le_trans (List.length_filter_le _ _) (by simp)
  simp (disch := omega) only [f1, f2, f5, f9, f10, ↓SXd, SXu, slBounds, ↓sop, ↓aop, ↓reduceIte, LV.cells, AOp.dst, LV.I, LV.B, LV.U, LV.S, LV.nil, Nat.reduceEqDiff, Nat.reduceAdd, Nat.reduceMul, Nat.reduceSub, Nat.reduceLeDiff, Nat.reduceBEq, Nat.reduceDiv, Nat.reduceMod, Int.reduceToNat, Int.reduceLT, Int.reduceLE, Int.reduceAdd, Int.reduceSub, Int.reduceMul, Int.reduceEq, Int.reduceNeg, reduceCtorEq, resV, resAll, ARes.ev, LV.flat, ite_true, ite_false, exists_eq_left', exists_eq_left, keyOf, implies_true, fillC, capOf]
  refine condC_dec (fun hlt => ?_) (fun hlt => ?_)
  · simp (disch := omega) only [f1, f2, f5, f9, f10, ↓SXd, SXu, slBounds, ↓sop, ↓aop, ↓reduceIte, LV.cells, AOp.dst, LV.I, LV.B, LV.U, LV.S, LV.nil, Nat.reduceEqDiff, Nat.reduceAdd, Nat.reduceMul, Nat.reduceSub, Nat.reduceLeDiff, Nat.reduceBEq, Nat.reduceDiv, Nat.reduceMod, Int.reduceToNat, Int.reduceLT, Int.reduceLE, Int.reduceAdd, Int.reduceSub, Int.reduceMul, Int.reduceEq, Int.reduceNeg, reduceCtorEq, resV, resAll, ARes.ev, LV.flat, ite_true, ite_false, exists_eq_left', exists_eq_left, keyOf, implies_true, fillC, capOf]
    refine callK_of (g_has_set (by omega)) ?_
    simp (disch := omega) only [f1, f2, f5, f9, f10, ↓SXd, SXu, slBounds, ↓sop, ↓aop, ↓reduceIte, LV.cells, AOp.dst, LV.I, LV.B, LV.U, LV.S, LV.nil, Nat.reduceEqDiff, Nat.reduceAdd, Nat.reduceMul, Nat.reduceSub, Nat.reduceLeDiff, Nat.reduceBEq, Nat.reduceDiv, Nat.reduceMod, Int.reduceToNat, Int.reduceLT, Int.reduceLE, Int.reduceAdd, Int.reduceSub, Int.reduceMul, Int.reduceEq, Int.reduceNeg, reduceCtorEq, resV, resAll, ARes.ev, LV.flat, ite_true, ite_false, exists_eq_left', exists_eq_left, keyOf, implies_true, fillC, capOf]
    have hst := range_pick_step hS (p := p) (k := k)
    have hbit := bs_bit hS p k
    rw [decide_eq_true (show k < vol x y z by omega), Bool.true_and] at hbit
    rw [hbit]
    by_cases hp : p (cellAt y z k) = true
    · rw [hp]
      rw [hp, if_pos rfl, ← hacc] at hst
      simp (disch := omega) only [f1, f2, f5, f9, f10, hbox.cells, ↓SXd, SXu, slBounds, ↓sop, ↓aop, ↓reduceIte, LV.cells, AOp.dst, LV.I, LV.B, LV.U, LV.S, LV.nil, Nat.reduceEqDiff, Nat.reduceAdd, Nat.reduceMul, Nat.reduceSub, Nat.reduceLeDiff, Nat.reduceBEq, Nat.reduceDiv, Nat.reduceMod, Int.reduceToNat, Int.reduceLT, Int.reduceLE, Int.reduceAdd, Int.reduceSub, Int.reduceMul, Int.reduceEq, Int.reduceNeg, reduceCtorEq, resV, resAll, ARes.ev, LV.flat, ite_true, ite_false, exists_eq_left', exists_eq_left, keyOf, implies_true, fillC, capOf]
      refine callK_of (g_cell hS (by omega) (by omega)) ?_
      simp (disch := omega) only [f1, f2, f5, f9, f10, ↓SXd, SXu, slBounds, ↓sop, ↓aop, ↓reduceIte, LV.cells, AOp.dst, LV.I, LV.B, LV.U, LV.S, LV.nil, Nat.reduceEqDiff, Nat.reduceAdd, Nat.reduceMul, Nat.reduceSub, Nat.reduceLeDiff, Nat.reduceBEq, Nat.reduceDiv, Nat.reduceMod, Int.reduceToNat, Int.reduceLT, Int.reduceLE, Int.reduceAdd, Int.reduceSub, Int.reduceMul, Int.reduceEq, Int.reduceNeg, reduceCtorEq, resV, resAll, ARes.ev, LV.flat, ite_true, ite_false, exists_eq_left', exists_eq_left, keyOf, implies_true, fillC, capOf]
      refine appendK_cell hout (by omega) fun N' l1 l2 l3 => ?_
      simp (disch := omega) only [f1, f2, f5, f9, f10, ↓SXd, SXu, slBounds, ↓sop, ↓aop, ↓reduceIte, LV.cells, AOp.dst, LV.I, LV.B, LV.U, LV.S, LV.nil, Nat.reduceEqDiff, Nat.reduceAdd, Nat.reduceMul, Nat.reduceSub, Nat.reduceLeDiff, Nat.reduceBEq, Nat.reduceDiv, Nat.reduceMod, Int.reduceToNat, Int.reduceLT, Int.reduceLE, Int.reduceAdd, Int.reduceSub, Int.reduceMul, Int.reduceEq, Int.reduceNeg, reduceCtorEq, resV, resAll, ARes.ev, LV.flat, ite_true, ite_false, exists_eq_left', exists_eq_left, keyOf, implies_true, fillC, capOf]
      exact ⟨m - 1, by omega, k + 1, _, _, by omega, hst.symm, pre_step hpre (by omega) l1 l3, live_step hbox (by omega) l3, by have := hpre.1; omega, l2, f1, f2, rfl, f9, eqI (natI _)⟩
    · have hp' : p (cellAt y z k) = false := by simpa using hp
      rw [hp']
      rw [hp', if_neg (by simp), List.append_nil, ← hacc] at hst
      simp (disch := omega) only [f1, f2, f5, f9, f10, ↓SXd, SXu, slBounds, ↓sop, ↓aop, ↓reduceIte, LV.cells, AOp.dst, LV.I, LV.B, LV.U, LV.S, LV.nil, Nat.reduceEqDiff, Nat.reduceAdd, Nat.reduceMul, Nat.reduceSub, Nat.reduceLeDiff, Nat.reduceBEq, Nat.reduceDiv, Nat.reduceMod, Int.reduceToNat, Int.reduceLT, Int.reduceLE, Int.reduceAdd, Int.reduceSub, Int.reduceMul, Int.reduceEq, Int.reduceNeg, reduceCtorEq, resV, resAll, ARes.ev, LV.flat, ite_true, ite_false, exists_eq_left', exists_eq_left, keyOf, implies_true, fillC, capOf]
      exact ⟨m - 1, by omega, k + 1, u, acc, by omega, hst.symm, hpre, hbox, hu, hout, f1, f2, f5, f9, eqI (natI _)⟩
  · simp (disch := omega) only [f1, f2, f5, f9, f10, ↓SXd, SXu, slBounds, ↓sop, ↓aop, ↓reduceIte, LV.cells, AOp.dst, LV.I, LV.B, LV.U, LV.S, LV.nil, Nat.reduceEqDiff, Nat.reduceAdd, Nat.reduceMul, Nat.reduceSub, Nat.reduceLeDiff, Nat.reduceBEq, Nat.reduceDiv, Nat.reduceMod, Int.reduceToNat, Int.reduceLT, Int.reduceLE, Int.reduceAdd, Int.reduceSub, Int.reduceMul, Int.reduceEq, Int.reduceNeg, reduceCtorEq, resV, resAll, ARes.ev, LV.flat, ite_true, ite_false, exists_eq_left', exists_eq_left, keyOf, implies_true, fillC, capOf]
    have : k = vol x y z := by omega
    subst this
    have e : pick x y z p = acc := hacc.symm
    rw [e]
    exact cmp_keepL hpre (by omega) hout (triL_lo acc) (by simp [rn, rn0, rn1])

end

theorem g_cubes {x y z : Int} {t o : Nat} {cs : List Cell} {M : Mem} (h : Tri M t o cs) (hn : cs.length ≤ 1000000000) (hS : Sides x y z) (hin : ∀ c ∈ cs, c.inBox x y z) :
    CallsTo PG F.impl_Heap_cubes [.agg [.I x, .I y, .I z, .ref t o cs.length]] M (.W (bs x y z fun c => decide (c ∈ cs))) M := by
  refine calls_run K.impl_Heap_cubes rfl ?_
  simp (disch := omega) only [C.impl_Heap_cubes, ↓SXd, SXu, slBounds, ↓sop, ↓aop, ↓reduceIte, LV.cells, AOp.dst, LV.I, LV.B, LV.U, LV.S, LV.nil, Nat.reduceEqDiff, Nat.reduceAdd, Nat.reduceMul, Nat.reduceSub, Nat.reduceLeDiff, Nat.reduceBEq, Nat.reduceDiv, Nat.reduceMod, Int.reduceToNat, Int.reduceLT, Int.reduceLE, Int.reduceAdd, Int.reduceSub, Int.reduceMul, Int.reduceEq, Int.reduceNeg, reduceCtorEq, resV, resAll, ARes.ev, LV.flat, ite_true, ite_false, exists_eq_left', exists_eq_left, keyOf, implies_true, fillC, capOf]
  refine ev_loop (fun m fr M' => ∃ k : Nat, k + m = cs.length ∧ Pre M M' ∧ Live M' M.length (.row [.I x, .I y, .I z, .ref t o cs.length] true 0) ∧ fr 1 = .ptr M.length 0 ∧ fr 3 = .W (bs x y z fun c => decide (c ∈ cs.take k)) ∧ fr 7 = .ref t o cs.length ∧ fr 8 = .I cs.length ∧ fr 9 = .I k) cs.length
    ⟨0, by omega, Pre.app _ _, Live.new, rfl, by rw [show (bs x y z fun c => decide (c ∈ cs.take 0)) = 0#64 from (bs_zero hS).2 fun c _ => by simp]; rfl, rfl, rfl, rfl⟩ ?_
  rintro m fr M' ⟨k, hk, hpre, hbox, f1, f3, f7, f8, f9⟩
  have ht := h.pre hpre
  simp (disch := omega) only [f1, f3, f7, f8, f9, ↓SXd, SXu, slBounds, ↓sop, ↓aop, ↓reduceIte, LV.cells, AOp.dst, LV.I, LV.B, LV.U, LV.S, LV.nil, Nat.reduceEqDiff, Nat.reduceAdd, Nat.reduceMul, Nat.reduceSub, Nat.reduceLeDiff, Nat.reduceBEq, Nat.reduceDiv, Nat.reduceMod, Int.reduceToNat, Int.reduceLT, Int.reduceLE, Int.reduceAdd, Int.reduceSub, Int.reduceMul, Int.reduceEq, Int.reduceNeg, reduceCtorEq, resV, resAll, ARes.ev, LV.flat, ite_true, ite_false, exists_eq_left', exists_eq_left, keyOf, implies_true, fillC, capOf]
  refine condC_dec (fun hlt => ?_) (fun hlt => ?_)
  · have hkl : k < cs.length := by omega
    have hc := hin (cs.getD k default) (getD_mem' hkl)
    have hix := (idx_in hS hc).1
    simp (disch := omega) only [f1, f3, f7, f8, f9, (Tri.get ht (k := k) (by omega)), Cell.row, splice, hbox.app.cells, ↓SXd, SXu, slBounds, ↓sop, ↓aop, ↓reduceIte, LV.cells, AOp.dst, LV.I, LV.B, LV.U, LV.S, LV.nil, Nat.reduceEqDiff, Nat.reduceAdd, Nat.reduceMul, Nat.reduceSub, Nat.reduceLeDiff, Nat.reduceBEq, Nat.reduceDiv, Nat.reduceMod, Int.reduceToNat, Int.reduceLT, Int.reduceLE, Int.reduceAdd, Int.reduceSub, Int.reduceMul, Int.reduceEq, Int.reduceNeg, reduceCtorEq, resV, resAll, ARes.ev, LV.flat, ite_true, ite_false, exists_eq_left', exists_eq_left, keyOf, implies_true, fillC, capOf]
    refine callK_of (g_box) ?_
    simp (disch := omega) only [f1, f3, f7, f8, f9, ↓SXd, SXu, slBounds, ↓sop, ↓aop, ↓reduceIte, LV.cells, AOp.dst, LV.I, LV.B, LV.U, LV.S, LV.nil, Nat.reduceEqDiff, Nat.reduceAdd, Nat.reduceMul, Nat.reduceSub, Nat.reduceLeDiff, Nat.reduceBEq, Nat.reduceDiv, Nat.reduceMod, Int.reduceToNat, Int.reduceLT, Int.reduceLE, Int.reduceAdd, Int.reduceSub, Int.reduceMul, Int.reduceEq, Int.reduceNeg, reduceCtorEq, resV, resAll, ARes.ev, LV.flat, ite_true, ite_false, exists_eq_left', exists_eq_left, keyOf, implies_true, fillC, capOf]
    refine callK_of (g_index hS hc) ?_
    simp (disch := omega) only [f1, f3, f7, f8, f9, ↓SXd, SXu, slBounds, ↓sop, ↓aop, ↓reduceIte, LV.cells, AOp.dst, LV.I, LV.B, LV.U, LV.S, LV.nil, Nat.reduceEqDiff, Nat.reduceAdd, Nat.reduceMul, Nat.reduceSub, Nat.reduceLeDiff, Nat.reduceBEq, Nat.reduceDiv, Nat.reduceMod, Int.reduceToNat, Int.reduceLT, Int.reduceLE, Int.reduceAdd, Int.reduceSub, Int.reduceMul, Int.reduceEq, Int.reduceNeg, reduceCtorEq, resV, resAll, ARes.ev, LV.flat, ite_true, ite_false, exists_eq_left', exists_eq_left, keyOf, implies_true, fillC, capOf]
    rw [bs_one hS hc, bs_or hS, show (bs x y z fun c => (decide (c ∈ cs.take k) || decide (c = cs.getD k default))) = bs x y z fun c => decide (c ∈ cs.take (k + 1)) from (bs_eq hS).2 fun c _ => take_dec hkl]
    exact ⟨m - 1, by omega, k + 1, by omega, hpre.app', hbox.app, f1, rfl, f7, f8, eqI (natI _)⟩
  · simp (disch := omega) only [f1, f3, f7, f8, f9, ↓SXd, SXu, slBounds, ↓sop, ↓aop, ↓reduceIte, LV.cells, AOp.dst, LV.I, LV.B, LV.U, LV.S, LV.nil, Nat.reduceEqDiff, Nat.reduceAdd, Nat.reduceMul, Nat.reduceSub, Nat.reduceLeDiff, Nat.reduceBEq, Nat.reduceDiv, Nat.reduceMod, Int.reduceToNat, Int.reduceLT, Int.reduceLE, Int.reduceAdd, Int.reduceSub, Int.reduceMul, Int.reduceEq, Int.reduceNeg, reduceCtorEq, resV, resAll, ARes.ev, LV.flat, ite_true, ite_false, exists_eq_left', exists_eq_left, keyOf, implies_true, fillC, capOf]
    have : k = cs.length := by omega
    subst this
    rw [List.take_length]
    exact cmp_pre hpre rfl

/-- The six neighbours of a cell, as the program looks at them. -/
def nbrs (c : Cell) : List Cell := [⟨c.a + -1, c.b, c.c⟩, ⟨c.a + 1, c.b, c.c⟩, ⟨c.a, c.b + -1, c.c⟩, ⟨c.a, c.b + 1, c.c⟩, ⟨c.a, c.b, c.c + -1⟩, ⟨c.a, c.b, c.c + 1⟩]
section
variable {x y z : Int} (hS : Sides x y z)
include hS
end
end Go.Ab

/- Contracts: valid shadows, the program's side. -/
namespace Go.Ab
open Go
set_option linter.unusedSimpArgs false
set_option linter.unusedVariables false

def shdList (d : Nat) (tp fr sd : List Int) : List Int := if d = 0 then sd else if d = 1 then fr else tp
def linesOf (x y z : Int) (d : Nat) : Int := if d = 0 then y * z else if d = 1 then x * z else x * y
end Go.Ab

/- Contracts: lines of a box; allowed cells, the program's side. -/
namespace Go.Ab
open Go
set_option linter.unusedSimpArgs false
set_option linter.unusedVariables false

/-- The place of a cell's line in a direction. -/
def lineOf (y z : Int) (c : Cell) (d : Nat) : Int := if d = 0 then c.b * z + c.c else if d = 1 then c.a * z + c.c else c.a * y + c.b
end Go.Ab

/- Contracts: allowed cells, the program's side. -/
namespace Go.Ab
open Go
set_option linter.unusedSimpArgs false
set_option linter.unusedVariables false

/-- Of a cell's lines the first k are lit. -/
def litK (y z : Int) (tp fr sd : List Int) (k : Nat) (c : Cell) : Bool := decide (∀ j, j < k → (shdList j tp fr sd).getD (lineOf y z c j).toNat 0 ≠ 0)
def allowedB (y z : Int) (tp fr sd : List Int) (c : Cell) : Bool := litK y z tp fr sd 3 c
theorem ShdOK.list {x y z : Int} {tp fr sd : List Int} (h : ShdOK x y z tp fr sd) {d : Nat} (hd : d < 3) : Ones (shdList d tp fr sd) ∧ ((shdList d tp fr sd).length : Int) = linesOf x y z d := by
  obtain ⟨_, a1, a2, a3⟩ := h
  rcases (show d = 0 ∨ d = 1 ∨ d = 2 by omega) with rfl | rfl | rfl
  · exact a3
  · exact a2
  · exact a1

end Go.Ab

/- The abstract code of some functions (written by a program of mine from the translation, by way of prepF). -/
namespace Go.Ab.C
open Go.Ab
end Go.Ab.C

/- That the program has this code. -/
namespace Go.Ab.K
open Go Go.Ab
end Go.Ab.K

/- The abstract code of some functions (written by a program of mine from the translation, by way of prepF). -/
namespace Go.Ab.C
open Go.Ab
end Go.Ab.C

/- That the program has this code. -/
namespace Go.Ab.K
open Go Go.Ab
end Go.Ab.K

/- The abstract code of some functions (written by a program of mine from the translation, by way of prepF). -/
namespace Go.Ab.C
open Go.Ab
def spec_l2All : AFn :=
  ⟨1, 34, [.tmp 2],
    .seq (.ops [(none, .box 1 (.t 0)),
       (none, .mv 2 (.c .nil))])
    (.seq (.ops [(none, .buildSl 7 0 3 [] []),
        (none, .mv 3 (.t 7))])
     (.seq (.seq (.ops [(none, .mv 4 (.c (.I 0)))])
       (.block 0 (.loop (.seq (.seq (.ops [(none, .mv 8 (.t 4)),
              (none, .fieldAddr 9 (.t 1) 0),
              (none, .load1 10 (.t 9)),
              (none, .bin 11 .lss (.t 8) (.t 10))])
           (.cond (.t 11) (.skip)
            (.exit 0)))
          (.seq (.block 1 (.seq (.ops [(none, .mv 5 (.c (.I 0)))])
             (.block 2 (.loop (.seq (.seq (.ops [(none, .mv 14 (.t 5)),
                    (none, .fieldAddr 15 (.t 1) 1),
                    (none, .load1 16 (.t 15)),
                    (none, .bin 17 .lss (.t 14) (.t 16))])
                 (.cond (.t 17) (.skip)
                  (.exit 2)))
                (.seq (.block 3 (.seq (.ops [(none, .mv 6 (.c (.I 0)))])
                   (.block 4 (.loop (.seq (.seq (.ops [(none, .mv 20 (.t 6)),
                          (none, .fieldAddr 21 (.t 1) 2),
                          (none, .load1 22 (.t 21)),
                          (none, .bin 23 .lss (.t 20) (.t 22))])
                       (.cond (.t 23) (.skip)
                        (.exit 4)))
                      (.seq (.block 5 (.ops [(none, .mv 26 (.t 3)),
                           (none, .mv 27 (.t 4)),
                           (none, .mv 28 (.t 5)),
                           (none, .mv 29 (.t 6)),
                           (none, .build 30 [(.I 0), (.I 0), (.I 0)] [(0, 1, (.t 27)), (1, 1, (.t 28)), (2, 1, (.t 29))]),
                           (none, .buildSl 31 1 3 [(.I 0), (.I 0), (.I 0)] [(0, 3, (.t 30))]),
                           (none, .append 32 3 24 (.t 26) (.t 31)),
                           (none, .mv 3 (.t 32))]))
                       (.ops [(none, .mv 24 (.t 6)),
                          (none, .bin 25 .add (.t 24) (.c (.I 1))),
                          (none, .mv 6 (.t 25))])))))))
                 (.ops [(none, .mv 18 (.t 5)),
                    (none, .bin 19 .add (.t 18) (.c (.I 1))),
                    (none, .mv 5 (.t 19))])))))))
           (.ops [(none, .mv 12 (.t 4)),
              (none, .bin 13 .add (.t 12) (.c (.I 1))),
              (none, .mv 4 (.t 13))]))))))
      (.seq (.ops [(none, .mv 33 (.t 3)),
          (none, .mv 2 (.t 33))])
       (.ret))))⟩
def spec_l2Has : AFn :=
  ⟨2, 20, [.tmp 4],
    .seq (.ops [(none, .box 2 (.t 0)),
       (none, .box 3 (.t 1)),
       (none, .mv 4 (.c (.B false)))])
    (.seq (.seq (.ops [(none, .mv 5 (.c (.I 0)))])
      (.block 0 (.loop (.seq (.seq (.ops [(none, .mv 6 (.t 5)),
             (none, .fieldAddr 7 (.t 2) 3),
             (none, .load1 8 (.t 7)),
             (none, .len 9 (.t 8)),
             (none, .bin 10 .lss (.t 6) (.t 9))])
          (.cond (.t 10) (.skip)
           (.exit 0)))
         (.seq (.block 1 (.seq (.draw [⟨(none, .fieldAddr 13 (.t 2) 3), [], []⟩,
               ⟨(none, .load1 14 (.t 13)), [], []⟩,
               ⟨(none, .mv 15 (.t 5)), [], []⟩,
               ⟨(none, .idxS 16 3 (.t 14) (.t 15)), [], []⟩,
               ⟨(none, .loadN 17 3 (.t 16)), [], []⟩,
               ⟨(none, .loadN 18 3 (.t 3)), [], []⟩,
               ⟨(none, .eqs 19 false 3 (.t 17) (.t 18)), [], []⟩])
            (.cond (.t 19) (.seq (.ops [(none, .mv 4 (.c (.B true)))])
              (.ret))
             (.skip))))
          (.ops [(none, .mv 11 (.t 5)),
             (none, .bin 12 .add (.t 11) (.c (.I 1))),
             (none, .mv 5 (.t 12))]))))))
     (.seq (.ops [(none, .mv 4 (.c (.B false)))])
      (.ret)))⟩
end Go.Ab.C

/- That the program has this code. -/
namespace Go.Ab.K
open Go Go.Ab
theorem spec_l2All : prepF Go.Proofs.Try.prog F.spec_l2All = some C.spec_l2All := by kernel_rfl
theorem spec_l2Has : prepF Go.Proofs.Try.prog F.spec_l2Has = some C.spec_l2Has := by kernel_rfl
end Go.Ab.K

/- The abstract code of some functions (written by a program of mine from the translation, by way of prepF). -/
namespace Go.Ab.C
open Go.Ab
end Go.Ab.C

/- That the program has this code. -/
namespace Go.Ab.K
open Go Go.Ab
end Go.Ab.K

/- The abstract code of some functions (written by a program of mine from the translation, by way of prepF). -/
namespace Go.Ab.C
open Go.Ab
def spec_l2Heap : AFn :=
  ⟨1, 46, [.tmp 2],
    .seq (.ops [(none, .box 1 (.t 0)),
       (none, .mv 2 (.c (.B false)))])
    (.seq (.seq (.ops [(none, .fieldAddr 4 (.t 1) 0),
         (none, .load1 5 (.t 4)),
         (none, .fieldAddr 6 (.t 1) 1),
         (none, .load1 7 (.t 6)),
         (none, .fieldAddr 8 (.t 1) 2),
         (none, .load1 9 (.t 8)),
         (none, .call (some 10) F.spec_l2Sides [(.t 5), (.t 7), (.t 9)]),
         (none, .un 11 .not (.t 10))])
      (.cond (.t 11) (.seq (.ops [(none, .mv 2 (.c (.B false)))])
        (.ret))
       (.skip)))
     (.seq (.seq (.ops [(none, .mv 3 (.c (.I 0)))])
       (.block 0 (.loop (.seq (.seq (.ops [(none, .mv 12 (.t 3)),
              (none, .fieldAddr 13 (.t 1) 3),
              (none, .load1 14 (.t 13)),
              (none, .len 15 (.t 14)),
              (none, .bin 16 .lss (.t 12) (.t 15))])
           (.cond (.t 16) (.skip)
            (.exit 0)))
          (.seq (.block 1 (.seq (.draw [⟨(none, .loadN 19 4 (.t 1)), [], []⟩,
                ⟨(none, .fieldAddr 20 (.t 1) 3), [], []⟩,
                ⟨(none, .load1 21 (.t 20)), [], []⟩,
                ⟨(none, .mv 22 (.t 3)), [], []⟩,
                ⟨(none, .idxS 23 3 (.t 21) (.t 22)), [], []⟩,
                ⟨(none, .loadN 24 3 (.t 23)), [], []⟩,
                ⟨(none, .call (some 25) F.spec_l2In [(.t 19), (.t 24)]), [], []⟩,
                ⟨(none, .un 26 .not (.t 25)), [], []⟩,
                ⟨(none, .mv 27 (.t 26)), [], []⟩,
                ⟨(some (27, false), .mv 28 (.t 3)), [], []⟩,
                ⟨(some (27, false), .bin 29 .gtr (.t 28) (.c (.I 0))), [], []⟩,
                ⟨(some (27, false), .mv 30 (.t 29)), [], []⟩,
                ⟨(some (30, true), .fieldAddr 31 (.t 1) 3), [], []⟩,
                ⟨(some (30, true), .load1 32 (.t 31)), [], []⟩,
                ⟨(some (30, true), .mv 33 (.t 3)), [], []⟩,
                ⟨(some (30, true), .bin 34 .sub (.t 33) (.c (.I 1))), [], []⟩,
                ⟨(some (30, true), .idxS 35 3 (.t 32) (.t 34)), [], []⟩,
                ⟨(some (30, true), .loadN 36 3 (.t 35)), [], []⟩,
                ⟨(some (30, true), .fieldAddr 37 (.t 1) 3), [], []⟩,
                ⟨(some (30, true), .load1 38 (.t 37)), [], []⟩,
                ⟨(some (30, true), .mv 39 (.t 3)), [], []⟩,
                ⟨(some (30, true), .idxS 40 3 (.t 38) (.t 39)), [], []⟩,
                ⟨(some (30, true), .loadN 41 3 (.t 40)), [], []⟩,
                ⟨(some (30, true), .call (some 42) F.spec_l2Before [(.t 36), (.t 41)]), [], []⟩,
                ⟨(some (30, true), .un 43 .not (.t 42)), [], []⟩,
                ⟨(some (27, false), .pick 44 (.t 30) (.t 43) (.c (.B false))), [], []⟩,
                ⟨(none, .pick 45 (.t 27) (.c (.B true)) (.t 44)), [], []⟩])
             (.cond (.t 45) (.seq (.ops [(none, .mv 2 (.c (.B false)))])
               (.ret))
              (.skip))))
           (.ops [(none, .mv 17 (.t 3)),
              (none, .bin 18 .add (.t 17) (.c (.I 1))),
              (none, .mv 3 (.t 18))]))))))
      (.seq (.ops [(none, .mv 2 (.c (.B true)))])
       (.ret))))⟩
end Go.Ab.C

/- That the program has this code. -/
namespace Go.Ab.K
open Go Go.Ab
theorem spec_l2Heap : prepF Go.Proofs.Try.prog F.spec_l2Heap = some C.spec_l2Heap := by kernel_rfl
end Go.Ab.K

/- Contracts: the reference's valid heaps, heights, columns. -/
namespace Go.Ab
open Go
set_option linter.unusedSimpArgs false
set_option linter.unusedVariables false

theorem h_l2Heap {x y z : Int} {t o : Nat} {cs : List Cell} {M : Mem} (h : Tri M t o cs) (hn : cs.length ≤ 1000000000) :
    CallsTo PG F.spec_l2Heap [.agg [.I x, .I y, .I z, .ref t o cs.length]] M (.B (decide (HeapOK x y z cs))) M := by
  refine calls_run K.spec_l2Heap rfl ?_
  simp (disch := omega) only [C.spec_l2Heap, ↓SXd, SXu, slBounds, ↓sop, ↓aop, ↓reduceIte, LV.cells, AOp.dst, LV.I, LV.B, LV.U, LV.S, LV.nil, Nat.reduceEqDiff, Nat.reduceAdd, Nat.reduceMul, Nat.reduceSub, Nat.reduceLeDiff, Nat.reduceBEq, Nat.reduceDiv, Nat.reduceMod, Int.reduceToNat, Int.reduceLT, Int.reduceLE, Int.reduceAdd, Int.reduceSub, Int.reduceMul, Int.reduceEq, Int.reduceNeg, reduceCtorEq, resV, resAll, ARes.ev, LV.flat, ite_true, ite_false, exists_eq_left', exists_eq_left, keyOf, implies_true, fillC, capOf]
  refine callK_of h_l2Sides ?_
  simp (disch := omega) only [↓SXd, SXu, slBounds, ↓sop, ↓aop, ↓reduceIte, LV.cells, AOp.dst, LV.I, LV.B, LV.U, LV.S, LV.nil, Nat.reduceEqDiff, Nat.reduceAdd, Nat.reduceMul, Nat.reduceSub, Nat.reduceLeDiff, Nat.reduceBEq, Nat.reduceDiv, Nat.reduceMod, Int.reduceToNat, Int.reduceLT, Int.reduceLE, Int.reduceAdd, Int.reduceSub, Int.reduceMul, Int.reduceEq, Int.reduceNeg, reduceCtorEq, resV, resAll, ARes.ev, LV.flat, ite_true, ite_false, exists_eq_left', exists_eq_left, keyOf, implies_true, fillC, capOf]
  by_cases hS : Sides x y z
  · simp (disch := omega) only [hS, ↓SXd, SXu, slBounds, ↓sop, ↓aop, ↓reduceIte, LV.cells, AOp.dst, LV.I, LV.B, LV.U, LV.S, LV.nil, Nat.reduceEqDiff, Nat.reduceAdd, Nat.reduceMul, Nat.reduceSub, Nat.reduceLeDiff, Nat.reduceBEq, Nat.reduceDiv, Nat.reduceMod, Int.reduceToNat, Int.reduceLT, Int.reduceLE, Int.reduceAdd, Int.reduceSub, Int.reduceMul, Int.reduceEq, Int.reduceNeg, reduceCtorEq, resV, resAll, ARes.ev, LV.flat, ite_true, ite_false, exists_eq_left', exists_eq_left, keyOf, implies_true, fillC, capOf]
    refine ev_loop (fun m fr M' => ∃ k : Nat, k + m = cs.length ∧ M' = M ++ [some (Blk.row [.I x, .I y, .I z, .ref t o cs.length] true 0)] ∧ fr 1 = .ptr M.length 0 ∧ fr 3 = .I k ∧
      ∀ j, j < k → (cs.getD j default).inBox x y z ∧ (0 < j → (cs.getD (j - 1) default).lt (cs.getD j default))) cs.length ⟨0, by omega, rfl, rfl, rfl, by omega⟩ ?_
    rintro m fr M' ⟨k, hk, rfl, h1, h3, hj⟩
    have ht := h.lt
    simp (disch := omega) only [h1, h3, ↓SXd, SXu, slBounds, ↓sop, ↓aop, ↓reduceIte, LV.cells, AOp.dst, LV.I, LV.B, LV.U, LV.S, LV.nil, Nat.reduceEqDiff, Nat.reduceAdd, Nat.reduceMul, Nat.reduceSub, Nat.reduceLeDiff, Nat.reduceBEq, Nat.reduceDiv, Nat.reduceMod, Int.reduceToNat, Int.reduceLT, Int.reduceLE, Int.reduceAdd, Int.reduceSub, Int.reduceMul, Int.reduceEq, Int.reduceNeg, reduceCtorEq, resV, resAll, ARes.ev, LV.flat, ite_true, ite_false, exists_eq_left', exists_eq_left, keyOf, implies_true, fillC, capOf]
    refine condC_dec (fun hlt => ?_) (fun hlt => ?_)
    · simp (disch := omega) only [h1, h3, getCells_app, h.get, Cell.row, ↓SXd, SXu, slBounds, ↓sop, ↓aop, ↓reduceIte, LV.cells, AOp.dst, LV.I, LV.B, LV.U, LV.S, LV.nil, Nat.reduceEqDiff, Nat.reduceAdd, Nat.reduceMul, Nat.reduceSub, Nat.reduceLeDiff, Nat.reduceBEq, Nat.reduceDiv, Nat.reduceMod, Int.reduceToNat, Int.reduceLT, Int.reduceLE, Int.reduceAdd, Int.reduceSub, Int.reduceMul, Int.reduceEq, Int.reduceNeg, reduceCtorEq, resV, resAll, ARes.ev, LV.flat, ite_true, ite_false, exists_eq_left', exists_eq_left, keyOf, implies_true, fillC, capOf]
      refine callK_of (h_l2In hS) ?_
      simp (disch := omega) only [h1, h3, getCells_app, h.get, Cell.row, cell_eta, ↓SXd, SXu, slBounds, ↓sop, ↓aop, ↓reduceIte, LV.cells, AOp.dst, LV.I, LV.B, LV.U, LV.S, LV.nil, Nat.reduceEqDiff, Nat.reduceAdd, Nat.reduceMul, Nat.reduceSub, Nat.reduceLeDiff, Nat.reduceBEq, Nat.reduceDiv, Nat.reduceMod, Int.reduceToNat, Int.reduceLT, Int.reduceLE, Int.reduceAdd, Int.reduceSub, Int.reduceMul, Int.reduceEq, Int.reduceNeg, reduceCtorEq, resV, resAll, ARes.ev, LV.flat, ite_true, ite_false, exists_eq_left', exists_eq_left, keyOf, implies_true, fillC, capOf]
      by_cases hin : (cs.getD k default).inBox x y z
      · simp (disch := omega) only [hin, h1, h3, getCells_app, h.get, Cell.row, cell_eta, ↓SXd, SXu, slBounds, ↓sop, ↓aop, ↓reduceIte, LV.cells, AOp.dst, LV.I, LV.B, LV.U, LV.S, LV.nil, Nat.reduceEqDiff, Nat.reduceAdd, Nat.reduceMul, Nat.reduceSub, Nat.reduceLeDiff, Nat.reduceBEq, Nat.reduceDiv, Nat.reduceMod, Int.reduceToNat, Int.reduceLT, Int.reduceLE, Int.reduceAdd, Int.reduceSub, Int.reduceMul, Int.reduceEq, Int.reduceNeg, reduceCtorEq, resV, resAll, ARes.ev, LV.flat, ite_true, ite_false, exists_eq_left', exists_eq_left, keyOf, implies_true, fillC, capOf]
        by_cases hk0 : k = 0
        · subst hk0
          simp (disch := omega) only [h1, h3, getCells_app, h.get, Cell.row, cell_eta, Int.natCast_zero, gt_iff_lt, Int.lt_irrefl, ↓SXd, SXu, slBounds, ↓sop, ↓aop, ↓reduceIte, LV.cells, AOp.dst, LV.I, LV.B, LV.U, LV.S, LV.nil, Nat.reduceEqDiff, Nat.reduceAdd, Nat.reduceMul, Nat.reduceSub, Nat.reduceLeDiff, Nat.reduceBEq, Nat.reduceDiv, Nat.reduceMod, Int.reduceToNat, Int.reduceLT, Int.reduceLE, Int.reduceAdd, Int.reduceSub, Int.reduceMul, Int.reduceEq, Int.reduceNeg, reduceCtorEq, resV, resAll, ARes.ev, LV.flat, ite_true, ite_false, exists_eq_left', exists_eq_left, keyOf, implies_true, fillC, capOf]
          exact ⟨m - 1, by omega, 1, by omega, rfl, h1, rfl, fun j hj1 => by
            have : j = 0 := by omega
            subst this
            exact ⟨hin, by omega⟩⟩
        · have e1 : ((k : Int) - 1).toNat = k - 1 := by omega
          have e2 : (0 : Int) < k := by omega
          simp (disch := omega) only [h1, h3, getCells_app, h.get, Cell.row, cell_eta, e1, e2, ↓SXd, SXu, slBounds, ↓sop, ↓aop, ↓reduceIte, LV.cells, AOp.dst, LV.I, LV.B, LV.U, LV.S, LV.nil, Nat.reduceEqDiff, Nat.reduceAdd, Nat.reduceMul, Nat.reduceSub, Nat.reduceLeDiff, Nat.reduceBEq, Nat.reduceDiv, Nat.reduceMod, Int.reduceToNat, Int.reduceLT, Int.reduceLE, Int.reduceAdd, Int.reduceSub, Int.reduceMul, Int.reduceEq, Int.reduceNeg, reduceCtorEq, resV, resAll, ARes.ev, LV.flat, ite_true, ite_false, exists_eq_left', exists_eq_left, keyOf, implies_true, fillC, capOf]
          refine callK_of h_l2Before ?_
          simp (disch := omega) only [h1, h3, cell_eta, ↓SXd, SXu, slBounds, ↓sop, ↓aop, ↓reduceIte, LV.cells, AOp.dst, LV.I, LV.B, LV.U, LV.S, LV.nil, Nat.reduceEqDiff, Nat.reduceAdd, Nat.reduceMul, Nat.reduceSub, Nat.reduceLeDiff, Nat.reduceBEq, Nat.reduceDiv, Nat.reduceMod, Int.reduceToNat, Int.reduceLT, Int.reduceLE, Int.reduceAdd, Int.reduceSub, Int.reduceMul, Int.reduceEq, Int.reduceNeg, reduceCtorEq, resV, resAll, ARes.ev, LV.flat, ite_true, ite_false, exists_eq_left', exists_eq_left, keyOf, implies_true, fillC, capOf]
          by_cases hb : (cs.getD (k - 1) default).lt (cs.getD k default)
          · simp (disch := omega) only [hb, h1, h3, ↓SXd, SXu, slBounds, ↓sop, ↓aop, ↓reduceIte, LV.cells, AOp.dst, LV.I, LV.B, LV.U, LV.S, LV.nil, Nat.reduceEqDiff, Nat.reduceAdd, Nat.reduceMul, Nat.reduceSub, Nat.reduceLeDiff, Nat.reduceBEq, Nat.reduceDiv, Nat.reduceMod, Int.reduceToNat, Int.reduceLT, Int.reduceLE, Int.reduceAdd, Int.reduceSub, Int.reduceMul, Int.reduceEq, Int.reduceNeg, reduceCtorEq, resV, resAll, ARes.ev, LV.flat, ite_true, ite_false, exists_eq_left', exists_eq_left, keyOf, implies_true, fillC, capOf]
            exact ⟨m - 1, by omega, k + 1, by omega, rfl, h1, eqI (natI _), fun j hj1 => by
              by_cases hjk : j = k
              · subst hjk; exact ⟨hin, fun _ => hb⟩
              · exact hj j (by omega)⟩
          · simp (disch := omega) only [hb, h1, h3, ↓SXd, SXu, slBounds, ↓sop, ↓aop, ↓reduceIte, LV.cells, AOp.dst, LV.I, LV.B, LV.U, LV.S, LV.nil, Nat.reduceEqDiff, Nat.reduceAdd, Nat.reduceMul, Nat.reduceSub, Nat.reduceLeDiff, Nat.reduceBEq, Nat.reduceDiv, Nat.reduceMod, Int.reduceToNat, Int.reduceLT, Int.reduceLE, Int.reduceAdd, Int.reduceSub, Int.reduceMul, Int.reduceEq, Int.reduceNeg, reduceCtorEq, resV, resAll, ARes.ev, LV.flat, ite_true, ite_false, exists_eq_left', exists_eq_left, keyOf, implies_true, fillC, capOf]
            exact cmp_dropF fun hh => hb ((hh.2 k (by omega)).2 (by omega))
      · simp (disch := omega) only [hin, h1, h3, ↓SXd, SXu, slBounds, ↓sop, ↓aop, ↓reduceIte, LV.cells, AOp.dst, LV.I, LV.B, LV.U, LV.S, LV.nil, Nat.reduceEqDiff, Nat.reduceAdd, Nat.reduceMul, Nat.reduceSub, Nat.reduceLeDiff, Nat.reduceBEq, Nat.reduceDiv, Nat.reduceMod, Int.reduceToNat, Int.reduceLT, Int.reduceLE, Int.reduceAdd, Int.reduceSub, Int.reduceMul, Int.reduceEq, Int.reduceNeg, reduceCtorEq, resV, resAll, ARes.ev, LV.flat, ite_true, ite_false, exists_eq_left', exists_eq_left, keyOf, implies_true, fillC, capOf]
        exact cmp_dropF fun hh => hin (hh.2 k (by omega)).1
    · simp (disch := omega) only [h1, h3, ↓SXd, SXu, slBounds, ↓sop, ↓aop, ↓reduceIte, LV.cells, AOp.dst, LV.I, LV.B, LV.U, LV.S, LV.nil, Nat.reduceEqDiff, Nat.reduceAdd, Nat.reduceMul, Nat.reduceSub, Nat.reduceLeDiff, Nat.reduceBEq, Nat.reduceDiv, Nat.reduceMod, Int.reduceToNat, Int.reduceLT, Int.reduceLE, Int.reduceAdd, Int.reduceSub, Int.reduceMul, Int.reduceEq, Int.reduceNeg, reduceCtorEq, resV, resAll, ARes.ev, LV.flat, ite_true, ite_false, exists_eq_left', exists_eq_left, keyOf, implies_true, fillC, capOf]
      exact cmp_dropT ⟨hS, fun j hj1 => hj j (by omega)⟩
  · simp (disch := omega) only [hS, ↓SXd, SXu, slBounds, ↓sop, ↓aop, ↓reduceIte, LV.cells, AOp.dst, LV.I, LV.B, LV.U, LV.S, LV.nil, Nat.reduceEqDiff, Nat.reduceAdd, Nat.reduceMul, Nat.reduceSub, Nat.reduceLeDiff, Nat.reduceBEq, Nat.reduceDiv, Nat.reduceMod, Int.reduceToNat, Int.reduceLT, Int.reduceLE, Int.reduceAdd, Int.reduceSub, Int.reduceMul, Int.reduceEq, Int.reduceNeg, reduceCtorEq, resV, resAll, ARes.ev, LV.flat, ite_true, ite_false, exists_eq_left', exists_eq_left, keyOf, implies_true, fillC, capOf]
    exact cmp_dropF fun hh => hS hh.1

end Go.Ab

/- Contracts: distances of cells. -/
namespace Go.Ab
open Go
set_option linter.unusedSimpArgs false
set_option linter.unusedVariables false

end Go.Ab

/- Contracts: the reference's heaps. -/
namespace Go.Ab
open Go
set_option linter.unusedSimpArgs false
set_option linter.unusedVariables false

theorem h_l2Has {x y z a b c : Int} {t o : Nat} {cs : List Cell} {M : Mem} (h : Tri M t o cs) (hn : cs.length ≤ 1000000000) :
    CallsTo PG F.spec_l2Has [.agg [.I x, .I y, .I z, .ref t o cs.length], .agg [.I a, .I b, .I c]] M (.B (decide ((⟨a, b, c⟩ : Cell) ∈ cs))) M := by
  refine calls_run K.spec_l2Has rfl ?_
  simp (disch := omega) only [C.spec_l2Has, ↓SXd, SXu, slBounds, ↓sop, ↓aop, ↓reduceIte, LV.cells, AOp.dst, LV.I, LV.B, LV.U, LV.S, LV.nil, Nat.reduceEqDiff, Nat.reduceAdd, Nat.reduceMul, Nat.reduceSub, Nat.reduceLeDiff, Nat.reduceBEq, Nat.reduceDiv, Nat.reduceMod, Int.reduceToNat, Int.reduceLT, Int.reduceLE, Int.reduceAdd, Int.reduceSub, Int.reduceMul, Int.reduceEq, Int.reduceNeg, reduceCtorEq, resV, resAll, ARes.ev, LV.flat, ite_true, ite_false, exists_eq_left', exists_eq_left, keyOf, implies_true, fillC, capOf]
  refine ev_loop (fun m fr M' => ∃ k : Nat, k + m = cs.length ∧ M' = M ++ [some (Blk.row [.I x, .I y, .I z, .ref t o cs.length] true 0), some (Blk.row [.I a, .I b, .I c] true 0)] ∧ fr 2 = .ptr M.length 0 ∧ fr 3 = .ptr (M.length + 1) 0 ∧ fr 5 = .I k ∧ (⟨a, b, c⟩ : Cell) ∉ cs.take k) cs.length
    ⟨0, by omega, rfl, rfl, rfl, rfl, by simp⟩ ?_
  rintro m fr M' ⟨k, hk, rfl, f2, f3, f5, hno⟩
  have ht := h.lt
  simp (disch := omega) only [f2, f3, f5, ↓SXd, SXu, slBounds, ↓sop, ↓aop, ↓reduceIte, LV.cells, AOp.dst, LV.I, LV.B, LV.U, LV.S, LV.nil, Nat.reduceEqDiff, Nat.reduceAdd, Nat.reduceMul, Nat.reduceSub, Nat.reduceLeDiff, Nat.reduceBEq, Nat.reduceDiv, Nat.reduceMod, Int.reduceToNat, Int.reduceLT, Int.reduceLE, Int.reduceAdd, Int.reduceSub, Int.reduceMul, Int.reduceEq, Int.reduceNeg, reduceCtorEq, resV, resAll, ARes.ev, LV.flat, ite_true, ite_false, exists_eq_left', exists_eq_left, keyOf, implies_true, fillC, capOf]
  refine condC_dec (fun hlt => ?_) (fun hlt => ?_)
  · have hkl : k < cs.length := by omega
    have htd := take_dec (cs := cs) (k := k) (c := ⟨a, b, c⟩) hkl
    rw [decide_eq_false hno, Bool.false_or] at htd
    simp (disch := omega) only [f2, f3, f5, getCells_app, (Tri.get h (k := k) (by omega)), Cell.row, eqV, eqC, if_true, ite_true, Bool.and_true, ↓SXd, SXu, slBounds, ↓sop, ↓aop, ↓reduceIte, LV.cells, AOp.dst, LV.I, LV.B, LV.U, LV.S, LV.nil, Nat.reduceEqDiff, Nat.reduceAdd, Nat.reduceMul, Nat.reduceSub, Nat.reduceLeDiff, Nat.reduceBEq, Nat.reduceDiv, Nat.reduceMod, Int.reduceToNat, Int.reduceLT, Int.reduceLE, Int.reduceAdd, Int.reduceSub, Int.reduceMul, Int.reduceEq, Int.reduceNeg, reduceCtorEq, resV, resAll, ARes.ev, LV.flat, ite_true, ite_false, exists_eq_left', exists_eq_left, keyOf, implies_true, fillC, capOf]
    by_cases he : (⟨a, b, c⟩ : Cell) = cs.getD k default
    · obtain ⟨e1, e2, e3⟩ := cell_eq.1 he
      simp only at e1 e2 e3
      simp (disch := omega) only [f2, f3, f5, ← e1, ← e2, ← e3, Bool.and_self, ↓SXd, SXu, slBounds, ↓sop, ↓aop, ↓reduceIte, LV.cells, AOp.dst, LV.I, LV.B, LV.U, LV.S, LV.nil, Nat.reduceEqDiff, Nat.reduceAdd, Nat.reduceMul, Nat.reduceSub, Nat.reduceLeDiff, Nat.reduceBEq, Nat.reduceDiv, Nat.reduceMod, Int.reduceToNat, Int.reduceLT, Int.reduceLE, Int.reduceAdd, Int.reduceSub, Int.reduceMul, Int.reduceEq, Int.reduceNeg, reduceCtorEq, resV, resAll, ARes.ev, LV.flat, ite_true, ite_false, exists_eq_left', exists_eq_left, keyOf, implies_true, fillC, capOf]
      exact cmp_dropT (List.mem_of_mem_take (of_decide_eq_true (htd ▸ decide_eq_true he)))
    · rw [decide_eq_false he] at htd
      have hf : ((cs.getD k default).a == a && ((cs.getD k default).b == b && (cs.getD k default).c == c)) = false := by
        rw [Bool.eq_false_iff]
        intro e
        simp only [Bool.and_eq_true, beq_iff_eq] at e
        exact he (cell_eq.2 ⟨e.1.symm, e.2.1.symm, e.2.2.symm⟩)
      simp (disch := omega) only [f2, f3, f5, hf, ↓SXd, SXu, slBounds, ↓sop, ↓aop, ↓reduceIte, LV.cells, AOp.dst, LV.I, LV.B, LV.U, LV.S, LV.nil, Nat.reduceEqDiff, Nat.reduceAdd, Nat.reduceMul, Nat.reduceSub, Nat.reduceLeDiff, Nat.reduceBEq, Nat.reduceDiv, Nat.reduceMod, Int.reduceToNat, Int.reduceLT, Int.reduceLE, Int.reduceAdd, Int.reduceSub, Int.reduceMul, Int.reduceEq, Int.reduceNeg, reduceCtorEq, resV, resAll, ARes.ev, LV.flat, ite_true, ite_false, exists_eq_left', exists_eq_left, keyOf, implies_true, fillC, capOf]
      exact ⟨m - 1, by omega, k + 1, by omega, rfl, f2, f3, eqI (natI _), of_decide_eq_false htd.symm⟩
  · simp (disch := omega) only [f2, f3, f5, ↓SXd, SXu, slBounds, ↓sop, ↓aop, ↓reduceIte, LV.cells, AOp.dst, LV.I, LV.B, LV.U, LV.S, LV.nil, Nat.reduceEqDiff, Nat.reduceAdd, Nat.reduceMul, Nat.reduceSub, Nat.reduceLeDiff, Nat.reduceBEq, Nat.reduceDiv, Nat.reduceMod, Int.reduceToNat, Int.reduceLT, Int.reduceLE, Int.reduceAdd, Int.reduceSub, Int.reduceMul, Int.reduceEq, Int.reduceNeg, reduceCtorEq, resV, resAll, ARes.ev, LV.flat, ite_true, ite_false, exists_eq_left', exists_eq_left, keyOf, implies_true, fillC, capOf]
    have : k = cs.length := by omega
    subst this
    rw [List.take_length] at hno
    exact cmp_dropF hno

theorem h_l2All {x y z : Int} {v : LV} {M : Mem} (hS : Sides x y z) : CallsTo PG F.spec_l2All [.agg [.I x, .I y, .I z, v]] M (.ref M.length 0 (cellsOf x y z).length) (M ++ [some (.row (triL (cellsOf x y z)) true 3)]) := by
  obtain ⟨hx, hy, hz⟩ := id hS
  have hv := vol_cast hS
  have hlen : (cellsOf x y z).length = vol x y z := by simp [cellsOf]
  refine calls_run K.spec_l2All rfl ?_
  simp (disch := omega) only [C.spec_l2All, ↓SXd, SXu, slBounds, ↓sop, ↓aop, ↓reduceIte, LV.cells, AOp.dst, LV.I, LV.B, LV.U, LV.S, LV.nil, Nat.reduceEqDiff, Nat.reduceAdd, Nat.reduceMul, Nat.reduceSub, Nat.reduceLeDiff, Nat.reduceBEq, Nat.reduceDiv, Nat.reduceMod, Int.reduceToNat, Int.reduceLT, Int.reduceLE, Int.reduceAdd, Int.reduceSub, Int.reduceMul, Int.reduceEq, Int.reduceNeg, reduceCtorEq, resV, resAll, ARes.ev, LV.flat, ite_true, ite_false, exists_eq_left', exists_eq_left, keyOf, implies_true, fillC, capOf]
  refine ev_loop (fun m fr M' => ∃ (a u : Nat) (acc : List Cell), (a : Int) + m = x ∧ acc = (cellsOf x y z).take (idx y z ⟨a, 0, 0⟩).toNat ∧ Pre M M' ∧ Live M' M.length (.row [.I x, .I y, .I z, v] true 0) ∧ M.length + 1 ≤ u ∧ Live M' u (.row (triL acc) true 3) ∧
    fr 1 = .ptr M.length 0 ∧ fr 3 = .ref u 0 acc.length ∧ fr 4 = .I a) x.toNat
    ⟨0, M.length + 1, [], by omega, by simp [idx], Pre.app _ _, Live.new, by omega, Live.newj rfl, rfl, rfl, rfl⟩ ?_
  rintro m fr M' ⟨a, u, acc, ha, hacc, hpre, hbox, hu, hout, f1, f3, f4⟩
  simp (disch := omega) only [f1, f3, f4, hbox.cell, ↓SXd, SXu, slBounds, ↓sop, ↓aop, ↓reduceIte, LV.cells, AOp.dst, LV.I, LV.B, LV.U, LV.S, LV.nil, Nat.reduceEqDiff, Nat.reduceAdd, Nat.reduceMul, Nat.reduceSub, Nat.reduceLeDiff, Nat.reduceBEq, Nat.reduceDiv, Nat.reduceMod, Int.reduceToNat, Int.reduceLT, Int.reduceLE, Int.reduceAdd, Int.reduceSub, Int.reduceMul, Int.reduceEq, Int.reduceNeg, reduceCtorEq, resV, resAll, ARes.ev, LV.flat, ite_true, ite_false, exists_eq_left', exists_eq_left, keyOf, implies_true, fillC, capOf]
  refine condC_dec (fun hlt => ?_) (fun hlt => ?_)
  rotate_left
  · simp (disch := omega) only [f1, f3, f4, ↓SXd, SXu, slBounds, ↓sop, ↓aop, ↓reduceIte, LV.cells, AOp.dst, LV.I, LV.B, LV.U, LV.S, LV.nil, Nat.reduceEqDiff, Nat.reduceAdd, Nat.reduceMul, Nat.reduceSub, Nat.reduceLeDiff, Nat.reduceBEq, Nat.reduceDiv, Nat.reduceMod, Int.reduceToNat, Int.reduceLT, Int.reduceLE, Int.reduceAdd, Int.reduceSub, Int.reduceMul, Int.reduceEq, Int.reduceNeg, reduceCtorEq, resV, resAll, ARes.ev, LV.flat, ite_true, ite_false, exists_eq_left', exists_eq_left, keyOf, implies_true, fillC, capOf]
    have hax : (a : Int) = x := by omega
    have e : cellsOf x y z = acc := by
      rw [hacc, hax, List.take_of_length_le]
      unfold idx
      simp only [Int.add_zero]
      rw [hlen]; unfold vol; omega
    rw [e]
    exact cmp_keepL hpre (by omega) hout (triL_lo acc) (by simp [rn, rn0, rn1])
  · simp (disch := omega) only [f1, f3, f4, ↓SXd, SXu, slBounds, ↓sop, ↓aop, ↓reduceIte, LV.cells, AOp.dst, LV.I, LV.B, LV.U, LV.S, LV.nil, Nat.reduceEqDiff, Nat.reduceAdd, Nat.reduceMul, Nat.reduceSub, Nat.reduceLeDiff, Nat.reduceBEq, Nat.reduceDiv, Nat.reduceMod, Int.reduceToNat, Int.reduceLT, Int.reduceLE, Int.reduceAdd, Int.reduceSub, Int.reduceMul, Int.reduceEq, Int.reduceNeg, reduceCtorEq, resV, resAll, ARes.ev, LV.flat, ite_true, ite_false, exists_eq_left', exists_eq_left, keyOf, implies_true, fillC, capOf]
    refine ev_loop (fun m2 fr N => ∃ (b u : Nat) (acc : List Cell), (b : Int) + m2 = y ∧ acc = (cellsOf x y z).take (idx y z ⟨a, b, 0⟩).toNat ∧ Pre M N ∧ Live N M.length (.row [.I x, .I y, .I z, v] true 0) ∧ M.length + 1 ≤ u ∧ Live N u (.row (triL acc) true 3) ∧
      fr 1 = .ptr M.length 0 ∧ fr 3 = .ref u 0 acc.length ∧ fr 4 = .I a ∧ fr 5 = .I b) y.toNat
      ⟨0, u, acc, by omega, hacc, hpre, hbox, hu, hout, f1, f3, f4, rfl⟩ ?_
    clear f1 f3 f4 hpre hbox hu hout hacc
    rintro m2 fr N ⟨b, u, acc, hb, hacc, hpre, hbox, hu, hout, f1, f3, f4, f5⟩
    simp (disch := omega) only [f1, f3, f4, f5, hbox.cell, ↓SXd, SXu, slBounds, ↓sop, ↓aop, ↓reduceIte, LV.cells, AOp.dst, LV.I, LV.B, LV.U, LV.S, LV.nil, Nat.reduceEqDiff, Nat.reduceAdd, Nat.reduceMul, Nat.reduceSub, Nat.reduceLeDiff, Nat.reduceBEq, Nat.reduceDiv, Nat.reduceMod, Int.reduceToNat, Int.reduceLT, Int.reduceLE, Int.reduceAdd, Int.reduceSub, Int.reduceMul, Int.reduceEq, Int.reduceNeg, reduceCtorEq, resV, resAll, ARes.ev, LV.flat, ite_true, ite_false, exists_eq_left', exists_eq_left, keyOf, implies_true, fillC, capOf]
    refine condC_dec (fun hlt2 => ?_) (fun hlt2 => ?_)
    rotate_left
    · simp (disch := omega) only [f1, f3, f4, f5, ↓SXd, SXu, slBounds, ↓sop, ↓aop, ↓reduceIte, LV.cells, AOp.dst, LV.I, LV.B, LV.U, LV.S, LV.nil, Nat.reduceEqDiff, Nat.reduceAdd, Nat.reduceMul, Nat.reduceSub, Nat.reduceLeDiff, Nat.reduceBEq, Nat.reduceDiv, Nat.reduceMod, Int.reduceToNat, Int.reduceLT, Int.reduceLE, Int.reduceAdd, Int.reduceSub, Int.reduceMul, Int.reduceEq, Int.reduceNeg, reduceCtorEq, resV, resAll, ARes.ev, LV.flat, ite_true, ite_false, exists_eq_left', exists_eq_left, keyOf, implies_true, fillC, capOf]
      have hby : (b : Int) = y := by omega
      refine ⟨m - 1, by omega, a + 1, u, acc, by omega, ?_, hpre, hbox, hu, hout, f1, f3, eqI (natI _)⟩
      rw [hacc, hby]
      unfold idx
      simp only [Int.natCast_add, Int.natCast_one, Int.add_mul, Int.one_mul, Int.add_zero]
    · simp (disch := omega) only [f1, f3, f4, f5, ↓SXd, SXu, slBounds, ↓sop, ↓aop, ↓reduceIte, LV.cells, AOp.dst, LV.I, LV.B, LV.U, LV.S, LV.nil, Nat.reduceEqDiff, Nat.reduceAdd, Nat.reduceMul, Nat.reduceSub, Nat.reduceLeDiff, Nat.reduceBEq, Nat.reduceDiv, Nat.reduceMod, Int.reduceToNat, Int.reduceLT, Int.reduceLE, Int.reduceAdd, Int.reduceSub, Int.reduceMul, Int.reduceEq, Int.reduceNeg, reduceCtorEq, resV, resAll, ARes.ev, LV.flat, ite_true, ite_false, exists_eq_left', exists_eq_left, keyOf, implies_true, fillC, capOf]
      refine ev_loop (fun m3 fr N => ∃ (c u : Nat) (acc : List Cell), (c : Int) + m3 = z ∧ acc = (cellsOf x y z).take (idx y z ⟨a, b, c⟩).toNat ∧ Pre M N ∧ Live N M.length (.row [.I x, .I y, .I z, v] true 0) ∧ M.length + 1 ≤ u ∧ Live N u (.row (triL acc) true 3) ∧
        fr 1 = .ptr M.length 0 ∧ fr 3 = .ref u 0 acc.length ∧ fr 4 = .I a ∧ fr 5 = .I b ∧ fr 6 = .I c) z.toNat
        ⟨0, u, acc, by omega, hacc, hpre, hbox, hu, hout, f1, f3, f4, f5, rfl⟩ ?_
      clear f1 f3 f4 f5 hpre hbox hu hout hacc
      rintro m3 fr N ⟨c, u, acc, hc, hacc, hpre, hbox, hu, hout, f1, f3, f4, f5, f6⟩
      simp (disch := omega) only [f1, f3, f4, f5, f6, hbox.cell, ↓SXd, SXu, slBounds, ↓sop, ↓aop, ↓reduceIte, LV.cells, AOp.dst, LV.I, LV.B, LV.U, LV.S, LV.nil, Nat.reduceEqDiff, Nat.reduceAdd, Nat.reduceMul, Nat.reduceSub, Nat.reduceLeDiff, Nat.reduceBEq, Nat.reduceDiv, Nat.reduceMod, Int.reduceToNat, Int.reduceLT, Int.reduceLE, Int.reduceAdd, Int.reduceSub, Int.reduceMul, Int.reduceEq, Int.reduceNeg, reduceCtorEq, resV, resAll, ARes.ev, LV.flat, ite_true, ite_false, exists_eq_left', exists_eq_left, keyOf, implies_true, fillC, capOf]
      refine condC_dec (fun hlt3 => ?_) (fun hlt3 => ?_)
      rotate_left
      · simp (disch := omega) only [f1, f3, f4, f5, f6, ↓SXd, SXu, slBounds, ↓sop, ↓aop, ↓reduceIte, LV.cells, AOp.dst, LV.I, LV.B, LV.U, LV.S, LV.nil, Nat.reduceEqDiff, Nat.reduceAdd, Nat.reduceMul, Nat.reduceSub, Nat.reduceLeDiff, Nat.reduceBEq, Nat.reduceDiv, Nat.reduceMod, Int.reduceToNat, Int.reduceLT, Int.reduceLE, Int.reduceAdd, Int.reduceSub, Int.reduceMul, Int.reduceEq, Int.reduceNeg, reduceCtorEq, resV, resAll, ARes.ev, LV.flat, ite_true, ite_false, exists_eq_left', exists_eq_left, keyOf, implies_true, fillC, capOf]
        have hcz : (c : Int) = z := by omega
        refine ⟨m2 - 1, by omega, b + 1, u, acc, by omega, ?_, hpre, hbox, hu, hout, f1, f3, f4, eqI (natI _)⟩
        rw [hacc, hcz]
        unfold idx
        simp only [Int.natCast_add, Int.natCast_one, Int.add_mul, Int.one_mul, Int.add_zero, Int.add_assoc]
      · have hin : (⟨a, b, c⟩ : Cell).inBox x y z := ⟨⟨by simp only; omega, by simp only; omega⟩, ⟨by simp only; omega, by simp only; omega⟩, ⟨by simp only; omega, by simp only; omega⟩⟩
        obtain ⟨i1, i2, i3⟩ := idx_in hS hin
        have hal : acc.length ≤ 64 := by
          have := List.length_take_le (idx y z ⟨a, b, c⟩).toNat (cellsOf x y z)
          rw [hacc]; omega
        simp (disch := omega) only [f1, f3, f4, f5, f6, splice, ↓SXd, SXu, slBounds, ↓sop, ↓aop, ↓reduceIte, LV.cells, AOp.dst, LV.I, LV.B, LV.U, LV.S, LV.nil, Nat.reduceEqDiff, Nat.reduceAdd, Nat.reduceMul, Nat.reduceSub, Nat.reduceLeDiff, Nat.reduceBEq, Nat.reduceDiv, Nat.reduceMod, Int.reduceToNat, Int.reduceLT, Int.reduceLE, Int.reduceAdd, Int.reduceSub, Int.reduceMul, Int.reduceEq, Int.reduceNeg, reduceCtorEq, resV, resAll, ARes.ev, LV.flat, ite_true, ite_false, exists_eq_left', exists_eq_left, keyOf, implies_true, fillC, capOf]
        refine appendK_cell hout (by omega) fun N' l1 l2 l3 => ?_
        simp (disch := omega) only [f1, f3, f4, f5, f6, ↓SXd, SXu, slBounds, ↓sop, ↓aop, ↓reduceIte, LV.cells, AOp.dst, LV.I, LV.B, LV.U, LV.S, LV.nil, Nat.reduceEqDiff, Nat.reduceAdd, Nat.reduceMul, Nat.reduceSub, Nat.reduceLeDiff, Nat.reduceBEq, Nat.reduceDiv, Nat.reduceMod, Int.reduceToNat, Int.reduceLT, Int.reduceLE, Int.reduceAdd, Int.reduceSub, Int.reduceMul, Int.reduceEq, Int.reduceNeg, reduceCtorEq, resV, resAll, ARes.ev, LV.flat, ite_true, ite_false, exists_eq_left', exists_eq_left, keyOf, implies_true, fillC, capOf]
        refine ⟨m3 - 1, by omega, c + 1, _, acc ++ [⟨a, b, c⟩], by omega, ?_, pre_step hpre (by omega) l1 l3, live_step hbox (by omega) l3, by have := hpre.1; omega, l2, f1, rfl, f4, f5, eqI (natI _)⟩
        have e1 : (idx y z ⟨a, b, ((c + 1 : Nat) : Int)⟩).toNat = (idx y z ⟨a, b, c⟩).toNat + 1 := by unfold idx at i1 ⊢; simp only at i1 ⊢; omega
        have hlt' : (idx y z ⟨a, b, c⟩).toNat < (cellsOf x y z).length := by omega
        rw [e1, List.take_succ, ← hacc, List.getElem?_eq_getElem hlt']
        congr 1
        simp only [Option.toList, cellsOf, List.getElem_map, List.getElem_range]
        rw [Int.toNat_of_nonneg i1, i3]

end Go.Ab

/- Contracts: the reference's heaps with one more cube. -/
namespace Go.Ab
open Go
set_option linter.unusedSimpArgs false
set_option linter.unusedVariables false

theorem appendK_zero {e b t off len t2 o2 : Nat} {M : Mem} {A : LV → Mem → Prop} : appendK e b (.ref t off len) (.ref t2 o2 0) M A = andK (len * b ≤ 140737488355328 ∧ len ≤ 9223372036854775807) (A (.ref t off len) M) := by
  simp [appendK, lenS, winC, appV, appK]
theorem appendK_pos {e b t off len t2 o2 n : Nat} {cs new : List LV} {M : Mem} {A : LV → Mem → Prop} (hn : 0 < n) (hw : getCells M t2 o2 (n * e) = some new) (hr : M[t]? = some (some (.row cs true e))) (hl : off + len * e ≤ cs.length) :
    appendK e b (.ref t off len) (.ref t2 o2 n) M A = andK ((len + n) * b ≤ 140737488355328 ∧ len + n ≤ 9223372036854775807) (A (.ref M.length 0 (len + n)) (M.set t none ++ [some (.row ((cs.drop off).take (len * e) ++ new) true e)])) := by
  have h0 : n ≠ 0 := by omega
  simp [appendK, lenS, winC, appV, appK, h0, hw, hr, hl]

theorem Tri.take {M : Mem} {t o k : Nat} {cs : List Cell} (h : Tri M t o cs) (hk : k ≤ cs.length) : Tri M t o (cs.take k) := by
  obtain ⟨row, h1, h2, h3⟩ := h
  rw [triL_len] at h2 h3
  have hl : (cs.take k).length = k := by simp; omega
  refine ⟨row, h1, by rw [triL_len, hl]; omega, ?_⟩
  rw [triL_len, hl, ← triL_take, ← h3, List.take_take, Nat.min_eq_left (by omega)]
theorem Tri.drop {M : Mem} {t o k : Nat} {cs : List Cell} (h : Tri M t o cs) (hk : k ≤ cs.length) : Tri M t (o + k * 3) (cs.drop k) := by
  obtain ⟨row, h1, h2, h3⟩ := h
  rw [triL_len] at h2 h3
  have hl : (cs.drop k).length = cs.length - k := by simp
  refine ⟨row, h1, by rw [triL_len, hl]; omega, ?_⟩
  rw [triL_len, hl, ← triL_drop, ← h3, List.drop_take, List.drop_drop]
  congr 1
  omega
theorem Tri.all {M : Mem} {t o n : Nat} {cs : List Cell} (h : Tri M t o cs) (hn : n = cs.length) : getCells M t o (n * 3) = some (triL cs) := by
  have := Has.all h
  rw [triL_len] at this; rw [hn]; exact this

end Go.Ab

/- Contracts: the reference's parts. -/
namespace Go.Ab
open Go
set_option linter.unusedSimpArgs false
set_option linter.unusedVariables false

theorem memK_box {M : Mem} {t e : Nat} {old vs : List LV} {A : Mem → Prop} (ht : Live M t (.row old true e)) (hl : vs.length = old.length)
    (hA : ∀ M', M'.length = M.length → Live M' t (.row vs true e) → (∀ u, u ≠ t → u < M.length → M'[u]? = M[u]?) → A M') : memK (setCells M t 0 vs) A := by
  rw [ht.setC, if_pos (by omega)]
  have : splice old 0 vs = vs := by simp [splice, hl]
  rw [this]
  exact hA _ (by simp) ht.set_eq fun u hu _ => List.getElem?_set_ne (fun e => hu e.symm)

/-- What is found by and by: the queue of a search in the set q from c. -/
structure Que (x y z : Int) (q : Cell → Bool) (c : Cell) (n : Nat) (l : List Cell) : Prop where
  nodup : l.Nodup
  mem : ∀ d ∈ l, d.inBox x y z ∧ q d = true ∧ Reach x y z (fun d => decide (d = c)) q d
  start : c ∈ l
  done : ∀ i, i < n → i < l.length → ∀ e, e.inBox x y z → q e = true → apart (l.getD i default) e = 1 → e ∈ l

theorem Que.reach {x y z : Int} {q : Cell → Bool} {c : Cell} {n : Nat} {l : List Cell} (h : Que x y z q c n l) (hn : l.length ≤ n) {d : Cell} : d ∈ l ↔ reach x y z (fun d => decide (d = c)) q d = true := by
  rw [reach_iff]
  refine ⟨fun hd => (h.mem d hd).2.2, fun hd => ?_⟩
  refine hd.ind (P := fun d => d ∈ l) (fun e _ he => ?_) fun a b ha hab hb hq => ?_
  · rw [of_decide_eq_true he]; exact h.start
  · obtain ⟨i, hi, rfl⟩ := List.getElem_of_mem ha
    exact h.done i (by omega) hi b hb hq (by simpa [hi] using hab)

end Go.Ab

/- Contracts: allowed cells, the reference's side. -/
namespace Go.Ab
open Go
set_option linter.unusedSimpArgs false
set_option linter.unusedVariables false
set_option maxRecDepth 20000

theorem memK_one {M : Mem} {t j e : Nat} {old : List LV} {v : LV} {A : Mem → Prop} (ht : Live M t (.row old true e)) (hj : j < old.length)
    (hA : ∀ M', M'.length = M.length → Live M' t (.row (old.set j v) true e) → (∀ u, u ≠ t → u < M.length → M'[u]? = M[u]?) → A M') : memK (setCells M t j [v]) A := by
  rw [ht.setC, if_pos (by simp; omega), splice_1 hj]
  exact hA _ (by simp) ht.set_eq fun u hu _ => List.getElem?_set_ne (fun e => hu e.symm)
end Go.Ab

/- The abstract code of some functions (written by a program of mine from the translation, by way of prepF). -/
namespace Go.Ab.C
open Go.Ab
end Go.Ab.C

/- That the program has this code. -/
namespace Go.Ab.K
open Go Go.Ab
end Go.Ab.K

/- Contracts: marks in a shadow's lists. -/
namespace Go.Ab
open Go
set_option linter.unusedSimpArgs false
set_option linter.unusedVariables false

theorem SlC.at {M N : Mem} {w : LV} {l : List Cell} (h : SlC M w l) (hk : ∀ t o n, w = .ref t o n → N[t]? = M[t]?) : SlC N w l := by
  rcases h with h | ⟨t, ex, h1, h2⟩
  · exact .inl h
  · refine .inr ⟨t, ex, h1, ?_⟩
    unfold Live; rw [hk _ _ _ h1]; exact h2
theorem Live.at {M N : Mem} {t : Nat} {b : Blk} (h : Live M t b) (hk : N[t]? = M[t]?) : Live N t b := by unfold Live; rw [hk]; exact h

/-- What is left as it was by marks in three blocks. -/
def Pre3 (a b c : Nat) (M N : Mem) : Prop := M.length ≤ N.length ∧ ∀ u, u < M.length → u ≠ a → u ≠ b → u ≠ c → N[u]? = M[u]?
theorem Pre3.pre {a b c : Nat} {M0 M N : Mem} (hp : Pre3 a b c M N) (h : Pre M0 M) (h1 : M0.length ≤ a) (h2 : M0.length ≤ b) (h3 : M0.length ≤ c) : Pre M0 N := ⟨Nat.le_trans h.1 hp.1, fun u hu => by rw [hp.2 u (Nat.lt_of_lt_of_le hu h.1) (by omega) (by omega) (by omega)]; exact h.2 u hu⟩

end Go.Ab

/- Contracts: the laws' helpers on lists of pieces. -/
namespace Go.Ab
open Go
set_option linter.unusedSimpArgs false
set_option linter.unusedVariables false
set_option maxRecDepth 20000

/-- Lists of cells of one's own, all behind M. -/
def PcsO (M N : Mem) (t : Nat) (L : List (List Cell)) : Prop := M.length ≤ t ∧ ∃ (refs : List LV) (hi : Nat), Live N t (.row refs true 1) ∧ refs.length = L.length ∧ Css N (t + 1) hi refs L ∧ hi ≤ N.length
theorem PcsO.pcs {M N : Mem} {t : Nat} {L : List (List Cell)} (h : PcsO M N t L) : Pcs N t L := by
  obtain ⟨_, refs, hi, h1, h2, h3, _⟩ := h
  exact ⟨refs, h1.has, h2, fun i hi => by obtain ⟨u, _, _, a, b⟩ := h3.get hi; exact ⟨u, 0, a, b.has⟩⟩
theorem PcsO.slcc {M N : Mem} {t : Nat} {L : List (List Cell)} (h : PcsO M N t L) : SlCC M N (.ref t 0 L.length) L := by
  obtain ⟨h0, refs, hi, h1, h2, h3, _⟩ := h
  rw [← h2]; exact SlCC.of h0 (by omega) h1 h3
theorem PcsO.pre {M N N' : Mem} {t : Nat} {L : List (List Cell)} (h : PcsO M N t L) (hp : Pre N N') : PcsO M N' t L := by
  obtain ⟨h0, refs, hi, h1, h2, h3, h4⟩ := h
  exact ⟨h0, refs, hi, h1.pre hp, h2, h3.pre hp, Nat.le_trans h4 hp.1⟩
theorem PcsO.lt {M N : Mem} {t : Nat} {L : List (List Cell)} (h : PcsO M N t L) : t < N.length := by obtain ⟨_, refs, hi, h1, _⟩ := h; exact h1.lt

theorem tot_le_mem {L : List (List Cell)} : ∀ {l : List Cell}, l ∈ L → l.length ≤ tot L := by
  induction L with
  | nil => intro l h; cases h
  | cons a L ih =>
    intro l h
    rcases List.mem_cons.1 h with rfl | h
    · simp only [tot]; omega
    · have := ih h; simp only [tot]; omega
theorem h_szIntA3SS {t : Nat} {L : List (List Cell)} {left : Int} {M : Mem} (h : Pcs M t L) (h0 : 0 ≤ left) (h1 : left ≤ 10000000) (hn : L.length ≤ 9223372036854775807 ∧ ∀ l ∈ L, l.length ≤ 9223372036854775807) :
    CallsTo PG F.laws_szIntA3SS [.ref t 0 L.length, .I left] M (.I (if left < L.length + tot L then -1 else left - L.length - tot L)) M := by
  refine calls_run K.laws_szIntA3SS rfl ?_
  obtain ⟨hn1, hn2⟩ := hn
  simp (disch := omega) only [C.laws_szIntA3SS, ↓SXd, SXu, slBounds, ↓sop, ↓aop, ↓reduceIte, LV.cells, AOp.dst, LV.I, LV.B, LV.U, LV.S, LV.nil, Nat.reduceEqDiff, Nat.reduceAdd, Nat.reduceMul, Nat.reduceSub, Nat.reduceLeDiff, Nat.reduceBEq, Nat.reduceDiv, Nat.reduceMod, Int.reduceToNat, Int.reduceLT, Int.reduceLE, Int.reduceAdd, Int.reduceSub, Int.reduceMul, Int.reduceEq, Int.reduceNeg, reduceCtorEq, resV, resAll, ARes.ev, LV.flat, ite_true, ite_false, exists_eq_left', exists_eq_left, keyOf, implies_true, fillC, capOf]
  by_cases hl : left < L.length
  · have hl' : left - (L.length : Nat) < 0 := by omega
    simp (disch := omega) only [hl', ↓SXd, SXu, slBounds, ↓sop, ↓aop, ↓reduceIte, LV.cells, AOp.dst, LV.I, LV.B, LV.U, LV.S, LV.nil, Nat.reduceEqDiff, Nat.reduceAdd, Nat.reduceMul, Nat.reduceSub, Nat.reduceLeDiff, Nat.reduceBEq, Nat.reduceDiv, Nat.reduceMod, Int.reduceToNat, Int.reduceLT, Int.reduceLE, Int.reduceAdd, Int.reduceSub, Int.reduceMul, Int.reduceEq, Int.reduceNeg, reduceCtorEq, resV, resAll, ARes.ev, LV.flat, ite_true, ite_false, exists_eq_left', exists_eq_left, keyOf, implies_true, fillC, capOf]
    rw [if_pos (by omega)]
    exact cmp_drop0 rfl
  · have hl' : ¬ (left - (L.length : Nat) < 0) := by omega
    simp (disch := omega) only [hl', ↓SXd, SXu, slBounds, ↓sop, ↓aop, ↓reduceIte, LV.cells, AOp.dst, LV.I, LV.B, LV.U, LV.S, LV.nil, Nat.reduceEqDiff, Nat.reduceAdd, Nat.reduceMul, Nat.reduceSub, Nat.reduceLeDiff, Nat.reduceBEq, Nat.reduceDiv, Nat.reduceMod, Int.reduceToNat, Int.reduceLT, Int.reduceLE, Int.reduceAdd, Int.reduceSub, Int.reduceMul, Int.reduceEq, Int.reduceNeg, reduceCtorEq, resV, resAll, ARes.ev, LV.flat, ite_true, ite_false, exists_eq_left', exists_eq_left, keyOf, implies_true, fillC, capOf]
    refine ev_loop (fun m fr M' => ∃ i : Nat, i + m = L.length ∧ M' = M ∧ (tot (L.take i) : Int) ≤ left - (L.length : Nat) ∧ fr 0 = .ref t 0 L.length ∧ fr 1 = .I (left - (L.length : Nat) - (tot (L.take i) : Nat)) ∧ fr 5 = .I i) L.length
      ⟨0, by omega, rfl, by simp [tot]; omega, rfl, by show LV.I _ = LV.I _; simp [tot], rfl⟩ ?_
    rintro m fr M' ⟨i, hi, rfl, ht, f0, f1, f5⟩
    simp (disch := omega) only [f0, f1, f5, ↓SXd, SXu, slBounds, ↓sop, ↓aop, ↓reduceIte, LV.cells, AOp.dst, LV.I, LV.B, LV.U, LV.S, LV.nil, Nat.reduceEqDiff, Nat.reduceAdd, Nat.reduceMul, Nat.reduceSub, Nat.reduceLeDiff, Nat.reduceBEq, Nat.reduceDiv, Nat.reduceMod, Int.reduceToNat, Int.reduceLT, Int.reduceLE, Int.reduceAdd, Int.reduceSub, Int.reduceMul, Int.reduceEq, Int.reduceNeg, reduceCtorEq, resV, resAll, ARes.ev, LV.flat, ite_true, ite_false, exists_eq_left', exists_eq_left, keyOf, implies_true, fillC, capOf]
    refine condC_dec (fun hlt => ?_) (fun hlt => ?_)
    · have hil : i < L.length := by omega
      obtain ⟨u, o, hg, hT⟩ := h.get hil
      have hm := hn2 _ (getD_mem' (d := []) hil)
      have hts := tot_take_succ hil
      have htot : tot (L.take (i + 1)) ≤ tot L := by
        have := tot_take_le (L := L) (i := i + 1); exact this
      generalize L.getD i [] = l at hg hT hm hts
      simp (disch := omega) only [f0, f1, f5, hg, Nat.mul_one, Nat.zero_add, ↓SXd, SXu, slBounds, ↓sop, ↓aop, ↓reduceIte, LV.cells, AOp.dst, LV.I, LV.B, LV.U, LV.S, LV.nil, Nat.reduceEqDiff, Nat.reduceAdd, Nat.reduceMul, Nat.reduceSub, Nat.reduceLeDiff, Nat.reduceBEq, Nat.reduceDiv, Nat.reduceMod, Int.reduceToNat, Int.reduceLT, Int.reduceLE, Int.reduceAdd, Int.reduceSub, Int.reduceMul, Int.reduceEq, Int.reduceNeg, reduceCtorEq, resV, resAll, ARes.ev, LV.flat, ite_true, ite_false, exists_eq_left', exists_eq_left, keyOf, implies_true, fillC, capOf]
      refine callK_of (h_szIntA3S (by omega) (by omega) hm) ?_
      simp (disch := omega) only [f0, f1, f5, ↓SXd, SXu, slBounds, ↓sop, ↓aop, ↓reduceIte, LV.cells, AOp.dst, LV.I, LV.B, LV.U, LV.S, LV.nil, Nat.reduceEqDiff, Nat.reduceAdd, Nat.reduceMul, Nat.reduceSub, Nat.reduceLeDiff, Nat.reduceBEq, Nat.reduceDiv, Nat.reduceMod, Int.reduceToNat, Int.reduceLT, Int.reduceLE, Int.reduceAdd, Int.reduceSub, Int.reduceMul, Int.reduceEq, Int.reduceNeg, reduceCtorEq, resV, resAll, ARes.ev, LV.flat, ite_true, ite_false, exists_eq_left', exists_eq_left, keyOf, implies_true, fillC, capOf]
      by_cases hl2 : left - (L.length : Nat) - (tot (L.take i) : Nat) < l.length
      · rw [if_pos hl2]
        simp (disch := omega) only [f0, f1, f5, Int.reduceLT, ↓SXd, SXu, slBounds, ↓sop, ↓aop, ↓reduceIte, LV.cells, AOp.dst, LV.I, LV.B, LV.U, LV.S, LV.nil, Nat.reduceEqDiff, Nat.reduceAdd, Nat.reduceMul, Nat.reduceSub, Nat.reduceLeDiff, Nat.reduceBEq, Nat.reduceDiv, Nat.reduceMod, Int.reduceToNat, Int.reduceLT, Int.reduceLE, Int.reduceAdd, Int.reduceSub, Int.reduceMul, Int.reduceEq, Int.reduceNeg, reduceCtorEq, resV, resAll, ARes.ev, LV.flat, ite_true, ite_false, exists_eq_left', exists_eq_left, keyOf, implies_true, fillC, capOf]
        rw [if_pos (by omega)]
        exact cmp_drop0 rfl
      · rw [if_neg hl2]
        have hl3 : ¬ (left - (L.length : Nat) - (tot (L.take i) : Nat) - (l.length : Nat) < 0) := by omega
        simp (disch := omega) only [f0, f1, f5, hl3, ↓SXd, SXu, slBounds, ↓sop, ↓aop, ↓reduceIte, LV.cells, AOp.dst, LV.I, LV.B, LV.U, LV.S, LV.nil, Nat.reduceEqDiff, Nat.reduceAdd, Nat.reduceMul, Nat.reduceSub, Nat.reduceLeDiff, Nat.reduceBEq, Nat.reduceDiv, Nat.reduceMod, Int.reduceToNat, Int.reduceLT, Int.reduceLE, Int.reduceAdd, Int.reduceSub, Int.reduceMul, Int.reduceEq, Int.reduceNeg, reduceCtorEq, resV, resAll, ARes.ev, LV.flat, ite_true, ite_false, exists_eq_left', exists_eq_left, keyOf, implies_true, fillC, capOf]
        exact ⟨m - 1, by omega, i + 1, by omega, rfl, by omega, f0, eqI (by omega), eqI (natI _)⟩
    · simp (disch := omega) only [f0, f1, f5, ↓SXd, SXu, slBounds, ↓sop, ↓aop, ↓reduceIte, LV.cells, AOp.dst, LV.I, LV.B, LV.U, LV.S, LV.nil, Nat.reduceEqDiff, Nat.reduceAdd, Nat.reduceMul, Nat.reduceSub, Nat.reduceLeDiff, Nat.reduceBEq, Nat.reduceDiv, Nat.reduceMod, Int.reduceToNat, Int.reduceLT, Int.reduceLE, Int.reduceAdd, Int.reduceSub, Int.reduceMul, Int.reduceEq, Int.reduceNeg, reduceCtorEq, resV, resAll, ARes.ev, LV.flat, ite_true, ite_false, exists_eq_left', exists_eq_left, keyOf, implies_true, fillC, capOf]
      have : i = L.length := by omega
      subst this
      rw [List.take_length] at ht f1 ⊢
      rw [if_neg (by omega)]
      exact cmp_drop0 rfl
theorem made_nil (n : Nat) : (List.replicate n [LV.val (Value.slice none 0 0)]).flatten = List.replicate n (LV.val (Value.slice none 0 0)) := by
  simp
theorem h_toIntA3SS {t : Nat} {L : List (List Cell)} {M : Mem} (h : Pcs M t L) (hn : L.length + tot L ≤ 10000000) :
    CallsR PG F.laws_toIntA3SS [.ref t 0 L.length] M fun v N => ∃ u, v = .ref u 0 L.length ∧ PcsO M N u L ∧ Pre M N := by
  have ht := h.lt
  refine callsR_run K.laws_toIntA3SS rfl ?_
  simp (disch := omega) only [C.laws_toIntA3SS, made_nil, ↓SXd, SXu, slBounds, ↓sop, ↓aop, ↓reduceIte, LV.cells, AOp.dst, LV.I, LV.B, LV.U, LV.S, LV.nil, Nat.reduceEqDiff, Nat.reduceAdd, Nat.reduceMul, Nat.reduceSub, Nat.reduceLeDiff, Nat.reduceBEq, Nat.reduceDiv, Nat.reduceMod, Int.reduceToNat, Int.reduceLT, Int.reduceLE, Int.reduceAdd, Int.reduceSub, Int.reduceMul, Int.reduceEq, Int.reduceNeg, reduceCtorEq, resV, resAll, ARes.ev, LV.flat, ite_true, ite_false, exists_eq_left', exists_eq_left, keyOf, implies_true, fillC, capOf]
  refine ev_loop (fun m fr M' => ∃ (i : Nat) (rs : List LV), i + m = L.length ∧ Pre M M' ∧ Live M' M.length (.row (rs ++ List.replicate (L.length - i) (LV.val (Value.slice none 0 0))) true 1) ∧ rs.length = i ∧ Css M' (M.length + 1) M'.length rs (L.take i) ∧ fr 0 = .ref t 0 L.length ∧ fr 3 = .ref M.length 0 L.length ∧ fr 4 = .I i) L.length
    ⟨0, [], by omega, Pre.app _ _, by simpa using Live.new, rfl, trivial, rfl, rfl, rfl⟩ ?_
  rintro m fr M' ⟨i, rs, hi, hpre, hout, hrs, hcss, f0, f3, f4⟩
  simp (disch := omega) only [f0, f3, f4, ↓SXd, SXu, slBounds, ↓sop, ↓aop, ↓reduceIte, LV.cells, AOp.dst, LV.I, LV.B, LV.U, LV.S, LV.nil, Nat.reduceEqDiff, Nat.reduceAdd, Nat.reduceMul, Nat.reduceSub, Nat.reduceLeDiff, Nat.reduceBEq, Nat.reduceDiv, Nat.reduceMod, Int.reduceToNat, Int.reduceLT, Int.reduceLE, Int.reduceAdd, Int.reduceSub, Int.reduceMul, Int.reduceEq, Int.reduceNeg, reduceCtorEq, resV, resAll, ARes.ev, LV.flat, ite_true, ite_false, exists_eq_left', exists_eq_left, keyOf, implies_true, fillC, capOf]
  refine condC_dec (fun hlt => ?_) (fun hlt => ?_)
  · have hil : i < L.length := by omega
    obtain ⟨u, o, hg, hT⟩ := (h.pre hpre).get hil
    have hml := tot_le_mem (getD_mem' (d := []) hil)
    have hts : L.take (i + 1) = L.take i ++ [L.getD i []] := by
      rw [List.take_succ, List.getElem?_eq_getElem hil]; simp [hil]
    generalize L.getD i [] = l at hg hT hml hts
    simp (disch := omega) only [f0, f3, f4, hg, Nat.mul_one, Nat.zero_add, ↓SXd, SXu, slBounds, ↓sop, ↓aop, ↓reduceIte, LV.cells, AOp.dst, LV.I, LV.B, LV.U, LV.S, LV.nil, Nat.reduceEqDiff, Nat.reduceAdd, Nat.reduceMul, Nat.reduceSub, Nat.reduceLeDiff, Nat.reduceBEq, Nat.reduceDiv, Nat.reduceMod, Int.reduceToNat, Int.reduceLT, Int.reduceLE, Int.reduceAdd, Int.reduceSub, Int.reduceMul, Int.reduceEq, Int.reduceNeg, reduceCtorEq, resV, resAll, ARes.ev, LV.flat, ite_true, ite_false, exists_eq_left', exists_eq_left, keyOf, implies_true, fillC, capOf]
    refine callN_of (h_toIntA3S hT (by omega)) ?_
    intro v N hv hp2 hl
    have hout2 := hout.pre hp2
    simp (disch := omega) only [f0, f3, f4, ↓SXd, SXu, slBounds, ↓sop, ↓aop, ↓reduceIte, LV.cells, AOp.dst, LV.I, LV.B, LV.U, LV.S, LV.nil, Nat.reduceEqDiff, Nat.reduceAdd, Nat.reduceMul, Nat.reduceSub, Nat.reduceLeDiff, Nat.reduceBEq, Nat.reduceDiv, Nat.reduceMod, Int.reduceToNat, Int.reduceLT, Int.reduceLE, Int.reduceAdd, Int.reduceSub, Int.reduceMul, Int.reduceEq, Int.reduceNeg, reduceCtorEq, resV, resAll, ARes.ev, LV.flat, ite_true, ite_false, exists_eq_left', exists_eq_left, keyOf, implies_true, fillC, capOf]
    refine memK_one hout2 (by rw [List.length_append, hrs, List.length_replicate]; omega) fun N3 k1 k2 k3 => ?_
    simp (disch := omega) only [f0, f3, f4, ↓SXd, SXu, slBounds, ↓sop, ↓aop, ↓reduceIte, LV.cells, AOp.dst, LV.I, LV.B, LV.U, LV.S, LV.nil, Nat.reduceEqDiff, Nat.reduceAdd, Nat.reduceMul, Nat.reduceSub, Nat.reduceLeDiff, Nat.reduceBEq, Nat.reduceDiv, Nat.reduceMod, Int.reduceToNat, Int.reduceLT, Int.reduceLE, Int.reduceAdd, Int.reduceSub, Int.reduceMul, Int.reduceEq, Int.reduceNeg, reduceCtorEq, resV, resAll, ARes.ev, LV.flat, ite_true, ite_false, exists_eq_left', exists_eq_left, keyOf, implies_true, fillC, capOf]
    have hol := hout.lt
    have hset : (rs ++ List.replicate (L.length - i) (LV.val (Value.slice none 0 0))).set i (.ref v 0 l.length) = (rs ++ [.ref v 0 l.length]) ++ List.replicate (L.length - (i + 1)) (LV.val (Value.slice none 0 0)) := by
      rw [List.set_append_right _ _ (by omega), hrs, Nat.sub_self, show L.length - i = (L.length - (i + 1)) + 1 by omega, List.replicate_succ, List.set_cons_zero, List.append_assoc]; rfl
    rw [hset] at k2
    refine ⟨m - 1, by omega, i + 1, rs ++ [.ref v 0 l.length], by omega, pre_step (hpre.trans hp2) (by omega) (j := 0) k1 k3, k2, by simp [hrs], ?_, f0, f3, eqI (natI _)⟩
    rw [hts]
    have hvl := hl.lt
    exact ((hcss.pre hp2).keep (.inl (.inr (by omega))) k3).snoc hv (by omega) (live_step hl (by omega) k3) (by have := hpre.1; omega)
  · simp (disch := omega) only [f0, f3, f4, ↓SXd, SXu, slBounds, ↓sop, ↓aop, ↓reduceIte, LV.cells, AOp.dst, LV.I, LV.B, LV.U, LV.S, LV.nil, Nat.reduceEqDiff, Nat.reduceAdd, Nat.reduceMul, Nat.reduceSub, Nat.reduceLeDiff, Nat.reduceBEq, Nat.reduceDiv, Nat.reduceMod, Int.reduceToNat, Int.reduceLT, Int.reduceLE, Int.reduceAdd, Int.reduceSub, Int.reduceMul, Int.reduceEq, Int.reduceNeg, reduceCtorEq, resV, resAll, ARes.ev, LV.flat, ite_true, ite_false, exists_eq_left', exists_eq_left, keyOf, implies_true, fillC, capOf]
    have : i = L.length := by omega
    subst this
    rw [List.take_length] at hcss
    rw [Nat.sub_self, List.replicate_zero, List.append_nil] at hout
    exact ⟨_, rfl, ⟨Nat.le_refl _, rs, _, hout, hrs, hcss, Nat.le_refl _⟩, hpre⟩
end Go.Ab

/- The abstract code of some functions (written by a program of mine from the translation, by way of prepF). -/
namespace Go.Ab.C
open Go.Ab
def impl_Heap_packings : AFn :=
  ⟨3, 25, [],
    .seq (.ops [(none, .box 3 (.t 0)),
       (none, .box 4 (.t 1)),
       (none, .box 5 (.t 2))])
    (.seq (.ops [(none, .loadN 9 4 (.t 3)),
        (none, .call (some 10) F.impl_Heap_box [(.t 9)]),
        (none, .buildSl 11 0 1 [] []),
        (none, .alloc 6 [(.I 0), (.I 0), (.I 0)]),
        (none, .alloc 7 [.nil]),
        (none, .store 3 (.t 6) (.t 10)),
        (none, .store 1 (.t 7) (.t 11))])
     (.seq (.seq (.ops [(none, .loadN 12 3 (.t 6)),
          (none, .call (some 13) F.impl_box_size [(.t 12)]),
          (none, .mv 14 (.c (.I 0)))])
       (.block 0 (.loop (.seq (.ops [(none, .bin 15 .lss (.t 14) (.t 13))])
          (.seq (.cond (.t 15) (.skip)
            (.exit 0))
           (.seq (.block 1 (.ops [(none, .load1 16 (.t 7)),
                (none, .buildSl 17 1 1 [(.I 0)] [(0, 1, (.c (.I (-1))))]),
                (none, .append 18 1 8 (.t 16) (.t 17)),
                (none, .store 1 (.t 7) (.t 18))]))
            (.ops [(none, .bin 19 .add (.t 14) (.c (.I 1))),
               (none, .mv 14 (.t 19))])))))))
      (.seq (.ops [(none, .alloc 8 [(.val .nilFunc)])])
       (.seq (.ops [(none, .mkf 20 F.impl_Heap_packings_1 [(.t 4), (.t 5), (.t 7), (.t 6), (.t 8)]),
           (none, .store 1 (.t 8) (.t 20))])
        (.draw [⟨(none, .load1 21 (.t 8)), [], []⟩,
           ⟨(none, .loadN 22 4 (.t 3)), [], []⟩,
           ⟨(none, .call (some 23) F.impl_Heap_free [(.t 22)]), [], [0]⟩,
           ⟨(none, .callV (some 24) (.t 21) [(.t 23), (.c (.I 0))]), [], []⟩])))))⟩
def impl_CountPackings : AFn :=
  ⟨2, 16, [.tmp 4, .tmp 5],
    .seq (.ops [(none, .box 2 (.t 0)),
       (none, .mv 4 (.c (.I 0))),
       (none, .mv 5 (.c (.B false)))])
    (.seq (.seq (.ops [(none, .loadN 7 4 (.t 2)),
         (none, .mv 8 (.t 1)),
         (none, .call (some 9) F.impl_arePacked [(.t 7), (.t 8)]),
         (none, .un 10 .not (.t 9))])
      (.cond (.t 10) (.seq (.ops [(none, .mv 4 (.c (.I 0))),
           (none, .mv 5 (.c (.B false)))])
        (.ret))
       (.skip)))
     (.seq (.ops [(none, .alloc 6 [(.I 0)]),
         (none, .store 1 (.t 6) (.c (.I 0)))])
      (.seq (.ops [(none, .loadN 11 4 (.t 2)),
          (none, .mv 12 (.t 1)),
          (none, .mkf 13 F.impl_CountPackings_1 [(.t 6)]),
          (none, .call (some 14) F.impl_Heap_packings [(.t 11), (.t 12), (.t 13)])])
       (.seq (.ops [(none, .load1 15 (.t 6)),
           (none, .mv 4 (.t 15)),
           (none, .mv 5 (.c (.B true)))])
        (.ret)))))⟩
def impl_CountPackings_1 : AFn :=
  ⟨2, 6, [.tmp 3],
    .seq (.ops [(none, .mv 3 (.c (.B false)))])
    (.seq (.ops [(none, .load1 4 (.t 1)),
        (none, .bin 5 .add (.t 4) (.c (.I 1))),
        (none, .store 1 (.t 1) (.t 5))])
     (.seq (.ops [(none, .mv 3 (.c (.B true)))])
      (.ret)))⟩
end Go.Ab.C

/- That the program has this code. -/
namespace Go.Ab.K
open Go Go.Ab
theorem impl_Heap_packings : prepF Go.Proofs.Try.prog F.impl_Heap_packings = some C.impl_Heap_packings := by kernel_rfl
theorem impl_CountPackings : prepF Go.Proofs.Try.prog F.impl_CountPackings = some C.impl_CountPackings := by kernel_rfl
theorem impl_CountPackings_1 : prepF Go.Proofs.Try.prog F.impl_CountPackings_1 = some C.impl_CountPackings_1 := by kernel_rfl
end Go.Ab.K

/- The abstract code of some functions (written by a program of mine from the translation, by way of prepF). -/
namespace Go.Ab.C
open Go.Ab
def impl_Heap_packings_1 : AFn :=
  ⟨7, 102, [.tmp 9],
    .seq (.ops [(none, .mv 9 (.c (.B false)))])
    (.seq (.seq (.ops [(none, .mv 17 (.t 0)),
         (none, .bin 18 .eql (.t 17) (.c (.U 0)))])
      (.cond (.t 18) (.seq (.ops [(none, .mv 19 (.t 1)),
           (none, .load1 20 (.t 2)),
           (none, .len 21 (.t 20)),
           (none, .bin 22 .shl (.c (.I 1)) (.t 21)),
           (none, .bin 23 .sub (.t 22) (.c (.I 1))),
           (none, .bin 24 .neq (.t 19) (.t 23)),
           (none, .mv 25 (.t 24)),
           (some (25, false), .load1 26 (.t 3)),
           (some (25, false), .load1 27 (.t 4)),
           (some (25, false), .callV (some 28) (.t 26) [(.t 27)]),
           (none, .pick 29 (.t 25) (.c (.B true)) (.t 28)),
           (none, .mv 9 (.t 29))])
        (.ret))
       (.skip)))
     (.seq (.ops [(none, .loadN 30 3 (.t 5)),
         (none, .mv 31 (.t 0)),
         (none, .mv 32 (.t 0)),
         (none, .un 33 .neg (.t 32)),
         (none, .bin 34 .and (.t 31) (.t 33)),
         (none, .call (some 35) F.impl_box_list [(.t 30), (.t 34)]),
         (none, .idxS 36 3 (.t 35) (.c (.I 0))),
         (none, .loadN 37 3 (.t 36)),
         (none, .alloc 10 [(.I 0), (.I 0), (.I 0)]),
         (none, .store 3 (.t 10) (.t 37))])
      (.seq (.seq (.ops [(none, .load1 38 (.t 2)),
           (none, .len 39 (.t 38)),
           (none, .mv 40 (.c (.I 0)))])
        (.block 0 (.loop (.seq (.ops [(none, .bin 41 .lss (.t 40) (.t 39))])
           (.seq (.cond (.t 41) (.skip)
             (.exit 0))
            (.seq (.block 1 (.seq (.ops [(none, .mv 42 (.t 40)),
                  (none, .idxS 43 1 (.t 38) (.t 40)),
                  (none, .load1 44 (.t 43)),
                  (none, .mv 11 (.t 42)),
                  (none, .mv 12 (.t 44))])
               (.seq (.seq (.ops [(none, .mv 45 (.t 1)),
                    (none, .mv 46 (.t 11)),
                    (none, .bin 47 .shr (.t 45) (.t 46)),
                    (none, .bin 48 .and (.t 47) (.c (.I 1))),
                    (none, .bin 49 .eql (.t 48) (.c (.I 1)))])
                 (.cond (.t 49) (.exit 1)
                  (.skip)))
                (.seq (.draw [⟨(none, .loadN 50 3 (.t 10)), [], []⟩,
                    ⟨(none, .mv 51 (.t 12)), [], []⟩,
                    ⟨(none, .idxS 52 3 (.t 51) (.c (.I 0))), [], []⟩,
                    ⟨(none, .idxA 53 3 1 (.t 52) (.c (.I 0))), [], []⟩,
                    ⟨(none, .load1 54 (.t 53)), [], []⟩,
                    ⟨(none, .un 55 .neg (.t 54)), [], []⟩,
                    ⟨(none, .mv 56 (.t 12)), [], []⟩,
                    ⟨(none, .idxS 57 3 (.t 56) (.c (.I 0))), [], []⟩,
                    ⟨(none, .idxA 58 3 1 (.t 57) (.c (.I 1))), [], []⟩,
                    ⟨(none, .load1 59 (.t 58)), [], []⟩,
                    ⟨(none, .un 60 .neg (.t 59)), [], []⟩,
                    ⟨(none, .mv 61 (.t 12)), [], []⟩,
                    ⟨(none, .idxS 62 3 (.t 61) (.c (.I 0))), [], []⟩,
                    ⟨(none, .idxA 63 3 1 (.t 62) (.c (.I 2))), [], []⟩,
                    ⟨(none, .load1 64 (.t 63)), [], []⟩,
                    ⟨(none, .un 65 .neg (.t 64)), [], []⟩,
                    ⟨(none, .build 66 [(.I 0), (.I 0), (.I 0)] [(0, 1, (.t 55)), (1, 1, (.t 60)), (2, 1, (.t 65))]), [], []⟩,
                    ⟨(none, .alloc 13 [(.I 0), (.I 0), (.I 0)]), [], []⟩,
                    ⟨(none, .call (some 67) F.impl_added [(.t 50), (.t 66)]), [17], []⟩,
                    ⟨(none, .store 3 (.t 13) (.t 67)), [], []⟩])
                 (.seq (.ops [(none, .loadN 69 3 (.t 5)),
                     (none, .mv 70 (.t 0)),
                     (none, .mv 71 (.t 12)),
                     (none, .loadN 72 3 (.t 13)),
                     (none, .call (some 73) F.impl_box_placed [(.t 69), (.t 70), (.t 71), (.t 72)]),
                     (none, .mv 68 (.t 73)),
                     (none, .extract 74 (.t 68) 0),
                     (none, .extract 75 (.t 68) 1),
                     (none, .mv 14 (.t 74)),
                     (none, .mv 15 (.t 75))])
                  (.seq (.seq (.ops [(none, .mv 76 (.t 15)),
                       (none, .un 77 .not (.t 76))])
                    (.cond (.t 77) (.exit 1)
                     (.skip)))
                   (.seq (.seq (.ops [(none, .load1 78 (.t 4)),
                        (none, .len 79 (.t 78)),
                        (none, .mv 80 (.c (.I 0)))])
                     (.block 2 (.loop (.seq (.ops [(none, .bin 81 .lss (.t 80) (.t 79))])
                        (.seq (.cond (.t 81) (.skip)
                          (.exit 2))
                         (.seq (.block 3 (.seq (.ops [(none, .mv 82 (.t 80)),
                               (none, .mv 16 (.t 82))])
                            (.seq (.ops [(none, .mv 83 (.t 14)),
                                (none, .mv 84 (.t 16)),
                                (none, .call (some 85) F.impl_set_has [(.t 83), (.t 84)])])
                             (.cond (.t 85) (.ops [(none, .load1 86 (.t 4)),
                                 (none, .mv 87 (.t 16)),
                                 (none, .mv 88 (.t 11)),
                                 (none, .idxS 89 1 (.t 86) (.t 87)),
                                 (none, .store 1 (.t 89) (.t 88))])
                              (.skip)))))
                          (.ops [(none, .bin 90 .add (.t 80) (.c (.I 1))),
                             (none, .mv 80 (.t 90))])))))))
                    (.seq (.draw [⟨(none, .load1 91 (.t 6)), [], []⟩,
                        ⟨(none, .mv 92 (.t 0)), [], []⟩,
                        ⟨(none, .mv 93 (.t 14)), [], []⟩,
                        ⟨(none, .bin 94 .andNot (.t 92) (.t 93)), [], []⟩,
                        ⟨(none, .mv 95 (.t 1)), [], []⟩,
                        ⟨(none, .mv 96 (.t 11)), [], []⟩,
                        ⟨(none, .bin 97 .shl (.c (.I 1)) (.t 96)), [], []⟩,
                        ⟨(none, .bin 98 .or (.t 95) (.t 97)), [], []⟩,
                        ⟨(none, .callV (some 99) (.t 91) [(.t 94), (.t 98)]), [], []⟩,
                        ⟨(none, .un 100 .not (.t 99)), [], []⟩])
                     (.cond (.t 100) (.seq (.ops [(none, .mv 9 (.c (.B false)))])
                       (.ret))
                      (.skip))))))))))
             (.ops [(none, .bin 101 .add (.t 40) (.c (.I 1))),
                (none, .mv 40 (.t 101))])))))))
       (.seq (.ops [(none, .mv 9 (.c (.B true)))])
        (.ret)))))⟩
end Go.Ab.C

/- That the program has this code. -/
namespace Go.Ab.K
open Go Go.Ab
theorem impl_Heap_packings_1 : prepF Go.Proofs.Try.prog F.impl_Heap_packings_1 = some C.impl_Heap_packings_1 := by kernel_rfl
end Go.Ab.K

/- The abstract code of some functions (written by a program of mine from the translation, by way of prepF). -/
namespace Go.Ab.C
open Go.Ab
def spec_l9Find : AFn :=
  ⟨3, 32, [.cellN 6 2],
    .seq (.ops [(none, .box 3 (.t 0)),
       (none, .alloc 6 [.nil, (.I 0)])])
    (.seq (.seq (.draw [⟨(none, .mv 7 (.t 1)), [], []⟩,
         ⟨(none, .fieldAddr 9 (.t 3) 3), [], []⟩,
         ⟨(none, .load1 10 (.t 9)), [], []⟩,
         ⟨(none, .len 11 (.t 10)), [], []⟩,
         ⟨(none, .fieldAddr 13 (.t 3) 0), [], []⟩,
         ⟨(none, .load1 14 (.t 13)), [], []⟩,
         ⟨(none, .fieldAddr 15 (.t 3) 1), [], []⟩,
         ⟨(none, .load1 16 (.t 15)), [], []⟩,
         ⟨(none, .bin 17 .mul (.t 14) (.t 16)), [], []⟩,
         ⟨(none, .fieldAddr 18 (.t 3) 2), [], []⟩,
         ⟨(none, .load1 19 (.t 18)), [], []⟩,
         ⟨(none, .bin 20 .mul (.t 17) (.t 19)), [], []⟩,
         ⟨(none, .call (some 8) F.spec_l9Cells [(.t 7)]), [], [1, 2, 3, 4, 5, 6, 7, 8, 9, 10, 11]⟩,
         ⟨(none, .bin 12 .add (.t 8) (.t 11)), [], []⟩,
         ⟨(none, .bin 21 .neq (.t 12) (.t 20)), [], []⟩])
      (.cond (.t 21) (.seq (.ops [(none, .buildSl 22 0 1 [] []),
           (none, .build 23 [.nil, (.I 0)] [(0, 1, (.t 22))]),
           (none, .store 2 (.t 6) (.t 23))])
        (.ret))
       (.skip)))
     (.seq (.draw [⟨(none, .loadN 24 4 (.t 3)), [], []⟩,
         ⟨(none, .mv 25 (.t 1)), [], []⟩,
         ⟨(none, .loadN 26 4 (.t 3)), [], []⟩,
         ⟨(none, .mv 28 (.t 2)), [], []⟩,
         ⟨(none, .buildSl 29 0 1 [] []), [], []⟩,
         ⟨(none, .build 30 [.nil, (.I 0)] [(0, 1, (.t 29))]), [], []⟩,
         ⟨(none, .call (some 27) F.spec_l9Start [(.t 26)]), [4], [0, 1, 3, 5]⟩,
         ⟨(none, .call (some 31) F.spec_l9Search [(.t 24), (.t 25), (.t 27), (.t 28), (.t 30)]), [], []⟩,
         ⟨(none, .store 2 (.t 6) (.t 31)), [], []⟩])
      (.ret)))⟩
def spec_CountPackings : AFn :=
  ⟨2, 14, [.tmp 4, .tmp 5],
    .seq (.ops [(none, .box 2 (.t 0)),
       (none, .mv 4 (.c (.I 0))),
       (none, .mv 5 (.c (.B false)))])
    (.seq (.seq (.ops [(none, .loadN 6 4 (.t 2)),
         (none, .mv 7 (.t 1)),
         (none, .call (some 8) F.spec_l9Ask [(.t 6), (.t 7)]),
         (none, .un 9 .not (.t 8))])
      (.cond (.t 9) (.seq (.ops [(none, .mv 4 (.c (.I 0))),
           (none, .mv 5 (.c (.B false)))])
        (.ret))
       (.skip)))
     (.seq (.ops [(none, .loadN 10 4 (.t 2)),
         (none, .mv 11 (.t 1)),
         (none, .call (some 12) F.spec_l9Find [(.t 10), (.t 11), (.c (.B false))]),
         (none, .field 13 (.t 12) 1 none),
         (none, .mv 4 (.t 13)),
         (none, .mv 5 (.c (.B true)))])
      (.ret)))⟩
end Go.Ab.C

/- That the program has this code. -/
namespace Go.Ab.K
open Go Go.Ab
theorem spec_l9Find : prepF Go.Proofs.Try.prog F.spec_l9Find = some C.spec_l9Find := by kernel_rfl
theorem spec_CountPackings : prepF Go.Proofs.Try.prog F.spec_CountPackings = some C.spec_CountPackings := by kernel_rfl
end Go.Ab.K

/- The abstract code of some functions (written by a program of mine from the translation, by way of prepF). -/
namespace Go.Ab.C
open Go.Ab
def spec_l9Search : AFn :=
  ⟨5, 120, [.cellN 10 2],
    .seq (.ops [(none, .box 5 (.t 0)),
       (none, .box 9 (.t 4)),
       (none, .alloc 10 [.nil, (.I 0)])])
    (.seq (.ops [(none, .mv 11 (.c (.I 0)))])
     (.seq (.block 0 (.loop (.seq (.seq (.ops [(none, .mv 18 (.t 11)),
             (none, .mv 19 (.t 2)),
             (none, .len 20 (.t 19)),
             (none, .bin 21 .lss (.t 18) (.t 20)),
             (none, .mv 22 (.t 21)),
             (some (22, true), .mv 23 (.t 2)),
             (some (22, true), .mv 24 (.t 11)),
             (some (22, true), .idxS 25 1 (.t 23) (.t 24)),
             (some (22, true), .load1 26 (.t 25)),
             (some (22, true), .bin 27 .neq (.t 26) (.c (.I (-2)))),
             (none, .pick 28 (.t 22) (.t 27) (.c (.B false)))])
          (.cond (.t 28) (.skip)
           (.exit 0)))
         (.block 1 (.ops [(none, .mv 29 (.t 11)),
             (none, .bin 30 .add (.t 29) (.c (.I 1))),
             (none, .mv 11 (.t 30))])))))
      (.seq (.seq (.ops [(none, .mv 31 (.t 11)),
           (none, .mv 32 (.t 2)),
           (none, .len 33 (.t 32)),
           (none, .bin 34 .eql (.t 31) (.t 33))])
        (.cond (.t 34) (.seq (.seq (.ops [(none, .mv 12 (.c (.I 0)))])
           (.block 2 (.loop (.seq (.seq (.ops [(none, .mv 35 (.t 12)),
                  (none, .mv 36 (.t 1)),
                  (none, .len 37 (.t 36)),
                  (none, .bin 38 .lss (.t 35) (.t 37))])
               (.cond (.t 38) (.skip)
                (.exit 2)))
              (.seq (.block 3 (.seq (.ops [(none, .mv 41 (.t 2)),
                    (none, .mv 42 (.t 12)),
                    (none, .call (some 43) F.spec_l1Has [(.t 41), (.t 42)]),
                    (none, .un 44 .not (.t 43))])
                 (.cond (.t 44) (.seq (.ops [(none, .loadN 45 2 (.t 9)),
                      (none, .store 2 (.t 10) (.t 45))])
                   (.ret))
                  (.skip))))
               (.ops [(none, .mv 39 (.t 12)),
                  (none, .bin 40 .add (.t 39) (.c (.I 1))),
                  (none, .mv 12 (.t 40))]))))))
          (.seq (.seq (.ops [(none, .fieldAddr 46 (.t 9) 1),
               (none, .load1 47 (.t 46)),
               (none, .bin 48 .eql (.t 47) (.c (.I 0)))])
            (.cond (.t 48) (.ops [(none, .mv 49 (.t 2)),
                (none, .fieldAddr 50 (.t 9) 0),
                (none, .store 1 (.t 50) (.t 49))])
             (.skip)))
           (.seq (.ops [(none, .fieldAddr 51 (.t 9) 1),
               (none, .load1 52 (.t 51)),
               (none, .bin 53 .add (.t 52) (.c (.I 1))),
               (none, .fieldAddr 54 (.t 9) 1),
               (none, .store 1 (.t 54) (.t 53))])
            (.seq (.ops [(none, .loadN 55 2 (.t 9)),
                (none, .store 2 (.t 10) (.t 55))])
             (.ret)))))
         (.skip)))
       (.seq (.ops [(none, .loadN 56 4 (.t 5)),
           (none, .call (some 57) F.spec_l2All [(.t 56)]),
           (none, .mv 58 (.t 11)),
           (none, .idxS 59 3 (.t 57) (.t 58)),
           (none, .loadN 60 3 (.t 59)),
           (none, .alloc 13 [(.I 0), (.I 0), (.I 0)]),
           (none, .store 3 (.t 13) (.t 60))])
        (.seq (.seq (.ops [(none, .mv 14 (.c (.I 0)))])
          (.block 4 (.loop (.seq (.seq (.ops [(none, .mv 61 (.t 14)),
                 (none, .mv 62 (.t 1)),
                 (none, .len 63 (.t 62)),
                 (none, .bin 64 .lss (.t 61) (.t 63)),
                 (none, .mv 65 (.t 64)),
                 (some (65, true), .mv 66 (.t 3)),
                 (some (65, true), .mv 67 (.t 66)),
                 (some (67, true), .fieldAddr 68 (.t 9) 1),
                 (some (67, true), .load1 69 (.t 68)),
                 (some (67, true), .bin 70 .gtr (.t 69) (.c (.I 0))),
                 (some (65, true), .pick 71 (.t 67) (.t 70) (.c (.B false))),
                 (some (65, true), .un 72 .not (.t 71)),
                 (none, .pick 73 (.t 65) (.t 72) (.c (.B false)))])
              (.cond (.t 73) (.skip)
               (.exit 4)))
             (.seq (.block 5 (.seq (.seq (.ops [(none, .mv 76 (.t 2)),
                    (none, .mv 77 (.t 14)),
                    (none, .call (some 78) F.spec_l1Has [(.t 76), (.t 77)])])
                 (.cond (.t 78) (.exit 5)
                  (.skip)))
                (.seq (.ops [(none, .mv 79 (.t 1)),
                    (none, .mv 80 (.t 14)),
                    (none, .idxS 81 1 (.t 79) (.t 80)),
                    (none, .load1 82 (.t 81)),
                    (none, .idxS 83 3 (.t 82) (.c (.I 0))),
                    (none, .loadN 84 3 (.t 83)),
                    (none, .alloc 15 [(.I 0), (.I 0), (.I 0)]),
                    (none, .store 3 (.t 15) (.t 84))])
                 (.seq (.draw [⟨(none, .loadN 86 4 (.t 5)), [], []⟩,
                     ⟨(none, .mv 87 (.t 1)), [], []⟩,
                     ⟨(none, .mv 88 (.t 14)), [], []⟩,
                     ⟨(none, .idxS 89 1 (.t 87) (.t 88)), [], []⟩,
                     ⟨(none, .load1 90 (.t 89)), [], []⟩,
                     ⟨(none, .idxA 91 3 1 (.t 13) (.c (.I 0))), [], []⟩,
                     ⟨(none, .load1 92 (.t 91)), [], []⟩,
                     ⟨(none, .idxA 93 3 1 (.t 15) (.c (.I 0))), [], []⟩,
                     ⟨(none, .load1 94 (.t 93)), [], []⟩,
                     ⟨(none, .bin 95 .sub (.t 92) (.t 94)), [], []⟩,
                     ⟨(none, .idxA 96 3 1 (.t 13) (.c (.I 1))), [], []⟩,
                     ⟨(none, .load1 97 (.t 96)), [], []⟩,
                     ⟨(none, .idxA 98 3 1 (.t 15) (.c (.I 1))), [], []⟩,
                     ⟨(none, .load1 99 (.t 98)), [], []⟩,
                     ⟨(none, .bin 100 .sub (.t 97) (.t 99)), [], []⟩,
                     ⟨(none, .idxA 101 3 1 (.t 13) (.c (.I 2))), [], []⟩,
                     ⟨(none, .load1 102 (.t 101)), [], []⟩,
                     ⟨(none, .idxA 103 3 1 (.t 15) (.c (.I 2))), [], []⟩,
                     ⟨(none, .load1 104 (.t 103)), [], []⟩,
                     ⟨(none, .bin 105 .sub (.t 102) (.t 104)), [], []⟩,
                     ⟨(none, .build 106 [(.I 0), (.I 0), (.I 0)] [(0, 1, (.t 95)), (1, 1, (.t 100)), (2, 1, (.t 105))]), [], []⟩,
                     ⟨(none, .mv 107 (.t 2)), [], []⟩,
                     ⟨(none, .mv 108 (.t 14)), [], []⟩,
                     ⟨(none, .call (some 109) F.spec_l9Put [(.t 86), (.t 90), (.t 106), (.t 107), (.t 108)]), [], []⟩,
                     ⟨(none, .mv 85 (.t 109)), [], []⟩,
                     ⟨(none, .extract 110 (.t 85) 0), [], []⟩,
                     ⟨(none, .extract 111 (.t 85) 1), [], []⟩,
                     ⟨(none, .mv 16 (.t 110)), [], []⟩,
                     ⟨(none, .mv 17 (.t 111)), [], []⟩])
                  (.seq (.ops [(none, .mv 112 (.t 17))])
                   (.cond (.t 112) (.ops [(none, .loadN 113 4 (.t 5)),
                       (none, .mv 114 (.t 1)),
                       (none, .mv 115 (.t 16)),
                       (none, .mv 116 (.t 3)),
                       (none, .loadN 117 2 (.t 9)),
                       (none, .call (some 118) F.spec_l9Search [(.t 113), (.t 114), (.t 115), (.t 116), (.t 117)]),
                       (none, .store 2 (.t 9) (.t 118))])
                    (.skip)))))))
              (.ops [(none, .mv 74 (.t 14)),
                 (none, .bin 75 .add (.t 74) (.c (.I 1))),
                 (none, .mv 14 (.t 75))]))))))
         (.seq (.ops [(none, .loadN 119 2 (.t 9)),
             (none, .store 2 (.t 10) (.t 119))])
          (.ret)))))))⟩
end Go.Ab.C

/- That the program has this code. -/
namespace Go.Ab.K
open Go Go.Ab
theorem spec_l9Search : prepF Go.Proofs.Try.prog F.spec_l9Search = some C.spec_l9Search := by kernel_rfl
end Go.Ab.K

/- The abstract code of some functions (written by a program of mine from the translation, by way of prepF). -/
namespace Go.Ab.C
open Go.Ab
def spec_l9Put : AFn :=
  ⟨5, 53, [.tmp 10, .tmp 11],
    .seq (.ops [(none, .box 5 (.t 0)),
       (none, .box 7 (.t 2)),
       (none, .mv 10 (.c .nil)),
       (none, .mv 11 (.c (.B false)))])
    (.seq (.seq (.ops [(none, .loadN 15 4 (.t 5)),
         (none, .mv 16 (.t 1)),
         (none, .loadN 17 3 (.t 7)),
         (none, .call (some 18) F.spec_l9Fits [(.t 15), (.t 16), (.t 17)]),
         (none, .un 19 .not (.t 18))])
      (.cond (.t 19) (.seq (.ops [(none, .buildSl 20 0 1 [] []),
           (none, .mv 10 (.t 20)),
           (none, .mv 11 (.c (.B false)))])
        (.ret))
       (.skip)))
     (.seq (.draw [⟨(none, .mv 21 (.t 3)), [], []⟩,
         ⟨(none, .mv 23 (.t 1)), [], []⟩,
         ⟨(none, .loadN 24 3 (.t 7)), [], []⟩,
         ⟨(none, .call (some 22) F.spec_l1Own [(.t 21)]), [], [1, 2]⟩,
         ⟨(none, .call (some 25) F.spec_l9Moved [(.t 23), (.t 24)]), [], []⟩,
         ⟨(none, .mv 12 (.t 22)), [], []⟩,
         ⟨(none, .mv 13 (.t 25)), [], []⟩])
      (.seq (.seq (.ops [(none, .mv 14 (.c (.I 0)))])
        (.block 0 (.loop (.seq (.seq (.ops [(none, .mv 26 (.t 14)),
               (none, .mv 27 (.t 13)),
               (none, .len 28 (.t 27)),
               (none, .bin 29 .lss (.t 26) (.t 28))])
            (.cond (.t 29) (.skip)
             (.exit 0)))
           (.seq (.block 1 (.seq (.seq (.draw [⟨(none, .mv 32 (.t 12)), [], []⟩,
                  ⟨(none, .loadN 33 4 (.t 5)), [], []⟩,
                  ⟨(none, .mv 34 (.t 13)), [], []⟩,
                  ⟨(none, .mv 35 (.t 14)), [], []⟩,
                  ⟨(none, .idxS 36 3 (.t 34) (.t 35)), [], []⟩,
                  ⟨(none, .loadN 37 3 (.t 36)), [], []⟩,
                  ⟨(none, .call (some 38) F.spec_l9Place [(.t 33), (.t 37)]), [], [0]⟩,
                  ⟨(none, .idxS 39 1 (.t 32) (.t 38)), [], []⟩,
                  ⟨(none, .load1 40 (.t 39)), [], []⟩,
                  ⟨(none, .bin 41 .neq (.t 40) (.c (.I (-2)))), [], []⟩])
               (.cond (.t 41) (.seq (.ops [(none, .buildSl 42 0 1 [] []),
                    (none, .mv 10 (.t 42)),
                    (none, .mv 11 (.c (.B false)))])
                 (.ret))
                (.skip)))
              (.draw [⟨(none, .mv 43 (.t 12)), [], []⟩,
                 ⟨(none, .loadN 44 4 (.t 5)), [], []⟩,
                 ⟨(none, .mv 45 (.t 13)), [], []⟩,
                 ⟨(none, .mv 46 (.t 14)), [], []⟩,
                 ⟨(none, .idxS 47 3 (.t 45) (.t 46)), [], []⟩,
                 ⟨(none, .loadN 48 3 (.t 47)), [], []⟩,
                 ⟨(none, .mv 50 (.t 4)), [], []⟩,
                 ⟨(none, .call (some 49) F.spec_l9Place [(.t 44), (.t 48)]), [], [0, 6]⟩,
                 ⟨(none, .idxS 51 1 (.t 43) (.t 49)), [], []⟩,
                 ⟨(none, .store 1 (.t 51) (.t 50)), [], []⟩])))
            (.ops [(none, .mv 30 (.t 14)),
               (none, .bin 31 .add (.t 30) (.c (.I 1))),
               (none, .mv 14 (.t 31))]))))))
       (.seq (.ops [(none, .mv 52 (.t 12)),
           (none, .mv 10 (.t 52)),
           (none, .mv 11 (.c (.B true)))])
        (.ret)))))⟩
end Go.Ab.C

/- That the program has this code. -/
namespace Go.Ab.K
open Go Go.Ab
theorem spec_l9Put : prepF Go.Proofs.Try.prog F.spec_l9Put = some C.spec_l9Put := by kernel_rfl
end Go.Ab.K

/- The abstract code of some functions (written by a program of mine from the translation, by way of prepF). -/
namespace Go.Ab.C
open Go.Ab
def spec_l9Moved : AFn :=
  ⟨2, 43, [.tmp 4],
    .seq (.ops [(none, .box 3 (.t 1)),
       (none, .mv 4 (.c .nil))])
    (.seq (.ops [(none, .buildSl 7 0 3 [] []),
        (none, .mv 5 (.t 7))])
     (.seq (.seq (.ops [(none, .mv 6 (.c (.I 0)))])
       (.block 0 (.loop (.seq (.seq (.ops [(none, .mv 8 (.t 6)),
              (none, .mv 9 (.t 0)),
              (none, .len 10 (.t 9)),
              (none, .bin 11 .lss (.t 8) (.t 10))])
           (.cond (.t 11) (.skip)
            (.exit 0)))
          (.seq (.block 1 (.draw [⟨(none, .mv 14 (.t 5)), [], []⟩,
               ⟨(none, .mv 15 (.t 0)), [], []⟩,
               ⟨(none, .mv 16 (.t 6)), [], []⟩,
               ⟨(none, .idxS 17 3 (.t 15) (.t 16)), [], []⟩,
               ⟨(none, .idxA 18 3 1 (.t 17) (.c (.I 0))), [], []⟩,
               ⟨(none, .load1 19 (.t 18)), [], []⟩,
               ⟨(none, .idxA 20 3 1 (.t 3) (.c (.I 0))), [], []⟩,
               ⟨(none, .load1 21 (.t 20)), [], []⟩,
               ⟨(none, .bin 22 .add (.t 19) (.t 21)), [], []⟩,
               ⟨(none, .mv 23 (.t 0)), [], []⟩,
               ⟨(none, .mv 24 (.t 6)), [], []⟩,
               ⟨(none, .idxS 25 3 (.t 23) (.t 24)), [], []⟩,
               ⟨(none, .idxA 26 3 1 (.t 25) (.c (.I 1))), [], []⟩,
               ⟨(none, .load1 27 (.t 26)), [], []⟩,
               ⟨(none, .idxA 28 3 1 (.t 3) (.c (.I 1))), [], []⟩,
               ⟨(none, .load1 29 (.t 28)), [], []⟩,
               ⟨(none, .bin 30 .add (.t 27) (.t 29)), [], []⟩,
               ⟨(none, .mv 31 (.t 0)), [], []⟩,
               ⟨(none, .mv 32 (.t 6)), [], []⟩,
               ⟨(none, .idxS 33 3 (.t 31) (.t 32)), [], []⟩,
               ⟨(none, .idxA 34 3 1 (.t 33) (.c (.I 2))), [], []⟩,
               ⟨(none, .load1 35 (.t 34)), [], []⟩,
               ⟨(none, .idxA 36 3 1 (.t 3) (.c (.I 2))), [], []⟩,
               ⟨(none, .load1 37 (.t 36)), [], []⟩,
               ⟨(none, .bin 38 .add (.t 35) (.t 37)), [], []⟩,
               ⟨(none, .build 39 [(.I 0), (.I 0), (.I 0)] [(0, 1, (.t 22)), (1, 1, (.t 30)), (2, 1, (.t 38))]), [], []⟩,
               ⟨(none, .buildSl 40 1 3 [(.I 0), (.I 0), (.I 0)] [(0, 3, (.t 39))]), [], []⟩,
               ⟨(none, .append 41 3 24 (.t 14) (.t 40)), [], []⟩,
               ⟨(none, .mv 5 (.t 41)), [], []⟩]))
           (.ops [(none, .mv 12 (.t 6)),
              (none, .bin 13 .add (.t 12) (.c (.I 1))),
              (none, .mv 6 (.t 13))]))))))
      (.seq (.ops [(none, .mv 42 (.t 5)),
          (none, .mv 4 (.t 42))])
       (.ret))))⟩
def spec_l9Place : AFn :=
  ⟨2, 19, [.tmp 4],
    .seq (.ops [(none, .box 2 (.t 0)),
       (none, .box 3 (.t 1)),
       (none, .mv 4 (.c (.I 0)))])
    (.seq (.ops [(none, .idxA 5 3 1 (.t 3) (.c (.I 0))),
        (none, .load1 6 (.t 5)),
        (none, .fieldAddr 7 (.t 2) 1),
        (none, .load1 8 (.t 7)),
        (none, .bin 9 .mul (.t 6) (.t 8)),
        (none, .idxA 10 3 1 (.t 3) (.c (.I 1))),
        (none, .load1 11 (.t 10)),
        (none, .bin 12 .add (.t 9) (.t 11)),
        (none, .fieldAddr 13 (.t 2) 2),
        (none, .load1 14 (.t 13)),
        (none, .bin 15 .mul (.t 12) (.t 14)),
        (none, .idxA 16 3 1 (.t 3) (.c (.I 2))),
        (none, .load1 17 (.t 16)),
        (none, .bin 18 .add (.t 15) (.t 17)),
        (none, .mv 4 (.t 18))])
     (.ret))⟩
def spec_l1Has : AFn :=
  ⟨2, 18, [.tmp 4],
    .seq (.ops [(none, .mv 4 (.c (.B false)))])
    (.seq (.seq (.ops [(none, .mv 5 (.c (.I 0)))])
      (.block 0 (.loop (.seq (.seq (.ops [(none, .mv 6 (.t 5)),
             (none, .mv 7 (.t 0)),
             (none, .len 8 (.t 7)),
             (none, .bin 9 .lss (.t 6) (.t 8))])
          (.cond (.t 9) (.skip)
           (.exit 0)))
         (.seq (.block 1 (.seq (.ops [(none, .mv 12 (.t 0)),
               (none, .mv 13 (.t 5)),
               (none, .idxS 14 1 (.t 12) (.t 13)),
               (none, .load1 15 (.t 14)),
               (none, .mv 16 (.t 1)),
               (none, .bin 17 .eql (.t 15) (.t 16))])
            (.cond (.t 17) (.seq (.ops [(none, .mv 4 (.c (.B true)))])
              (.ret))
             (.skip))))
          (.ops [(none, .mv 10 (.t 5)),
             (none, .bin 11 .add (.t 10) (.c (.I 1))),
             (none, .mv 5 (.t 11))]))))))
     (.seq (.ops [(none, .mv 4 (.c (.B false)))])
      (.ret)))⟩
def spec_l9Fits : AFn :=
  ⟨3, 43, [.tmp 6],
    .seq (.ops [(none, .box 3 (.t 0)),
       (none, .box 5 (.t 2)),
       (none, .mv 6 (.c (.B false)))])
    (.seq (.seq (.ops [(none, .mv 7 (.c (.I 0)))])
      (.block 0 (.loop (.seq (.seq (.ops [(none, .mv 10 (.t 7)),
             (none, .bin 11 .lss (.t 10) (.c (.I 3)))])
          (.cond (.t 11) (.skip)
           (.exit 0)))
         (.seq (.block 1 (.seq (.ops [(none, .mv 14 (.t 7)),
               (none, .idxA 15 3 1 (.t 5) (.t 14)),
               (none, .load1 16 (.t 15)),
               (none, .call (some 17) F.spec_l1In [(.t 16), (.c (.I 0)), (.c (.I 3))]),
               (none, .un 18 .not (.t 17))])
            (.cond (.t 18) (.seq (.ops [(none, .mv 6 (.c (.B false)))])
              (.ret))
             (.skip))))
          (.ops [(none, .mv 12 (.t 7)),
             (none, .bin 13 .add (.t 12) (.c (.I 1))),
             (none, .mv 7 (.t 13))]))))))
     (.seq (.ops [(none, .mv 19 (.t 1)),
         (none, .loadN 20 3 (.t 5)),
         (none, .call (some 21) F.spec_l9Moved [(.t 19), (.t 20)]),
         (none, .mv 8 (.t 21))])
      (.seq (.seq (.ops [(none, .mv 9 (.c (.I 0)))])
        (.block 2 (.loop (.seq (.seq (.ops [(none, .mv 22 (.t 9)),
               (none, .mv 23 (.t 8)),
               (none, .len 24 (.t 23)),
               (none, .bin 25 .lss (.t 22) (.t 24))])
            (.cond (.t 25) (.skip)
             (.exit 2)))
           (.seq (.block 3 (.seq (.draw [⟨(none, .loadN 28 4 (.t 3)), [], []⟩,
                 ⟨(none, .mv 29 (.t 8)), [], []⟩,
                 ⟨(none, .mv 30 (.t 9)), [], []⟩,
                 ⟨(none, .idxS 31 3 (.t 29) (.t 30)), [], []⟩,
                 ⟨(none, .loadN 32 3 (.t 31)), [], []⟩,
                 ⟨(none, .call (some 33) F.spec_l2In [(.t 28), (.t 32)]), [], []⟩,
                 ⟨(none, .un 34 .not (.t 33)), [], []⟩,
                 ⟨(none, .mv 35 (.t 34)), [], []⟩,
                 ⟨(some (35, false), .loadN 36 4 (.t 3)), [], []⟩,
                 ⟨(some (35, false), .mv 37 (.t 8)), [], []⟩,
                 ⟨(some (35, false), .mv 38 (.t 9)), [], []⟩,
                 ⟨(some (35, false), .idxS 39 3 (.t 37) (.t 38)), [], []⟩,
                 ⟨(some (35, false), .loadN 40 3 (.t 39)), [], []⟩,
                 ⟨(some (35, false), .call (some 41) F.spec_l2Has [(.t 36), (.t 40)]), [], []⟩,
                 ⟨(none, .pick 42 (.t 35) (.c (.B true)) (.t 41)), [], []⟩])
              (.cond (.t 42) (.seq (.ops [(none, .mv 6 (.c (.B false)))])
                (.ret))
               (.skip))))
            (.ops [(none, .mv 26 (.t 9)),
               (none, .bin 27 .add (.t 26) (.c (.I 1))),
               (none, .mv 9 (.t 27))]))))))
       (.seq (.ops [(none, .mv 6 (.c (.B true)))])
        (.ret)))))⟩
def spec_l9Start : AFn :=
  ⟨1, 28, [.tmp 2],
    .seq (.ops [(none, .box 1 (.t 0)),
       (none, .mv 2 (.c .nil))])
    (.seq (.ops [(none, .buildSl 6 0 1 [] []),
        (none, .mv 3 (.t 6))])
     (.seq (.ops [(none, .loadN 7 4 (.t 1)),
         (none, .call (some 8) F.spec_l2All [(.t 7)]),
         (none, .mv 4 (.t 8))])
      (.seq (.seq (.ops [(none, .mv 5 (.c (.I 0)))])
        (.block 0 (.loop (.seq (.seq (.ops [(none, .mv 9 (.t 5)),
               (none, .mv 10 (.t 4)),
               (none, .len 11 (.t 10)),
               (none, .bin 12 .lss (.t 9) (.t 11))])
            (.cond (.t 12) (.skip)
             (.exit 0)))
           (.seq (.block 1 (.seq (.draw [⟨(none, .loadN 15 4 (.t 1)), [], []⟩,
                 ⟨(none, .mv 16 (.t 4)), [], []⟩,
                 ⟨(none, .mv 17 (.t 5)), [], []⟩,
                 ⟨(none, .idxS 18 3 (.t 16) (.t 17)), [], []⟩,
                 ⟨(none, .loadN 19 3 (.t 18)), [], []⟩,
                 ⟨(none, .call (some 20) F.spec_l2Has [(.t 15), (.t 19)]), [], []⟩])
              (.cond (.t 20) (.ops [(none, .mv 21 (.t 3)),
                  (none, .buildSl 22 1 1 [(.I 0)] [(0, 1, (.c (.I (-1))))]),
                  (none, .append 23 1 8 (.t 21) (.t 22)),
                  (none, .mv 3 (.t 23))])
               (.ops [(none, .mv 24 (.t 3)),
                  (none, .buildSl 25 1 1 [(.I 0)] [(0, 1, (.c (.I (-2))))]),
                  (none, .append 26 1 8 (.t 24) (.t 25)),
                  (none, .mv 3 (.t 26))]))))
            (.ops [(none, .mv 13 (.t 5)),
               (none, .bin 14 .add (.t 13) (.c (.I 1))),
               (none, .mv 5 (.t 14))]))))))
       (.seq (.ops [(none, .mv 27 (.t 3)),
           (none, .mv 2 (.t 27))])
        (.ret)))))⟩
end Go.Ab.C

/- That the program has this code. -/
namespace Go.Ab.K
open Go Go.Ab
theorem spec_l9Moved : prepF Go.Proofs.Try.prog F.spec_l9Moved = some C.spec_l9Moved := by kernel_rfl
theorem spec_l9Place : prepF Go.Proofs.Try.prog F.spec_l9Place = some C.spec_l9Place := by kernel_rfl
theorem spec_l1Has : prepF Go.Proofs.Try.prog F.spec_l1Has = some C.spec_l1Has := by kernel_rfl
theorem spec_l9Fits : prepF Go.Proofs.Try.prog F.spec_l9Fits = some C.spec_l9Fits := by kernel_rfl
theorem spec_l9Start : prepF Go.Proofs.Try.prog F.spec_l9Start = some C.spec_l9Start := by kernel_rfl
end Go.Ab.K

/- The abstract code of some functions (written by a program of mine from the translation, by way of prepF). -/
namespace Go.Ab.C
open Go.Ab
end Go.Ab.C

/- That the program has this code. -/
namespace Go.Ab.K
open Go Go.Ab
end Go.Ab.K

/- The abstract code of some functions (written by a program of mine from the translation, by way of prepF). -/
namespace Go.Ab.C
open Go.Ab
end Go.Ab.C

/- That the program has this code. -/
namespace Go.Ab.K
open Go Go.Ab
end Go.Ab.K

/- The abstract code of some functions (written by a program of mine from the translation, by way of prepF). -/
namespace Go.Ab.C
open Go.Ab
end Go.Ab.C

/- That the program has this code. -/
namespace Go.Ab.K
open Go Go.Ab
end Go.Ab.K

/- Contracts: the laws' helpers on lists of pairs of numbers. -/
namespace Go.Ab
open Go
set_option linter.unusedSimpArgs false
set_option linter.unusedVariables false
set_option maxRecDepth 20000

/-- A list of n pairs, number by number, that is one's own. -/
def SlF (N : Mem) (v : LV) (n : Nat) (Z : List Int) : Prop := Z.length = n * 2 ∧ ((v = .nil ∧ n = 0) ∨ ∃ t, v = .ref t 0 n ∧ Live N t (.row (intL Z) true 2))
theorem SlF.pre {M N : Mem} {v : LV} {n : Nat} {Z : List Int} (h : SlF M v n Z) (hp : Pre M N) : SlF N v n Z := by
  obtain ⟨h0, h | ⟨t, h1, h2⟩⟩ := h
  · exact ⟨h0, .inl h⟩
  · exact ⟨h0, .inr ⟨t, h1, h2.pre hp⟩⟩
theorem SlF.lenV {N : Mem} {v : LV} {n : Nat} {Z : List Int} (h : SlF N v n Z) : lenV v = some (n : Int) := by
  obtain ⟨h0, ⟨rfl, rfl⟩ | ⟨t, rfl, h2⟩⟩ := h <;> rfl
theorem SlF.older {M : Mem} {v : LV} {n : Nat} {Z : List Int} (h : SlF M v n Z) : Older M v := fun t o m e => by
  obtain ⟨h0, ⟨rfl, rfl⟩ | ⟨t', rfl, h2⟩⟩ := h
  · cases e
  · cases e; exact h2.lt
theorem SlF.at {M N : Mem} {w : LV} {n : Nat} {Z : List Int} (h : SlF M w n Z) (hk : ∀ t o m, w = .ref t o m → N[t]? = M[t]?) : SlF N w n Z := by
  obtain ⟨h0, h | ⟨t, h1, h2⟩⟩ := h
  · exact ⟨h0, .inl h⟩
  · refine ⟨h0, .inr ⟨t, h1, ?_⟩⟩
    unfold Live; rw [hk _ _ _ h1]; exact h2
end Go.Ab

/- The abstract code of some functions (written by a program of mine from the translation, by way of prepF). -/
namespace Go.Ab.C
open Go.Ab
def spec_l9Cells : AFn :=
  ⟨1, 19, [.tmp 2],
    .seq (.ops [(none, .mv 2 (.c (.I 0)))])
    (.seq (.ops [(none, .mv 3 (.c (.I 0)))])
     (.seq (.seq (.ops [(none, .mv 4 (.c (.I 0)))])
       (.block 0 (.loop (.seq (.seq (.ops [(none, .mv 5 (.t 4)),
              (none, .mv 6 (.t 0)),
              (none, .len 7 (.t 6)),
              (none, .bin 8 .lss (.t 5) (.t 7))])
           (.cond (.t 8) (.skip)
            (.exit 0)))
          (.seq (.block 1 (.ops [(none, .mv 11 (.t 3)),
               (none, .mv 12 (.t 0)),
               (none, .mv 13 (.t 4)),
               (none, .idxS 14 1 (.t 12) (.t 13)),
               (none, .load1 15 (.t 14)),
               (none, .len 16 (.t 15)),
               (none, .bin 17 .add (.t 11) (.t 16)),
               (none, .mv 3 (.t 17))]))
           (.ops [(none, .mv 9 (.t 4)),
              (none, .bin 10 .add (.t 9) (.c (.I 1))),
              (none, .mv 4 (.t 10))]))))))
      (.seq (.ops [(none, .mv 18 (.t 3)),
          (none, .mv 2 (.t 18))])
       (.ret))))⟩
end Go.Ab.C

/- That the program has this code. -/
namespace Go.Ab.K
open Go Go.Ab
theorem spec_l9Cells : prepF Go.Proofs.Try.prog F.spec_l9Cells = some C.spec_l9Cells := by kernel_rfl
end Go.Ab.K

/- The abstract code of some functions (written by a program of mine from the translation, by way of prepF). -/
namespace Go.Ab.C
open Go.Ab
def impl_box_placed : AFn :=
  ⟨4, 46, [.tmp 8, .tmp 9],
    .seq (.ops [(none, .box 4 (.t 0)),
       (none, .box 7 (.t 3)),
       (none, .mv 8 (.c (.U 0))),
       (none, .mv 9 (.c (.B false)))])
    (.seq (.ops [(none, .mv 10 (.c (.U 0)))])
     (.seq (.seq (.ops [(none, .slA 14 3 1 (.t 7) none none),
          (none, .call (some 15) F.impl_allWithin [(.t 14), (.c (.I 0)), (.c (.I 4))]),
          (none, .un 16 .not (.t 15))])
       (.cond (.t 16) (.seq (.ops [(none, .mv 8 (.c (.U 0))),
            (none, .mv 9 (.c (.B false)))])
         (.ret))
        (.skip)))
      (.seq (.seq (.ops [(none, .mv 17 (.t 2)),
           (none, .len 18 (.t 17)),
           (none, .mv 19 (.c (.I 0)))])
        (.block 0 (.loop (.seq (.ops [(none, .bin 20 .lss (.t 19) (.t 18))])
           (.seq (.cond (.t 20) (.skip)
             (.exit 0))
            (.seq (.block 1 (.seq (.ops [(none, .idxS 21 3 (.t 17) (.t 19)),
                  (none, .loadN 22 3 (.t 21)),
                  (none, .alloc 12 [(.I 0), (.I 0), (.I 0)]),
                  (none, .store 3 (.t 12) (.t 22))])
               (.seq (.ops [(none, .loadN 23 3 (.t 12)),
                   (none, .loadN 24 3 (.t 7)),
                   (none, .call (some 25) F.impl_added [(.t 23), (.t 24)]),
                   (none, .alloc 13 [(.I 0), (.I 0), (.I 0)]),
                   (none, .store 3 (.t 13) (.t 25))])
                (.seq (.seq (.ops [(none, .loadN 26 3 (.t 4)),
                     (none, .loadN 27 3 (.t 13)),
                     (none, .call (some 28) F.impl_box_has [(.t 26), (.t 27)]),
                     (none, .un 29 .not (.t 28)),
                     (none, .mv 30 (.t 29)),
                     (some (30, false), .mv 31 (.t 1)),
                     (some (30, false), .loadN 32 3 (.t 4)),
                     (some (30, false), .loadN 33 3 (.t 13)),
                     (some (30, false), .call (some 34) F.impl_box_index [(.t 32), (.t 33)]),
                     (some (30, false), .call (some 35) F.impl_set_has [(.t 31), (.t 34)]),
                     (some (30, false), .un 36 .not (.t 35)),
                     (none, .pick 37 (.t 30) (.c (.B true)) (.t 36))])
                  (.cond (.t 37) (.seq (.ops [(none, .mv 8 (.c (.U 0))),
                       (none, .mv 9 (.c (.B false)))])
                    (.ret))
                   (.skip)))
                 (.ops [(none, .mv 38 (.t 10)),
                    (none, .loadN 39 3 (.t 4)),
                    (none, .loadN 40 3 (.t 13)),
                    (none, .call (some 41) F.impl_box_index [(.t 39), (.t 40)]),
                    (none, .bin 42 .shl (.c (.U 1)) (.t 41)),
                    (none, .bin 43 .or (.t 38) (.t 42)),
                    (none, .mv 10 (.t 43))])))))
             (.ops [(none, .bin 44 .add (.t 19) (.c (.I 1))),
                (none, .mv 19 (.t 44))])))))))
       (.seq (.ops [(none, .mv 45 (.t 10)),
           (none, .mv 8 (.t 45)),
           (none, .mv 9 (.c (.B true)))])
        (.ret)))))⟩
end Go.Ab.C

/- That the program has this code. -/
namespace Go.Ab.K
open Go Go.Ab
theorem impl_box_placed : prepF Go.Proofs.Try.prog F.impl_box_placed = some C.impl_box_placed := by kernel_rfl
end Go.Ab.K

/- The abstract code of some functions (written by a program of mine from the translation, by way of prepF). -/
namespace Go.Ab.C
open Go.Ab
def impl_Heap_free : AFn :=
  ⟨1, 9, [.tmp 2],
    .seq (.ops [(none, .box 1 (.t 0)),
       (none, .mv 2 (.c (.U 0)))])
    (.seq (.draw [⟨(none, .loadN 3 4 (.t 1)), [], []⟩,
        ⟨(none, .loadN 6 4 (.t 1)), [], []⟩,
        ⟨(none, .call (some 4) F.impl_Heap_box [(.t 3)]), [], [1]⟩,
        ⟨(none, .call (some 5) F.impl_box_full [(.t 4)]), [], [1]⟩,
        ⟨(none, .call (some 7) F.impl_Heap_cubes [(.t 6)]), [], []⟩,
        ⟨(none, .bin 8 .andNot (.t 5) (.t 7)), [], []⟩,
        ⟨(none, .mv 2 (.t 8)), [], []⟩])
     (.ret))⟩
end Go.Ab.C

/- That the program has this code. -/
namespace Go.Ab.K
open Go Go.Ab
theorem impl_Heap_free : prepF Go.Proofs.Try.prog F.impl_Heap_free = some C.impl_Heap_free := by kernel_rfl
end Go.Ab.K

/- The abstract code of some functions (written by a program of mine from the translation, by way of prepF). -/
namespace Go.Ab.C
open Go.Ab
def impl_isPacked : AFn :=
  ⟨2, 12, [.tmp 4],
    .seq (.ops [(none, .box 2 (.t 0)),
       (none, .mv 4 (.c (.B false)))])
    (.seq (.ops [(none, .loadN 5 4 (.t 2)),
        (none, .call (some 6) F.impl_IsHeap [(.t 5)]),
        (none, .mv 7 (.t 6)),
        (some (7, true), .mv 8 (.t 1)),
        (some (7, true), .call (some 9) F.slices_ContainsFunc_SSA3int_SA3int [(.t 8), (.c (.clo F.impl_isPacked_1 []))]),
        (some (7, true), .un 10 .not (.t 9)),
        (none, .pick 11 (.t 7) (.t 10) (.c (.B false))),
        (none, .mv 4 (.t 11))])
     (.ret))⟩
def impl_isPacked_1 : AFn :=
  ⟨1, 6, [.tmp 2],
    .seq (.ops [(none, .mv 2 (.c (.B false)))])
    (.seq (.ops [(none, .mv 3 (.t 0)),
        (none, .call (some 4) F.impl_IsPiece [(.t 3)]),
        (none, .un 5 .not (.t 4)),
        (none, .mv 2 (.t 5))])
     (.ret))⟩
def impl_arePacked : AFn :=
  ⟨2, 13, [.tmp 4],
    .seq (.ops [(none, .box 2 (.t 0)),
       (none, .mv 4 (.c (.B false)))])
    (.seq (.ops [(none, .loadN 5 4 (.t 2)),
        (none, .mv 6 (.t 1)),
        (none, .call (some 7) F.impl_isPacked [(.t 5), (.t 6)]),
        (none, .mv 8 (.t 7)),
        (some (8, true), .mv 9 (.t 1)),
        (some (8, true), .len 10 (.t 9)),
        (some (8, true), .bin 11 .leq (.t 10) (.c (.I 8))),
        (none, .pick 12 (.t 8) (.t 11) (.c (.B false))),
        (none, .mv 4 (.t 12))])
     (.ret))⟩
def slices_ContainsFunc_SSA3int_SA3int : AFn :=
  ⟨2, 9, [.tmp 4],
    .seq (.ops [(none, .mv 4 (.c (.B false)))])
    (.seq (.ops [(none, .mv 5 (.t 0)),
        (none, .mv 6 (.t 1)),
        (none, .call (some 7) F.slices_IndexFunc_SSA3int_SA3int [(.t 5), (.t 6)]),
        (none, .bin 8 .geq (.t 7) (.c (.I 0))),
        (none, .mv 4 (.t 8))])
     (.ret))⟩
def slices_IndexFunc_SSA3int_SA3int : AFn :=
  ⟨2, 19, [.tmp 4],
    .seq (.ops [(none, .mv 4 (.c (.I 0)))])
    (.seq (.seq (.ops [(none, .mv 6 (.t 0)),
         (none, .len 7 (.t 6)),
         (none, .mv 8 (.c (.I 0)))])
      (.block 0 (.loop (.seq (.ops [(none, .bin 9 .lss (.t 8) (.t 7))])
         (.seq (.cond (.t 9) (.skip)
           (.exit 0))
          (.seq (.block 1 (.seq (.ops [(none, .mv 10 (.t 8)),
                (none, .mv 5 (.t 10))])
             (.seq (.ops [(none, .mv 11 (.t 1)),
                 (none, .mv 12 (.t 0)),
                 (none, .mv 13 (.t 5)),
                 (none, .idxS 14 1 (.t 12) (.t 13)),
                 (none, .load1 15 (.t 14)),
                 (none, .callV (some 16) (.t 11) [(.t 15)])])
              (.cond (.t 16) (.seq (.ops [(none, .mv 17 (.t 5)),
                   (none, .mv 4 (.t 17))])
                (.ret))
               (.skip)))))
           (.ops [(none, .bin 18 .add (.t 8) (.c (.I 1))),
              (none, .mv 8 (.t 18))])))))))
     (.seq (.ops [(none, .mv 4 (.c (.I (-1))))])
      (.ret)))⟩
def spec_l9Ask : AFn :=
  ⟨2, 25, [.tmp 4],
    .seq (.ops [(none, .box 2 (.t 0)),
       (none, .mv 4 (.c (.B false)))])
    (.seq (.seq (.ops [(none, .mv 5 (.c (.I 0)))])
      (.block 0 (.loop (.seq (.seq (.ops [(none, .mv 6 (.t 5)),
             (none, .mv 7 (.t 1)),
             (none, .len 8 (.t 7)),
             (none, .bin 9 .lss (.t 6) (.t 8))])
          (.cond (.t 9) (.skip)
           (.exit 0)))
         (.seq (.block 1 (.seq (.ops [(none, .mv 12 (.t 1)),
               (none, .mv 13 (.t 5)),
               (none, .idxS 14 1 (.t 12) (.t 13)),
               (none, .load1 15 (.t 14)),
               (none, .call (some 16) F.spec_l9Piece [(.t 15)]),
               (none, .un 17 .not (.t 16))])
            (.cond (.t 17) (.seq (.ops [(none, .mv 4 (.c (.B false)))])
              (.ret))
             (.skip))))
          (.ops [(none, .mv 10 (.t 5)),
             (none, .bin 11 .add (.t 10) (.c (.I 1))),
             (none, .mv 5 (.t 11))]))))))
     (.seq (.ops [(none, .loadN 18 4 (.t 2)),
         (none, .call (some 19) F.spec_l2Heap [(.t 18)]),
         (none, .mv 20 (.t 19)),
         (some (20, true), .mv 21 (.t 1)),
         (some (20, true), .len 22 (.t 21)),
         (some (20, true), .bin 23 .leq (.t 22) (.c (.I 8))),
         (none, .pick 24 (.t 20) (.t 23) (.c (.B false))),
         (none, .mv 4 (.t 24))])
      (.ret)))⟩
end Go.Ab.C

/- That the program has this code. -/
namespace Go.Ab.K
open Go Go.Ab
theorem impl_isPacked : prepF Go.Proofs.Try.prog F.impl_isPacked = some C.impl_isPacked := by kernel_rfl
theorem impl_isPacked_1 : prepF Go.Proofs.Try.prog F.impl_isPacked_1 = some C.impl_isPacked_1 := by kernel_rfl
theorem impl_arePacked : prepF Go.Proofs.Try.prog F.impl_arePacked = some C.impl_arePacked := by kernel_rfl
theorem slices_ContainsFunc_SSA3int_SA3int : prepF Go.Proofs.Try.prog F.slices_ContainsFunc_SSA3int_SA3int = some C.slices_ContainsFunc_SSA3int_SA3int := by kernel_rfl
theorem slices_IndexFunc_SSA3int_SA3int : prepF Go.Proofs.Try.prog F.slices_IndexFunc_SSA3int_SA3int = some C.slices_IndexFunc_SSA3int_SA3int := by kernel_rfl
theorem spec_l9Ask : prepF Go.Proofs.Try.prog F.spec_l9Ask = some C.spec_l9Ask := by kernel_rfl
end Go.Ab.K

/- The abstract code of some functions (written by a program of mine from the translation, by way of prepF). -/
namespace Go.Ab.C
open Go.Ab
def spec_l9Piece : AFn :=
  ⟨1, 59, [.tmp 2],
    .seq (.ops [(none, .mv 2 (.c (.B false)))])
    (.seq (.seq (.ops [(none, .mv 6 (.t 0)),
         (none, .len 7 (.t 6)),
         (none, .call (some 8) F.spec_l1In [(.t 7), (.c (.I 1)), (.c (.I 5))]),
         (none, .un 9 .not (.t 8))])
      (.cond (.t 9) (.seq (.ops [(none, .mv 2 (.c (.B false)))])
        (.ret))
       (.skip)))
     (.seq (.ops [(none, .build 10 [(.I 0), (.I 0), (.I 0)] [(0, 1, (.c (.I 4))), (1, 1, (.c (.I 4))), (2, 1, (.c (.I 4)))]),
         (none, .alloc 3 [(.I 0), (.I 0), (.I 0)]),
         (none, .store 3 (.t 3) (.t 10))])
      (.seq (.seq (.ops [(none, .mv 4 (.c (.I 0)))])
        (.block 0 (.loop (.seq (.seq (.ops [(none, .mv 11 (.t 4)),
               (none, .mv 12 (.t 0)),
               (none, .len 13 (.t 12)),
               (none, .bin 14 .lss (.t 11) (.t 13))])
            (.cond (.t 14) (.skip)
             (.exit 0)))
           (.seq (.block 1 (.seq (.seq (.ops [(none, .mv 5 (.c (.I 0)))])
               (.block 2 (.loop (.seq (.seq (.ops [(none, .mv 17 (.t 5)),
                      (none, .bin 18 .lss (.t 17) (.c (.I 3)))])
                   (.cond (.t 18) (.skip)
                    (.exit 2)))
                  (.seq (.block 3 (.seq (.seq (.ops [(none, .mv 21 (.t 0)),
                         (none, .mv 22 (.t 4)),
                         (none, .mv 23 (.t 5)),
                         (none, .idxS 24 3 (.t 21) (.t 22)),
                         (none, .idxA 25 3 1 (.t 24) (.t 23)),
                         (none, .load1 26 (.t 25)),
                         (none, .call (some 27) F.spec_l1In [(.t 26), (.c (.I 0)), (.c (.I 3))]),
                         (none, .un 28 .not (.t 27))])
                      (.cond (.t 28) (.seq (.ops [(none, .mv 2 (.c (.B false)))])
                        (.ret))
                       (.skip)))
                     (.draw [⟨(none, .mv 29 (.t 5)), [], []⟩,
                        ⟨(none, .mv 30 (.t 5)), [], []⟩,
                        ⟨(none, .idxA 31 3 1 (.t 3) (.t 30)), [], []⟩,
                        ⟨(none, .load1 32 (.t 31)), [], []⟩,
                        ⟨(none, .mv 33 (.t 0)), [], []⟩,
                        ⟨(none, .mv 34 (.t 4)), [], []⟩,
                        ⟨(none, .mv 35 (.t 5)), [], []⟩,
                        ⟨(none, .idxS 36 3 (.t 33) (.t 34)), [], []⟩,
                        ⟨(none, .idxA 37 3 1 (.t 36) (.t 35)), [], []⟩,
                        ⟨(none, .load1 38 (.t 37)), [], []⟩,
                        ⟨(none, .call (some 39) F.spec_l1Least [(.t 32), (.t 38)]), [], [0]⟩,
                        ⟨(none, .idxA 40 3 1 (.t 3) (.t 29)), [], []⟩,
                        ⟨(none, .store 1 (.t 40) (.t 39)), [], []⟩])))
                   (.ops [(none, .mv 19 (.t 5)),
                      (none, .bin 20 .add (.t 19) (.c (.I 1))),
                      (none, .mv 5 (.t 20))]))))))
              (.seq (.draw [⟨(none, .mv 41 (.t 4)), [], []⟩,
                  ⟨(none, .bin 42 .gtr (.t 41) (.c (.I 0))), [], []⟩,
                  ⟨(none, .mv 43 (.t 42)), [], []⟩,
                  ⟨(some (43, true), .mv 44 (.t 0)), [], []⟩,
                  ⟨(some (43, true), .mv 45 (.t 4)), [], []⟩,
                  ⟨(some (43, true), .bin 46 .sub (.t 45) (.c (.I 1))), [], []⟩,
                  ⟨(some (43, true), .idxS 47 3 (.t 44) (.t 46)), [], []⟩,
                  ⟨(some (43, true), .loadN 48 3 (.t 47)), [], []⟩,
                  ⟨(some (43, true), .mv 49 (.t 0)), [], []⟩,
                  ⟨(some (43, true), .mv 50 (.t 4)), [], []⟩,
                  ⟨(some (43, true), .idxS 51 3 (.t 49) (.t 50)), [], []⟩,
                  ⟨(some (43, true), .loadN 52 3 (.t 51)), [], []⟩,
                  ⟨(some (43, true), .call (some 53) F.spec_l2Before [(.t 48), (.t 52)]), [], []⟩,
                  ⟨(some (43, true), .un 54 .not (.t 53)), [], []⟩,
                  ⟨(none, .pick 55 (.t 43) (.t 54) (.c (.B false))), [], []⟩])
               (.cond (.t 55) (.seq (.ops [(none, .mv 2 (.c (.B false)))])
                 (.ret))
                (.skip)))))
            (.ops [(none, .mv 15 (.t 4)),
               (none, .bin 16 .add (.t 15) (.c (.I 1))),
               (none, .mv 4 (.t 16))]))))))
       (.seq (.ops [(none, .loadN 56 3 (.t 3)),
           (none, .build 57 [(.I 0), (.I 0), (.I 0)] []),
           (none, .eqs 58 false 3 (.t 56) (.t 57)),
           (none, .mv 2 (.t 58))])
        (.ret)))))⟩
def impl_IsPiece : AFn :=
  ⟨1, 57, [.tmp 2],
    .seq (.ops [(none, .mv 2 (.c (.B false)))])
    (.seq (.seq (.ops [(none, .mv 6 (.t 0)),
         (none, .len 7 (.t 6)),
         (none, .call (some 8) F.impl_within [(.t 7), (.c (.I 1)), (.c (.I 5))]),
         (none, .un 9 .not (.t 8))])
      (.cond (.t 9) (.seq (.ops [(none, .mv 2 (.c (.B false)))])
        (.ret))
       (.skip)))
     (.seq (.ops [(none, .mv 10 (.t 0)),
         (none, .idxS 11 3 (.t 10) (.c (.I 0))),
         (none, .loadN 12 3 (.t 11)),
         (none, .alloc 3 [(.I 0), (.I 0), (.I 0)]),
         (none, .store 3 (.t 3) (.t 12))])
      (.seq (.seq (.ops [(none, .mv 13 (.t 0)),
           (none, .len 14 (.t 13)),
           (none, .mv 15 (.c (.I 0)))])
        (.block 0 (.loop (.seq (.ops [(none, .bin 16 .lss (.t 15) (.t 14))])
           (.seq (.cond (.t 16) (.skip)
             (.exit 0))
            (.seq (.block 1 (.seq (.ops [(none, .mv 17 (.t 15)),
                  (none, .idxS 18 3 (.t 13) (.t 15)),
                  (none, .loadN 19 3 (.t 18)),
                  (none, .alloc 5 [(.I 0), (.I 0), (.I 0)]),
                  (none, .mv 4 (.t 17)),
                  (none, .store 3 (.t 5) (.t 19))])
               (.seq (.seq (.draw [⟨(none, .slA 20 3 1 (.t 5) none none), [], []⟩,
                    ⟨(none, .call (some 21) F.impl_allWithin [(.t 20), (.c (.I 0)), (.c (.I 3))]), [], []⟩,
                    ⟨(none, .un 22 .not (.t 21)), [], []⟩,
                    ⟨(none, .mv 23 (.t 22)), [], []⟩,
                    ⟨(some (23, false), .mv 24 (.t 4)), [], []⟩,
                    ⟨(some (23, false), .bin 25 .gtr (.t 24) (.c (.I 0))), [], []⟩,
                    ⟨(some (23, false), .mv 26 (.t 25)), [], []⟩,
                    ⟨(some (26, true), .mv 27 (.t 0)), [], []⟩,
                    ⟨(some (26, true), .mv 28 (.t 4)), [], []⟩,
                    ⟨(some (26, true), .bin 29 .sub (.t 28) (.c (.I 1))), [], []⟩,
                    ⟨(some (26, true), .idxS 30 3 (.t 27) (.t 29)), [], []⟩,
                    ⟨(some (26, true), .loadN 31 3 (.t 30)), [], []⟩,
                    ⟨(some (26, true), .loadN 32 3 (.t 5)), [], []⟩,
                    ⟨(some (26, true), .call (some 33) F.impl_compareCells [(.t 31), (.t 32)]), [], []⟩,
                    ⟨(some (26, true), .bin 34 .geq (.t 33) (.c (.I 0))), [], []⟩,
                    ⟨(some (23, false), .pick 35 (.t 26) (.t 34) (.c (.B false))), [], []⟩,
                    ⟨(none, .pick 36 (.t 23) (.c (.B true)) (.t 35)), [], []⟩])
                 (.cond (.t 36) (.seq (.ops [(none, .mv 2 (.c (.B false)))])
                   (.ret))
                  (.skip)))
                (.ops [(none, .idxA 37 3 1 (.t 3) (.c (.I 0))),
                   (none, .load1 38 (.t 37)),
                   (none, .idxA 39 3 1 (.t 5) (.c (.I 0))),
                   (none, .load1 40 (.t 39)),
                   (none, .mm 41 false [(.t 38), (.t 40)]),
                   (none, .idxA 42 3 1 (.t 3) (.c (.I 1))),
                   (none, .load1 43 (.t 42)),
                   (none, .idxA 44 3 1 (.t 5) (.c (.I 1))),
                   (none, .load1 45 (.t 44)),
                   (none, .mm 46 false [(.t 43), (.t 45)]),
                   (none, .idxA 47 3 1 (.t 3) (.c (.I 2))),
                   (none, .load1 48 (.t 47)),
                   (none, .idxA 49 3 1 (.t 5) (.c (.I 2))),
                   (none, .load1 50 (.t 49)),
                   (none, .mm 51 false [(.t 48), (.t 50)]),
                   (none, .build 52 [(.I 0), (.I 0), (.I 0)] [(0, 1, (.t 41)), (1, 1, (.t 46)), (2, 1, (.t 51))]),
                   (none, .store 3 (.t 3) (.t 52))]))))
             (.ops [(none, .bin 53 .add (.t 15) (.c (.I 1))),
                (none, .mv 15 (.t 53))])))))))
       (.seq (.ops [(none, .loadN 54 3 (.t 3)),
           (none, .build 55 [(.I 0), (.I 0), (.I 0)] []),
           (none, .eqs 56 false 3 (.t 54) (.t 55)),
           (none, .mv 2 (.t 56))])
        (.ret)))))⟩
end Go.Ab.C

/- That the program has this code. -/
namespace Go.Ab.K
open Go Go.Ab
theorem spec_l9Piece : prepF Go.Proofs.Try.prog F.spec_l9Piece = some C.spec_l9Piece := by kernel_rfl
theorem impl_IsPiece : prepF Go.Proofs.Try.prog F.impl_IsPiece = some C.impl_IsPiece := by kernel_rfl
end Go.Ab.K

/- The abstract code of some functions (written by a program of mine from the translation, by way of prepF). -/
namespace Go.Ab.C
open Go.Ab
end Go.Ab.C

/- That the program has this code. -/
namespace Go.Ab.K
open Go Go.Ab
end Go.Ab.K

/- The abstract code of some functions (written by a program of mine from the translation, by way of prepF). -/
namespace Go.Ab.C
open Go.Ab
end Go.Ab.C

/- That the program has this code. -/
namespace Go.Ab.K
open Go Go.Ab
end Go.Ab.K

/- What laws are told of heaps as results. -/
namespace Go.Ab
open Go

structure Hp where
  x : Int
  y : Int
  z : Int
  cs : List Cell
def Hp.none : Hp := ⟨0, 0, 0, []⟩
abbrev Hp.row (r : Hp) (w : LV) : Blk := .row [.I r.x, .I r.y, .I r.z, w] true 0
/-- A heap, or the one of all zeros, what else there is, and whether there is one. -/
def HeapRes (M : Mem) (r : Option Hp) (ext : List LV) (v : LV) (N : Mem) : Prop :=
  ∃ w, v = .tup (.agg [.I (r.getD Hp.none).x, .I (r.getD Hp.none).y, .I (r.getD Hp.none).z, w] :: (ext ++ [.B r.isSome])) ∧ SlC N w (r.getD Hp.none).cs ∧ Newer M w ∧ Pre M N
theorem Older.off {M : Mem} {v : LV} {u : Nat} (h : Older M v) (hu : M.length ≤ u) : Off v u := by
  cases v with
  | ref t o n => have := h t o n rfl; show u ≠ t; omega
  | _ => trivial
end Go.Ab
