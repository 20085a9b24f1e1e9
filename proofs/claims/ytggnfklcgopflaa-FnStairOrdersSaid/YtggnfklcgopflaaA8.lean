/- Parts of the proof of FnStairOrdersSaid: C_Hi K_Hi C_Hh K_Hh C_He K_He C_Hd K_Hd C_Hc K_Hc Hc Hd C_Dc2 K_Dc2 Dc2 C_De2 K_De2 C_De K_De De C_Dd2 K_Dd2 Dd2 De2 He C_Th K_Th C_Tg K_Tg Tg Th C_Pe K_Pe C_Pc K_Pc C_Pb K_Pb Pa Pb Pc Pd Pe Hh Tt Hi Jf Xb Xc C_Xe K_Xe Xd. -/
import Derived.Test.YtggnfklcgopflaaA3
import Derived.Test.YtggnfklcgopflaaA4
import Derived.Test.YtggnfklcgopflaaProg
import Derived.KernelRfl
import Derived.Test.YtggnfklcgopflaaA7
import Derived.Test.YtggnfklcgopflaaA5
import Derived.Test.YtggnfklcgopflaaA6
set_option linter.all false
/- The abstract code of some functions (written by a program of mine from the translation, by way of prepF). -/
namespace Go.Ab.C
open Go.Ab
end Go.Ab.C

/- That the program has this code. -/
namespace Go.Ab.K
open Go Go.Ab
end Go.Ab.K

/- The abstract code of some functions (written by a program of mine from the translation, by way of prepF). -/
namespace Go.Ab.C
open Go.Ab
end Go.Ab.C

/- That the program has this code. -/
namespace Go.Ab.K
open Go Go.Ab
end Go.Ab.K

/- The abstract code of some functions (written by a program of mine from the translation, by way of prepF). -/
namespace Go.Ab.C
open Go.Ab
end Go.Ab.C

/- That the program has this code. -/
namespace Go.Ab.K
open Go Go.Ab
end Go.Ab.K

/- The abstract code of some functions (written by a program of mine from the translation, by way of prepF). -/
namespace Go.Ab.C
open Go.Ab
def spec_l1Cur_heap : AFn :=
 ⟨1, 56, [.cellN 2 4],
 .seq (.ops [(none, .alloc 2 [(.I 0), (.I 0), (.I 0), .nil])])
 (.seq (.ops [(none, .mv 8 (.t 0)),
 (none, .call (some 9) F.spec_l1Cur_sides [(.t 8)]),
 (none, .mv 7 (.t 9)),
 (none, .extract 10 (.t 7) 0),
 (none, .extract 11 (.t 7) 1),
 (none, .extract 12 (.t 7) 2),
 (none, .mv 3 (.t 10)),
 (none, .mv 4 (.t 11)),
 (none, .mv 5 (.t 12))])
 (.seq (.ops [(none, .mv 13 (.t 0)),
 (none, .mv 14 (.t 3)),
 (none, .mv 15 (.t 4)),
 (none, .mv 16 (.t 5)),
 (none, .call (some 17) F.spec_l1Cur_someHeap [(.t 13), (.t 14), (.t 15), (.t 16)]),
 (none, .alloc 6 [(.I 0), (.I 0), (.I 0), .nil]),
 (none, .store 4 (.t 6) (.t 17))])
 (.seq (.seq (.ops [(none, .mv 18 (.t 0)),
 (none, .call (some 19) F.spec_l1Cur_pick [(.t 18), (.c (.I 60))])])
 (.block 0 (.seq (.ops [(none, .bin 21 .eql (.t 19) (.c (.I 0))),
 (none, .mv 20 (.t 21))])
 (.cond (.t 20) (.ops [(none, .fieldAddr 22 (.t 6) 3),
 (none, .load1 23 (.t 22)),
 (none, .mv 24 (.t 3)),
 (none, .build 25 [(.I 0), (.I 0), (.I 0)] [(0, 1, (.t 24)), (1, 1, (.c (.I 0))), (2, 1, (.c (.I 0)))]),
 (none, .buildSl 26 1 3 [(.I 0), (.I 0), (.I 0)] [(0, 3, (.t 25))]),
 (none, .append 27 3 24 (.t 23) (.t 26)),
 (none, .fieldAddr 28 (.t 6) 3),
 (none, .store 1 (.t 28) (.t 27))])
 (.seq (.ops [(none, .bin 30 .eql (.t 19) (.c (.I 1))),
 (none, .mv 29 (.t 30))])
 (.cond (.t 29) (.ops [(none, .fieldAddr 31 (.t 6) 3),
 (none, .load1 32 (.t 31)),
 (none, .build 33 [(.I 0), (.I 0), (.I 0)] [(0, 1, (.c (.I (-1)))), (1, 1, (.c (.I 0))), (2, 1, (.c (.I 0)))]),
 (none, .buildSl 34 1 3 [(.I 0), (.I 0), (.I 0)] [(0, 3, (.t 33))]),
 (none, .append 35 3 24 (.t 32) (.t 34)),
 (none, .fieldAddr 36 (.t 6) 3),
 (none, .store 1 (.t 36) (.t 35))])
 (.seq (.ops [(none, .bin 38 .eql (.t 19) (.c (.I 2))),
 (none, .mv 37 (.t 38))])
 (.cond (.t 37) (.seq (.ops [(none, .fieldAddr 39 (.t 6) 3),
 (none, .load1 40 (.t 39)),
 (none, .len 41 (.t 40)),
 (none, .bin 42 .gtr (.t 41) (.c (.I 0)))])
 (.cond (.t 42) (.draw [⟨(none, .fieldAddr 43 (.t 6) 3), [], []⟩,
 ⟨(none, .load1 44 (.t 43)), [], []⟩,
 ⟨(none, .fieldAddr 45 (.t 6) 3), [], []⟩,
 ⟨(none, .load1 46 (.t 45)), [], []⟩,
 ⟨(none, .idxS 47 3 (.t 46) (.c (.I 0))), [], []⟩,
 ⟨(none, .loadN 48 3 (.t 47)), [], []⟩,
 ⟨(none, .buildSl 49 1 3 [(.I 0), (.I 0), (.I 0)] [(0, 3, (.t 48))]), [], []⟩,
 ⟨(none, .append 50 3 24 (.t 44) (.t 49)), [], []⟩,
 ⟨(none, .fieldAddr 51 (.t 6) 3), [], []⟩,
 ⟨(none, .store 1 (.t 51) (.t 50)), [], []⟩])
 (.skip)))
 (.seq (.ops [(none, .bin 53 .eql (.t 19) (.c (.I 3))),
 (none, .mv 52 (.t 53))])
 (.cond (.t 52) (.seq (.ops [(none, .build 54 [(.I 0), (.I 0), (.I 0), .nil] []),
 (none, .store 4 (.t 2) (.t 54))])
 (.ret))
 (.skip)))))))))))
 (.seq (.ops [(none, .loadN 55 4 (.t 6)),
 (none, .store 4 (.t 2) (.t 55))])
 (.ret)))))⟩
end Go.Ab.C

/- That the program has this code. -/
namespace Go.Ab.K
open Go Go.Ab
theorem spec_l1Cur_heap : prepF Go.Proofs.Try.prog F.spec_l1Cur_heap = some C.spec_l1Cur_heap := by kernel_rfl
end Go.Ab.K

/- The abstract code of some functions (written by a program of mine from the translation, by way of prepF). -/
namespace Go.Ab.C
open Go.Ab
def spec_l1Cur_sides : AFn :=
 ⟨1, 37, [.tmp 2, .tmp 3, .tmp 4],
 .seq (.ops [(none, .mv 2 (.c (.I 0))),
 (none, .mv 3 (.c (.I 0))),
 (none, .mv 4 (.c (.I 0)))])
 (.seq (.ops [(none, .mv 8 (.t 0)),
 (none, .buildSl 9 5 1 [(.I 0), (.I 0), (.I 0), (.I 0), (.I 0)] [(0, 1, (.c (.I 2))), (1, 1, (.c (.I 3))), (2, 1, (.c (.I 3))), (3, 1, (.c (.I 1))), (4, 1, (.c (.I 4)))]),
 (none, .call (some 10) F.spec_l1Cur_among [(.t 8), (.t 9)]),
 (none, .mv 11 (.t 0)),
 (none, .buildSl 12 5 1 [(.I 0), (.I 0), (.I 0), (.I 0), (.I 0)] [(0, 1, (.c (.I 2))), (1, 1, (.c (.I 3))), (2, 1, (.c (.I 2))), (3, 1, (.c (.I 1))), (4, 1, (.c (.I 4)))]),
 (none, .call (some 13) F.spec_l1Cur_among [(.t 11), (.t 12)]),
 (none, .mv 14 (.t 0)),
 (none, .buildSl 15 5 1 [(.I 0), (.I 0), (.I 0), (.I 0), (.I 0)] [(0, 1, (.c (.I 2))), (1, 1, (.c (.I 3))), (2, 1, (.c (.I 3))), (3, 1, (.c (.I 1))), (4, 1, (.c (.I 4)))]),
 (none, .call (some 16) F.spec_l1Cur_among [(.t 14), (.t 15)]),
 (none, .mv 5 (.t 10)),
 (none, .mv 6 (.t 13)),
 (none, .mv 7 (.t 16))])
 (.seq (.seq (.ops [(none, .mv 17 (.t 0)),
 (none, .call (some 18) F.spec_l1Cur_pick [(.t 17), (.c (.I 60))])])
 (.block 0 (.seq (.ops [(none, .bin 20 .eql (.t 18) (.c (.I 0))),
 (none, .mv 19 (.t 20))])
 (.cond (.t 19) (.ops [(none, .mv 21 (.t 0)),
 (none, .buildSl 22 4 1 [(.I 0), (.I 0), (.I 0), (.I 0)] [(0, 1, (.c (.I 0))), (1, 1, (.c (.I 5))), (2, 1, (.c (.I (-1)))), (3, 1, (.c (.I 4611686018427387904)))]),
 (none, .call (some 23) F.spec_l1Cur_among [(.t 21), (.t 22)]),
 (none, .mv 5 (.t 23))])
 (.seq (.ops [(none, .bin 25 .eql (.t 18) (.c (.I 1))),
 (none, .mv 24 (.t 25))])
 (.cond (.t 24) (.ops [(none, .mv 26 (.t 0)),
 (none, .buildSl 27 3 1 [(.I 0), (.I 0), (.I 0)] [(0, 1, (.c (.I 0))), (1, 1, (.c (.I 5))), (2, 1, (.c (.I (-1))))]),
 (none, .call (some 28) F.spec_l1Cur_among [(.t 26), (.t 27)]),
 (none, .mv 6 (.t 28))])
 (.seq (.ops [(none, .bin 30 .eql (.t 18) (.c (.I 2))),
 (none, .mv 29 (.t 30))])
 (.cond (.t 29) (.ops [(none, .mv 31 (.t 0)),
 (none, .buildSl 32 3 1 [(.I 0), (.I 0), (.I 0)] [(0, 1, (.c (.I 0))), (1, 1, (.c (.I 5))), (2, 1, (.c (.I (-1))))]),
 (none, .call (some 33) F.spec_l1Cur_among [(.t 31), (.t 32)]),
 (none, .mv 7 (.t 33))])
 (.skip)))))))))
 (.seq (.ops [(none, .mv 34 (.t 5)),
 (none, .mv 35 (.t 6)),
 (none, .mv 36 (.t 7)),
 (none, .mv 2 (.t 34)),
 (none, .mv 3 (.t 35)),
 (none, .mv 4 (.t 36))])
 (.ret))))⟩
def spec_l1Cur_someHeap : AFn :=
 ⟨4, 64, [.cellN 8 4],
 .seq (.ops [(none, .alloc 8 [(.I 0), (.I 0), (.I 0), .nil])])
 (.seq (.ops [(none, .mv 13 (.t 1)),
 (none, .mv 14 (.t 2)),
 (none, .mv 15 (.t 3)),
 (none, .call (some 16) F.spec_l2Empty [(.t 13), (.t 14), (.t 15)]),
 (none, .mv 17 (.t 0)),
 (none, .buildSl 18 4 1 [(.I 0), (.I 0), (.I 0), (.I 0)] [(0, 1, (.c (.I 2))), (1, 1, (.c (.I 3))), (2, 1, (.c (.I 2))), (3, 1, (.c (.I 4)))]),
 (none, .call (some 19) F.spec_l1Cur_among [(.t 17), (.t 18)]),
 (none, .alloc 9 [(.I 0), (.I 0), (.I 0), .nil]),
 (none, .store 4 (.t 9) (.t 16)),
 (none, .mv 10 (.t 19))])
 (.seq (.seq (.ops [(none, .mv 20 (.t 1)),
 (none, .mv 21 (.t 2)),
 (none, .mv 22 (.t 3)),
 (none, .call (some 23) F.spec_l2Sides [(.t 20), (.t 21), (.t 22)]),
 (none, .un 24 .not (.t 23))])
 (.cond (.t 24) (.seq (.ops [(none, .loadN 25 4 (.t 9)),
 (none, .store 4 (.t 8) (.t 25))])
 (.ret))
 (.skip)))
 (.seq (.ops [(none, .loadN 26 4 (.t 9)),
 (none, .call (some 27) F.spec_l2All [(.t 26)]),
 (none, .mv 11 (.t 27))])
 (.seq (.seq (.ops [(none, .mv 12 (.c (.I 0)))])
 (.block 0 (.loop (.seq (.seq (.ops [(none, .mv 28 (.t 12)),
 (none, .mv 29 (.t 11)),
 (none, .len 30 (.t 29)),
 (none, .bin 31 .lss (.t 28) (.t 30))])
 (.cond (.t 31) (.skip)
 (.exit 0)))
 (.seq (.block 1 (.seq (.ops [(none, .mv 34 (.t 0)),
 (none, .mv 35 (.t 10)),
 (none, .call (some 36) F.spec_l1Cur_one [(.t 34), (.t 35)])])
 (.cond (.t 36) (.draw [⟨(none, .fieldAddr 37 (.t 9) 3), [], []⟩,
 ⟨(none, .load1 38 (.t 37)), [], []⟩,
 ⟨(none, .mv 39 (.t 11)), [], []⟩,
 ⟨(none, .mv 40 (.t 12)), [], []⟩,
 ⟨(none, .idxS 41 3 (.t 39) (.t 40)), [], []⟩,
 ⟨(none, .loadN 42 3 (.t 41)), [], []⟩,
 ⟨(none, .buildSl 43 1 3 [(.I 0), (.I 0), (.I 0)] [(0, 3, (.t 42))]), [], []⟩,
 ⟨(none, .append 44 3 24 (.t 38) (.t 43)), [], []⟩,
 ⟨(none, .fieldAddr 45 (.t 9) 3), [], []⟩,
 ⟨(none, .store 1 (.t 45) (.t 44)), [], []⟩])
 (.skip))))
 (.ops [(none, .mv 32 (.t 12)),
 (none, .bin 33 .add (.t 32) (.c (.I 1))),
 (none, .mv 12 (.t 33))]))))))
 (.seq (.seq (.ops [(none, .mv 46 (.t 0)),
 (none, .call (some 47) F.spec_l1Cur_pick [(.t 46), (.c (.I 12))])])
 (.block 2 (.seq (.ops [(none, .bin 49 .eql (.t 47) (.c (.I 0))),
 (none, .mv 48 (.t 49))])
 (.cond (.t 48) (.ops [(none, .loadN 51 4 (.t 9)),
 (none, .call (some 52) F.spec_OtherCells [(.t 51)]),
 (none, .mv 50 (.t 52)),
 (none, .extract 53 (.t 50) 0),
 (none, .extract 54 (.t 50) 1),
 (none, .store 4 (.t 9) (.t 53))])
 (.seq (.ops [(none, .bin 56 .eql (.t 47) (.c (.I 1))),
 (none, .mv 55 (.t 56))])
 (.cond (.t 55) (.ops [(none, .mv 57 (.t 1)),
 (none, .mv 58 (.t 2)),
 (none, .mv 59 (.t 3)),
 (none, .loadN 60 4 (.t 9)),
 (none, .call (some 61) F.spec_l2Heights [(.t 60)]),
 (none, .call (some 62) F.spec_l2Stack [(.t 57), (.t 58), (.t 59), (.t 61)]),
 (none, .store 4 (.t 9) (.t 62))])
 (.skip)))))))
 (.seq (.ops [(none, .loadN 63 4 (.t 9)),
 (none, .store 4 (.t 8) (.t 63))])
 (.ret)))))))⟩
def spec_l2Heights : AFn :=
 ⟨1, 5, [.tmp 2],
 .seq (.ops [(none, .box 1 (.t 0)),
 (none, .mv 2 (.c .nil))])
 (.seq (.ops [(none, .loadN 3 4 (.t 1)),
 (none, .call (some 4) F.spec_l2View [(.t 3), (.c (.I 2))]),
 (none, .mv 2 (.t 4))])
 (.ret))⟩
end Go.Ab.C

/- That the program has this code. -/
namespace Go.Ab.K
open Go Go.Ab
theorem spec_l1Cur_sides : prepF Go.Proofs.Try.prog F.spec_l1Cur_sides = some C.spec_l1Cur_sides := by kernel_rfl
theorem spec_l1Cur_someHeap : prepF Go.Proofs.Try.prog F.spec_l1Cur_someHeap = some C.spec_l1Cur_someHeap := by kernel_rfl
theorem spec_l2Heights : prepF Go.Proofs.Try.prog F.spec_l2Heights = some C.spec_l2Heights := by kernel_rfl
end Go.Ab.K

/- Contracts: the heaps that the laws draw. -/
namespace Go.Ab
open Go
set_option linter.unusedSimpArgs false
set_option linter.unusedVariables false
set_option maxRecDepth 20000

section
variable {p t o a : Nat} {bs : List Nat} {M : Mem}
theorem d_amongNew {xs : List Int} (h : CurAt M p t o bs a) (ha : a ≤ 999990) (h0 : 0 < xs.length) (hxl : xs.length ≤ 1000) : CallsR PG F.spec_l1Cur_among [.ptr p 0, .ref M.length 0 xs.length] (M ++ [some (.row (intL xs) true 1)]) fun v N => (∃ b : Int, v = .I b ∧ b ∈ xs) ∧ DrawN M p t o bs (a + 2) N :=
  (d_among (h.pre (Pre.app _ _)) ha (Live.new (b := .row (intL xs) true 1)).has (by obtain ⟨⟨_, _, _, hp⟩, _⟩ := h; have := hp.lt; omega) h0 hxl).mono fun v N hv => ⟨hv.1, DrawN.of_pre (Pre.app _ _) hv.2⟩
theorem DrawN.up {M N : Mem} {p t o : Nat} {bs : List Nat} {a b : Nat} (h : DrawN M p t o bs a N) (hab : a ≤ b) : DrawN M p t o bs b N := ⟨h.1.keep (fun _ _ => rfl) hab, h.2⟩
theorem d_sides (h : CurAt M p t o bs a) (ha : a ≤ 999900) : CallsR PG F.spec_l1Cur_sides [.ptr p 0] M fun v N => (∃ x y z : Int, v = .tup [.I x, .I y, .I z]) ∧ DrawN M p t o bs (a + 10) N := by
  refine callsR_run K.spec_l1Cur_sides rfl ?_
  simp (disch := omega) only [C.spec_l1Cur_sides, ↓SXd, SXu, slBounds, ↓sop, ↓aop, ↓reduceIte, LV.cells, AOp.dst, LV.I, LV.B, LV.U, LV.S, LV.nil, Nat.reduceEqDiff, Nat.reduceAdd, Nat.reduceMul, Nat.reduceSub, Nat.reduceLeDiff, Nat.reduceBEq, Nat.reduceDiv, Nat.reduceMod, Int.reduceToNat, Int.reduceLT, Int.reduceLE, Int.reduceAdd, Int.reduceSub, Int.reduceMul, Int.reduceEq, Int.reduceNeg, reduceCtorEq, resV, resAll, ARes.ev, LV.flat, ite_true, ite_false, exists_eq_left', exists_eq_left, keyOf, implies_true, fillC, capOf]
  refine callR_of (d_amongNew (xs := [2, 3, 3, 1, 4]) h (by omega) (by simp) (by simp)) ?_
  rintro _ N1 ⟨⟨x, rfl, _⟩, hd1⟩
  simp (disch := omega) only [↓SXd, SXu, slBounds, ↓sop, ↓aop, ↓reduceIte, LV.cells, AOp.dst, LV.I, LV.B, LV.U, LV.S, LV.nil, Nat.reduceEqDiff, Nat.reduceAdd, Nat.reduceMul, Nat.reduceSub, Nat.reduceLeDiff, Nat.reduceBEq, Nat.reduceDiv, Nat.reduceMod, Int.reduceToNat, Int.reduceLT, Int.reduceLE, Int.reduceAdd, Int.reduceSub, Int.reduceMul, Int.reduceEq, Int.reduceNeg, reduceCtorEq, resV, resAll, ARes.ev, LV.flat, ite_true, ite_false, exists_eq_left', exists_eq_left, keyOf, implies_true, fillC, capOf]
  refine callR_of (d_amongNew (xs := [2, 3, 2, 1, 4]) hd1.1 (by omega) (by simp) (by simp)) ?_
  rintro _ N2 ⟨⟨y, rfl, _⟩, hd2⟩
  simp (disch := omega) only [↓SXd, SXu, slBounds, ↓sop, ↓aop, ↓reduceIte, LV.cells, AOp.dst, LV.I, LV.B, LV.U, LV.S, LV.nil, Nat.reduceEqDiff, Nat.reduceAdd, Nat.reduceMul, Nat.reduceSub, Nat.reduceLeDiff, Nat.reduceBEq, Nat.reduceDiv, Nat.reduceMod, Int.reduceToNat, Int.reduceLT, Int.reduceLE, Int.reduceAdd, Int.reduceSub, Int.reduceMul, Int.reduceEq, Int.reduceNeg, reduceCtorEq, resV, resAll, ARes.ev, LV.flat, ite_true, ite_false, exists_eq_left', exists_eq_left, keyOf, implies_true, fillC, capOf]
  refine callR_of (d_amongNew (xs := [2, 3, 3, 1, 4]) hd2.1 (by omega) (by simp) (by simp)) ?_
  rintro _ N3 ⟨⟨z, rfl, _⟩, hd3⟩
  simp (disch := omega) only [↓SXd, SXu, slBounds, ↓sop, ↓aop, ↓reduceIte, LV.cells, AOp.dst, LV.I, LV.B, LV.U, LV.S, LV.nil, Nat.reduceEqDiff, Nat.reduceAdd, Nat.reduceMul, Nat.reduceSub, Nat.reduceLeDiff, Nat.reduceBEq, Nat.reduceDiv, Nat.reduceMod, Int.reduceToNat, Int.reduceLT, Int.reduceLE, Int.reduceAdd, Int.reduceSub, Int.reduceMul, Int.reduceEq, Int.reduceNeg, reduceCtorEq, resV, resAll, ARes.ev, LV.flat, ite_true, ite_false, exists_eq_left', exists_eq_left, keyOf, implies_true, fillC, capOf]
  refine callR_of (d_pick hd3.1 (by omega)) ?_
  rintro _ N4 ⟨⟨b, rfl, _⟩, hd4⟩
  have hD := ((hd1.trans hd2).trans hd3).trans hd4
  by_cases b0 : (b : Int) = 0
  · simp (disch := omega) only [b0, ↓SXd, SXu, slBounds, ↓sop, ↓aop, ↓reduceIte, LV.cells, AOp.dst, LV.I, LV.B, LV.U, LV.S, LV.nil, Nat.reduceEqDiff, Nat.reduceAdd, Nat.reduceMul, Nat.reduceSub, Nat.reduceLeDiff, Nat.reduceBEq, Nat.reduceDiv, Nat.reduceMod, Int.reduceToNat, Int.reduceLT, Int.reduceLE, Int.reduceAdd, Int.reduceSub, Int.reduceMul, Int.reduceEq, Int.reduceNeg, reduceCtorEq, resV, resAll, ARes.ev, LV.flat, ite_true, ite_false, exists_eq_left', exists_eq_left, keyOf, implies_true, fillC, capOf]
    refine callR_of (d_amongNew (xs := [0, 5, -1, 4611686018427387904]) hd4.1 (by omega) (by simp) (by simp)) ?_
    rintro _ N5 ⟨⟨x', rfl, _⟩, hd5⟩
    simp (disch := omega) only [↓SXd, SXu, slBounds, ↓sop, ↓aop, ↓reduceIte, LV.cells, AOp.dst, LV.I, LV.B, LV.U, LV.S, LV.nil, Nat.reduceEqDiff, Nat.reduceAdd, Nat.reduceMul, Nat.reduceSub, Nat.reduceLeDiff, Nat.reduceBEq, Nat.reduceDiv, Nat.reduceMod, Int.reduceToNat, Int.reduceLT, Int.reduceLE, Int.reduceAdd, Int.reduceSub, Int.reduceMul, Int.reduceEq, Int.reduceNeg, reduceCtorEq, resV, resAll, ARes.ev, LV.flat, ite_true, ite_false, exists_eq_left', exists_eq_left, keyOf, implies_true, fillC, capOf]
    exact ⟨⟨_, _, _, rfl⟩, hD.trans hd5⟩
  by_cases b1 : (b : Int) = 1
  · simp (disch := omega) only [b1, ↓SXd, SXu, slBounds, ↓sop, ↓aop, ↓reduceIte, LV.cells, AOp.dst, LV.I, LV.B, LV.U, LV.S, LV.nil, Nat.reduceEqDiff, Nat.reduceAdd, Nat.reduceMul, Nat.reduceSub, Nat.reduceLeDiff, Nat.reduceBEq, Nat.reduceDiv, Nat.reduceMod, Int.reduceToNat, Int.reduceLT, Int.reduceLE, Int.reduceAdd, Int.reduceSub, Int.reduceMul, Int.reduceEq, Int.reduceNeg, reduceCtorEq, resV, resAll, ARes.ev, LV.flat, ite_true, ite_false, exists_eq_left', exists_eq_left, keyOf, implies_true, fillC, capOf]
    refine callR_of (d_amongNew (xs := [0, 5, -1]) hd4.1 (by omega) (by simp) (by simp)) ?_
    rintro _ N5 ⟨⟨x', rfl, _⟩, hd5⟩
    simp (disch := omega) only [↓SXd, SXu, slBounds, ↓sop, ↓aop, ↓reduceIte, LV.cells, AOp.dst, LV.I, LV.B, LV.U, LV.S, LV.nil, Nat.reduceEqDiff, Nat.reduceAdd, Nat.reduceMul, Nat.reduceSub, Nat.reduceLeDiff, Nat.reduceBEq, Nat.reduceDiv, Nat.reduceMod, Int.reduceToNat, Int.reduceLT, Int.reduceLE, Int.reduceAdd, Int.reduceSub, Int.reduceMul, Int.reduceEq, Int.reduceNeg, reduceCtorEq, resV, resAll, ARes.ev, LV.flat, ite_true, ite_false, exists_eq_left', exists_eq_left, keyOf, implies_true, fillC, capOf]
    exact ⟨⟨_, _, _, rfl⟩, hD.trans hd5⟩
  by_cases b2 : (b : Int) = 2
  · simp (disch := omega) only [b2, ↓SXd, SXu, slBounds, ↓sop, ↓aop, ↓reduceIte, LV.cells, AOp.dst, LV.I, LV.B, LV.U, LV.S, LV.nil, Nat.reduceEqDiff, Nat.reduceAdd, Nat.reduceMul, Nat.reduceSub, Nat.reduceLeDiff, Nat.reduceBEq, Nat.reduceDiv, Nat.reduceMod, Int.reduceToNat, Int.reduceLT, Int.reduceLE, Int.reduceAdd, Int.reduceSub, Int.reduceMul, Int.reduceEq, Int.reduceNeg, reduceCtorEq, resV, resAll, ARes.ev, LV.flat, ite_true, ite_false, exists_eq_left', exists_eq_left, keyOf, implies_true, fillC, capOf]
    refine callR_of (d_amongNew (xs := [0, 5, -1]) hd4.1 (by omega) (by simp) (by simp)) ?_
    rintro _ N5 ⟨⟨x', rfl, _⟩, hd5⟩
    simp (disch := omega) only [↓SXd, SXu, slBounds, ↓sop, ↓aop, ↓reduceIte, LV.cells, AOp.dst, LV.I, LV.B, LV.U, LV.S, LV.nil, Nat.reduceEqDiff, Nat.reduceAdd, Nat.reduceMul, Nat.reduceSub, Nat.reduceLeDiff, Nat.reduceBEq, Nat.reduceDiv, Nat.reduceMod, Int.reduceToNat, Int.reduceLT, Int.reduceLE, Int.reduceAdd, Int.reduceSub, Int.reduceMul, Int.reduceEq, Int.reduceNeg, reduceCtorEq, resV, resAll, ARes.ev, LV.flat, ite_true, ite_false, exists_eq_left', exists_eq_left, keyOf, implies_true, fillC, capOf]
    exact ⟨⟨_, _, _, rfl⟩, hD.trans hd5⟩
  · simp (disch := omega) only [b0, b1, b2, ↓SXd, SXu, slBounds, ↓sop, ↓aop, ↓reduceIte, LV.cells, AOp.dst, LV.I, LV.B, LV.U, LV.S, LV.nil, Nat.reduceEqDiff, Nat.reduceAdd, Nat.reduceMul, Nat.reduceSub, Nat.reduceLeDiff, Nat.reduceBEq, Nat.reduceDiv, Nat.reduceMod, Int.reduceToNat, Int.reduceLT, Int.reduceLE, Int.reduceAdd, Int.reduceSub, Int.reduceMul, Int.reduceEq, Int.reduceNeg, reduceCtorEq, resV, resAll, ARes.ev, LV.flat, ite_true, ite_false, exists_eq_left', exists_eq_left, keyOf, implies_true, fillC, capOf]
    exact ⟨⟨_, _, _, rfl⟩, hD.up (by omega)⟩
end
theorem DrawN.keep {M N N' : Mem} {p t o : Nat} {bs : List Nat} {a b : Nat} (h : DrawN M p t o bs a N) (hp : p < M.length) (ht : t < M.length) (hab : a ≤ b) (hl : N.length ≤ N'.length) (hk : ∀ q, q < M.length → N'[q]? = N[q]?) : DrawN M p t o bs b N' := by
  obtain ⟨⟨⟨i, s, h1, h2⟩, h3, h4⟩, h5, h6⟩ := h
  exact ⟨⟨⟨i, s, by omega, Live.at h2 (hk _ hp)⟩, Has.at' h3 (hk _ ht), h4⟩, by omega, fun q q1 q2 => by rw [hk q q1]; exact h6 q q1 q2⟩
theorem sub_heap {x y z : Int} (hS : Sides x y z) {cs : List Cell} (h : cs.Sublist (cellsOf x y z)) : HeapOK x y z cs :=
  HeapOK.of hS ((cellsOf_sorted hS).sublist h) fun c hc => (mem_cellsOf hS).1 (h.mem hc)
section
variable {p t o a : Nat} {bs : List Nat} {M : Mem}
theorem h_l2Heights {x y z : Int} {t o : Nat} {cs : List Cell} {M : Mem} (h : Tri M t o cs) (hH : HeapOK x y z cs) : CallsTo PG F.spec_l2Heights [.agg [.I x, .I y, .I z, .ref t o cs.length]] M (.ref M.length 0 (viewL x y z 2 cs).length) (M ++ [some (.row (intL (viewL x y z 2 cs)) true 1)]) := by
  have hv := h_l2View (d := 2) (M := M ++ [some (.row [.I x, .I y, .I z, .ref t o cs.length] true 0)]) h.app hH (by omega)
  rw [show ((2 : Nat) : Int) = 2 from rfl] at hv
  refine calls_run K.spec_l2Heights rfl ?_
  simp (disch := omega) only [C.spec_l2Heights, ↓SXd, SXu, slBounds, ↓sop, ↓aop, ↓reduceIte, LV.cells, AOp.dst, LV.I, LV.B, LV.U, LV.S, LV.nil, Nat.reduceEqDiff, Nat.reduceAdd, Nat.reduceMul, Nat.reduceSub, Nat.reduceLeDiff, Nat.reduceBEq, Nat.reduceDiv, Nat.reduceMod, Int.reduceToNat, Int.reduceLT, Int.reduceLE, Int.reduceAdd, Int.reduceSub, Int.reduceMul, Int.reduceEq, Int.reduceNeg, reduceCtorEq, resV, resAll, ARes.ev, LV.flat, ite_true, ite_false, exists_eq_left', exists_eq_left, keyOf, implies_true, fillC, capOf]
  refine callK_of hv ?_
  simp (disch := omega) only [↓SXd, SXu, slBounds, ↓sop, ↓aop, ↓reduceIte, LV.cells, AOp.dst, LV.I, LV.B, LV.U, LV.S, LV.nil, Nat.reduceEqDiff, Nat.reduceAdd, Nat.reduceMul, Nat.reduceSub, Nat.reduceLeDiff, Nat.reduceBEq, Nat.reduceDiv, Nat.reduceMod, Int.reduceToNat, Int.reduceLT, Int.reduceLE, Int.reduceAdd, Int.reduceSub, Int.reduceMul, Int.reduceEq, Int.reduceNeg, reduceCtorEq, resV, resAll, ARes.ev, LV.flat, ite_true, ite_false, exists_eq_left', exists_eq_left, keyOf, implies_true, fillC, capOf]
  exact cmp_keepL (Pre.app _ _) (t := M.length + 1) (by omega) (Live.newj rfl) (intL_lo _) (by simp [rn, rn0, rn1])
/-- A heap that was drawn. -/
def HeapN (M : Mem) (x y z : Int) (v : LV) (N : Mem) : Prop := ∃ (cs : List Cell) (u : Nat), v = .agg [.I x, .I y, .I z, .ref u 0 cs.length] ∧ Live N u (.row (triL cs) true 3) ∧ M.length ≤ u ∧ cs.length ≤ 64
/-- The same, with all that is known of its cells. -/
def HeapNK (M : Mem) (x y z : Int) (v : LV) (N : Mem) : Prop := ∃ (cs : List Cell) (u : Nat), v = .agg [.I x, .I y, .I z, .ref u 0 cs.length] ∧ Live N u (.row (triL cs) true 3) ∧ M.length ≤ u ∧ cs.length ≤ 64 ∧ (Sides x y z → HeapOK x y z cs)
theorem d_someHeapK {x y z : Int} (h : CurAt M p t o bs a) (ha : a ≤ 999000) : CallsR PG F.spec_l1Cur_someHeap [.ptr p 0, .I x, .I y, .I z] M fun v N => HeapNK M x y z v N ∧ DrawN M p t o bs (a + 140) N := by
  obtain ⟨⟨_, _, _, hpl'⟩, hB, _⟩ := id h
  have hpl := hpl'.lt
  refine callsR_run K.spec_l1Cur_someHeap rfl ?_
  simp (disch := omega) only [C.spec_l1Cur_someHeap, ↓SXd, SXu, slBounds, ↓sop, ↓aop, ↓reduceIte, LV.cells, AOp.dst, LV.I, LV.B, LV.U, LV.S, LV.nil, Nat.reduceEqDiff, Nat.reduceAdd, Nat.reduceMul, Nat.reduceSub, Nat.reduceLeDiff, Nat.reduceBEq, Nat.reduceDiv, Nat.reduceMod, Int.reduceToNat, Int.reduceLT, Int.reduceLE, Int.reduceAdd, Int.reduceSub, Int.reduceMul, Int.reduceEq, Int.reduceNeg, reduceCtorEq, resV, resAll, ARes.ev, LV.flat, ite_true, ite_false, exists_eq_left', exists_eq_left, keyOf, implies_true, fillC, capOf]
  refine callK_of (h_l2Empty) ?_
  simp (disch := omega) only [↓SXd, SXu, slBounds, ↓sop, ↓aop, ↓reduceIte, LV.cells, AOp.dst, LV.I, LV.B, LV.U, LV.S, LV.nil, Nat.reduceEqDiff, Nat.reduceAdd, Nat.reduceMul, Nat.reduceSub, Nat.reduceLeDiff, Nat.reduceBEq, Nat.reduceDiv, Nat.reduceMod, Int.reduceToNat, Int.reduceLT, Int.reduceLE, Int.reduceAdd, Int.reduceSub, Int.reduceMul, Int.reduceEq, Int.reduceNeg, reduceCtorEq, resV, resAll, ARes.ev, LV.flat, ite_true, ite_false, exists_eq_left', exists_eq_left, keyOf, implies_true, fillC, capOf]
  have h1 : CurAt (M ++ [some (.row [.I 0, .I 0, .I 0, .nil] true 0), some (.row [] true 3)]) p t o bs a := h.pre (Pre.app _ _)
  have hL1 : Live (M ++ [some (.row [.I 0, .I 0, .I 0, .nil] true 0), some (.row [] true 3)]) (M.length + 1) (.row (triL []) true 3) := Live.newj rfl
  have hL0 : Live (M ++ [some (.row [.I 0, .I 0, .I 0, .nil] true 0), some (.row [] true 3)]) M.length (.row [.I 0, .I 0, .I 0, .nil] true 0) := Live.new
  have hpM : Pre M (M ++ [some (.row [.I 0, .I 0, .I 0, .nil] true 0), some (.row [] true 3)]) := Pre.app _ _
  have ham := d_amongNew (xs := [2, 3, 2, 4]) h1 (by omega) (by simp) (by simp)
  rw [List.append_assoc, List.length_append] at ham
  refine callR_of ham ?_
  rintro _ N1 ⟨⟨odds, rfl, _⟩, hd1⟩
  have htM := hB.lt
  have hN1 := hd1.2.1
  simp only [List.length_append, List.length_cons, List.length_nil] at hN1
  have b8 : Live N1 M.length (.row [.I 0, .I 0, .I 0, .nil] true 0) := Live.at hL0 (hd1.2.2 _ (by simp) (by omega))
  have bc : Live N1 (M.length + 1) (.row (triL []) true 3) := Live.at hL1 (hd1.2.2 _ (by simp) (by omega))
  have hD1 : DrawN M p t o bs (a + 2) N1 := DrawN.of_pre hpM hd1
  simp (disch := omega) only [splice, ↓SXd, SXu, slBounds, ↓sop, ↓aop, ↓reduceIte, LV.cells, AOp.dst, LV.I, LV.B, LV.U, LV.S, LV.nil, Nat.reduceEqDiff, Nat.reduceAdd, Nat.reduceMul, Nat.reduceSub, Nat.reduceLeDiff, Nat.reduceBEq, Nat.reduceDiv, Nat.reduceMod, Int.reduceToNat, Int.reduceLT, Int.reduceLE, Int.reduceAdd, Int.reduceSub, Int.reduceMul, Int.reduceEq, Int.reduceNeg, reduceCtorEq, resV, resAll, ARes.ev, LV.flat, ite_true, ite_false, exists_eq_left', exists_eq_left, keyOf, implies_true, fillC, capOf]
  refine callK_of (h_l2Sides) ?_
  simp (disch := omega) only [↓SXd, SXu, slBounds, ↓sop, ↓aop, ↓reduceIte, LV.cells, AOp.dst, LV.I, LV.B, LV.U, LV.S, LV.nil, Nat.reduceEqDiff, Nat.reduceAdd, Nat.reduceMul, Nat.reduceSub, Nat.reduceLeDiff, Nat.reduceBEq, Nat.reduceDiv, Nat.reduceMod, Int.reduceToNat, Int.reduceLT, Int.reduceLE, Int.reduceAdd, Int.reduceSub, Int.reduceMul, Int.reduceEq, Int.reduceNeg, reduceCtorEq, resV, resAll, ARes.ev, LV.flat, ite_true, ite_false, exists_eq_left', exists_eq_left, keyOf, implies_true, fillC, capOf]
  by_cases hS : Sides x y z
  · rw [decide_eq_true hS]
    have hcl : (cellsOf x y z).length = vol x y z := by simp [cellsOf]
    have hv := vol_cast hS
    simp (disch := omega) only [splice, ↓SXd, SXu, slBounds, ↓sop, ↓aop, ↓reduceIte, LV.cells, AOp.dst, LV.I, LV.B, LV.U, LV.S, LV.nil, Nat.reduceEqDiff, Nat.reduceAdd, Nat.reduceMul, Nat.reduceSub, Nat.reduceLeDiff, Nat.reduceBEq, Nat.reduceDiv, Nat.reduceMod, Int.reduceToNat, Int.reduceLT, Int.reduceLE, Int.reduceAdd, Int.reduceSub, Int.reduceMul, Int.reduceEq, Int.reduceNeg, reduceCtorEq, resV, resAll, ARes.ev, LV.flat, ite_true, ite_false, exists_eq_left', exists_eq_left, keyOf, implies_true, fillC, capOf]
    refine callK_of (h_l2All hS) ?_
    simp (disch := omega) only [↓SXd, SXu, slBounds, ↓sop, ↓aop, ↓reduceIte, LV.cells, AOp.dst, LV.I, LV.B, LV.U, LV.S, LV.nil, Nat.reduceEqDiff, Nat.reduceAdd, Nat.reduceMul, Nat.reduceSub, Nat.reduceLeDiff, Nat.reduceBEq, Nat.reduceDiv, Nat.reduceMod, Int.reduceToNat, Int.reduceLT, Int.reduceLE, Int.reduceAdd, Int.reduceSub, Int.reduceMul, Int.reduceEq, Int.reduceNeg, reduceCtorEq, resV, resAll, ARes.ev, LV.flat, ite_true, ite_false, exists_eq_left', exists_eq_left, keyOf, implies_true, fillC, capOf]
    refine ev_loop (fun m fr M' => ∃ (i u : Nat) (cs : List Cell), i + m = (cellsOf x y z).length ∧ DrawN M p t o bs (a + 2 + 2 * i) M' ∧ N1.length + 2 ≤ M'.length ∧ Live M' M.length (.row [.I 0, .I 0, .I 0, .nil] true 0) ∧ Live M' N1.length (.row [.I x, .I y, .I z, .ref u 0 cs.length] true 0) ∧ Live M' (N1.length + 1) (.row (triL (cellsOf x y z)) true 3) ∧ Live M' u (.row (triL cs) true 3) ∧
      (u = M.length + 1 ∨ N1.length + 2 ≤ u) ∧ cs.Sublist ((cellsOf x y z).take i) ∧
      fr 0 = .ptr p 0 ∧ fr 1 = .I x ∧ fr 2 = .I y ∧ fr 3 = .I z ∧ fr 8 = .ptr M.length 0 ∧ fr 9 = .ptr N1.length 0 ∧ fr 10 = .I odds ∧ fr 11 = .ref (N1.length + 1) 0 (cellsOf x y z).length ∧ fr 12 = .I i) (cellsOf x y z).length
      ⟨0, M.length + 1, [], by omega, hD1.keep hpl htM (by omega) (by simp) fun q q1 => List.getElem?_append_left (by omega), by simp, b8.app, Live.new, Live.newj rfl, bc.app, .inl rfl, by simp, rfl, rfl, rfl, rfl, rfl, rfl, rfl, rfl, rfl⟩ ?_
    rintro m fr M' ⟨i, u, cs, hi, hd, hMl, c8, c9, ca, cu, hu, hsub, f0, f1, f2, f3, f8, f9, f10, f11, f12⟩
    have hsl := hsub.length_le
    have htl := List.length_take_le i (cellsOf x y z)
    simp (disch := omega) only [f0, f1, f2, f3, f8, f9, f10, f11, f12, ↓SXd, SXu, slBounds, ↓sop, ↓aop, ↓reduceIte, LV.cells, AOp.dst, LV.I, LV.B, LV.U, LV.S, LV.nil, Nat.reduceEqDiff, Nat.reduceAdd, Nat.reduceMul, Nat.reduceSub, Nat.reduceLeDiff, Nat.reduceBEq, Nat.reduceDiv, Nat.reduceMod, Int.reduceToNat, Int.reduceLT, Int.reduceLE, Int.reduceAdd, Int.reduceSub, Int.reduceMul, Int.reduceEq, Int.reduceNeg, reduceCtorEq, resV, resAll, ARes.ev, LV.flat, ite_true, ite_false, exists_eq_left', exists_eq_left, keyOf, implies_true, fillC, capOf]
    refine condC_dec (fun hlt => ?_) (fun hlt => ?_)
    · have hil : i < (cellsOf x y z).length := by omega
      have hts := take_snoc' (d := default) hil
      simp (disch := omega) only [f0, f1, f2, f3, f8, f9, f10, f11, f12, ↓SXd, SXu, slBounds, ↓sop, ↓aop, ↓reduceIte, LV.cells, AOp.dst, LV.I, LV.B, LV.U, LV.S, LV.nil, Nat.reduceEqDiff, Nat.reduceAdd, Nat.reduceMul, Nat.reduceSub, Nat.reduceLeDiff, Nat.reduceBEq, Nat.reduceDiv, Nat.reduceMod, Int.reduceToNat, Int.reduceLT, Int.reduceLE, Int.reduceAdd, Int.reduceSub, Int.reduceMul, Int.reduceEq, Int.reduceNeg, reduceCtorEq, resV, resAll, ARes.ev, LV.flat, ite_true, ite_false, exists_eq_left', exists_eq_left, keyOf, implies_true, fillC, capOf]
      refine callR_of (d_one hd.1 (by omega)) ?_
      rintro _ N2 ⟨⟨b, rfl⟩, hd2⟩
      have k2 : ∀ q, M.length ≤ q → q < M'.length → N2[q]? = M'[q]? := fun q q1 q2 => hd2.2.2 q q2 (by omega)
      have hN2 := hd2.2.1
      have e8 := Live.at c8 (k2 _ (by omega) c8.lt)
      have e9 := Live.at c9 (k2 _ (by omega) c9.lt)
      have ea := Live.at ca (k2 _ (by omega) ca.lt)
      have eu := Live.at cu (k2 _ (by omega) cu.lt)
      have hDD := hd.trans hd2
      have hg2 := ea.tri0 hil
      generalize (cellsOf x y z).getD i default = c at hts hg2
      have e8l := e8.lt
      have e9l := e9.lt
      have eal := ea.lt
      cases b with
      | true =>
        simp (disch := omega) only [f0, f1, f2, f3, f8, f9, f10, f11, f12, e9.cell, hg2, Cell.row, Nat.zero_add, ↓SXd, SXu, slBounds, ↓sop, ↓aop, ↓reduceIte, LV.cells, AOp.dst, LV.I, LV.B, LV.U, LV.S, LV.nil, Nat.reduceEqDiff, Nat.reduceAdd, Nat.reduceMul, Nat.reduceSub, Nat.reduceLeDiff, Nat.reduceBEq, Nat.reduceDiv, Nat.reduceMod, Int.reduceToNat, Int.reduceLT, Int.reduceLE, Int.reduceAdd, Int.reduceSub, Int.reduceMul, Int.reduceEq, Int.reduceNeg, reduceCtorEq, resV, resAll, ARes.ev, LV.flat, ite_true, ite_false, exists_eq_left', exists_eq_left, keyOf, implies_true, fillC, capOf]
        refine appendK_cell eu (by omega) fun N' l1 l2 l3 => ?_
        have d9 := live_step e9 (by omega) l3
        simp (disch := omega) only [f0, f1, f2, f3, f8, f9, f10, f11, f12, ↓SXd, SXu, slBounds, ↓sop, ↓aop, ↓reduceIte, LV.cells, AOp.dst, LV.I, LV.B, LV.U, LV.S, LV.nil, Nat.reduceEqDiff, Nat.reduceAdd, Nat.reduceMul, Nat.reduceSub, Nat.reduceLeDiff, Nat.reduceBEq, Nat.reduceDiv, Nat.reduceMod, Int.reduceToNat, Int.reduceLT, Int.reduceLE, Int.reduceAdd, Int.reduceSub, Int.reduceMul, Int.reduceEq, Int.reduceNeg, reduceCtorEq, resV, resAll, ARes.ev, LV.flat, ite_true, ite_false, exists_eq_left', exists_eq_left, keyOf, implies_true, fillC, capOf]
        refine memK_one d9 (by simp) fun N3 j1 j2 j3 => ?_
        simp (disch := omega) only [f0, f1, f2, f3, f8, f9, f10, f11, f12, ↓SXd, SXu, slBounds, ↓sop, ↓aop, ↓reduceIte, LV.cells, AOp.dst, LV.I, LV.B, LV.U, LV.S, LV.nil, Nat.reduceEqDiff, Nat.reduceAdd, Nat.reduceMul, Nat.reduceSub, Nat.reduceLeDiff, Nat.reduceBEq, Nat.reduceDiv, Nat.reduceMod, Int.reduceToNat, Int.reduceLT, Int.reduceLE, Int.reduceAdd, Int.reduceSub, Int.reduceMul, Int.reduceEq, Int.reduceNeg, reduceCtorEq, resV, resAll, ARes.ev, LV.flat, ite_true, ite_false, exists_eq_left', exists_eq_left, keyOf, implies_true, fillC, capOf]
        rw [cell_eta] at l2 j2
        exact ⟨m - 1, by omega, i + 1, N2.length + 1, cs ++ [c], by omega, hDD.keep hpl htM (by omega) (by omega) fun q q1 => by rw [j3 q (by omega) (by omega), l3 q (by omega) (by omega)], by omega, live_step (live_step e8 (by omega) l3) (by omega) j3, j2, live_step (live_step ea (by omega) l3) (by omega) j3, live_step l2 (by omega) j3, by omega, by rw [hts]; exact hsub.append (List.Sublist.refl _), f0, f1, f2, f3, f8, f9, f10, f11, eqI (natI _)⟩
      | false =>
        simp (disch := omega) only [f0, f1, f2, f3, f8, f9, f10, f11, f12, ↓SXd, SXu, slBounds, ↓sop, ↓aop, ↓reduceIte, LV.cells, AOp.dst, LV.I, LV.B, LV.U, LV.S, LV.nil, Nat.reduceEqDiff, Nat.reduceAdd, Nat.reduceMul, Nat.reduceSub, Nat.reduceLeDiff, Nat.reduceBEq, Nat.reduceDiv, Nat.reduceMod, Int.reduceToNat, Int.reduceLT, Int.reduceLE, Int.reduceAdd, Int.reduceSub, Int.reduceMul, Int.reduceEq, Int.reduceNeg, reduceCtorEq, resV, resAll, ARes.ev, LV.flat, ite_true, ite_false, exists_eq_left', exists_eq_left, keyOf, implies_true, fillC, capOf]
        exact ⟨m - 1, by omega, i + 1, u, cs, by omega, hDD.up (by omega), by omega, e8, e9, ea, eu, hu, by rw [hts]; exact hsub.trans (List.sublist_append_left _ _), f0, f1, f2, f3, f8, f9, f10, f11, eqI (natI _)⟩
    · have hil : i = (cellsOf x y z).length := by omega
      subst hil
      rw [List.take_length] at hsub
      have hH := sub_heap hS hsub
      simp (disch := omega) only [f0, f1, f2, f3, f8, f9, f10, f11, f12, ↓SXd, SXu, slBounds, ↓sop, ↓aop, ↓reduceIte, LV.cells, AOp.dst, LV.I, LV.B, LV.U, LV.S, LV.nil, Nat.reduceEqDiff, Nat.reduceAdd, Nat.reduceMul, Nat.reduceSub, Nat.reduceLeDiff, Nat.reduceBEq, Nat.reduceDiv, Nat.reduceMod, Int.reduceToNat, Int.reduceLT, Int.reduceLE, Int.reduceAdd, Int.reduceSub, Int.reduceMul, Int.reduceEq, Int.reduceNeg, reduceCtorEq, resV, resAll, ARes.ev, LV.flat, ite_true, ite_false, exists_eq_left', exists_eq_left, keyOf, implies_true, fillC, capOf]
      refine callR_of (d_pick hd.1 (by omega)) ?_
      rintro _ N2 ⟨⟨b, rfl, _⟩, hd2⟩
      have k2 : ∀ q, M.length ≤ q → q < M'.length → N2[q]? = M'[q]? := fun q q1 q2 => hd2.2.2 q q2 (by omega)
      have hN2 := hd2.2.1
      have e8 := Live.at c8 (k2 _ (by omega) c8.lt)
      have e9 := Live.at c9 (k2 _ (by omega) c9.lt)
      have eu := Live.at cu (k2 _ (by omega) cu.lt)
      have hDD := hd.trans hd2
      have hfin : ∀ {N3 : Mem} {u3 : Nat} {cs3 : List Cell}, Pre N2 N3 → Live N3 u3 (.row (triL cs3) true 3) → cs3.length ≤ 64 → HeapOK x y z cs3 → M.length ≤ u3 → u3 ≠ M.length → u3 ≠ N1.length → ∀ {N4 N5 : Mem}, N4.length = N3.length → (∀ q, q ≠ N1.length → q < N3.length → N4[q]? = N3[q]?) → N5.length = N4.length → (∀ q, q ≠ M.length → q < N4.length → N5[q]? = N4[q]?) → HeapNK M x y z (.agg [.I x, .I y, .I z, .ref u3 0 cs3.length]) N5 ∧ DrawN M p t o bs (a + 140) N5 := fun {N3 u3 cs3} hp3 hl3 hc3 hHK h1 h2 h3 {N4 N5} a1 a2 a3 a4 => by
        have hl := hp3.1
        have hul := hl3.lt
        exact ⟨⟨cs3, u3, rfl, live_step (live_step hl3 h3 a2) h2 a4, h1, hc3, fun _ => hHK⟩, hDD.keep hpl htM (by omega) (by omega) fun q q1 => by rw [a4 q (by omega) (by omega), a2 q (by omega) (by omega)]; exact hp3.2 q (by omega)⟩
      by_cases b0 : (b : Int) = 0
      · simp (disch := omega) only [b0, f0, f1, f2, f3, f8, f9, f10, f11, f12, e9.cells, ↓SXd, SXu, slBounds, ↓sop, ↓aop, ↓reduceIte, LV.cells, AOp.dst, LV.I, LV.B, LV.U, LV.S, LV.nil, Nat.reduceEqDiff, Nat.reduceAdd, Nat.reduceMul, Nat.reduceSub, Nat.reduceLeDiff, Nat.reduceBEq, Nat.reduceDiv, Nat.reduceMod, Int.reduceToNat, Int.reduceLT, Int.reduceLE, Int.reduceAdd, Int.reduceSub, Int.reduceMul, Int.reduceEq, Int.reduceNeg, reduceCtorEq, resV, resAll, ARes.ev, LV.flat, ite_true, ite_false, exists_eq_left', exists_eq_left, keyOf, implies_true, fillC, capOf]
        refine callR_of (h_OtherCells eu.has (by omega)) ?_
        rintro _ N3 ⟨h1, _, hp3⟩
        obtain ⟨u3, rfl, hl3, hu3⟩ := h1 hH
        have hl := hp3.1
        simp (disch := omega) only [f0, f1, f2, f3, f8, f9, f10, f11, f12, ↓SXd, SXu, slBounds, ↓sop, ↓aop, ↓reduceIte, LV.cells, AOp.dst, LV.I, LV.B, LV.U, LV.S, LV.nil, Nat.reduceEqDiff, Nat.reduceAdd, Nat.reduceMul, Nat.reduceSub, Nat.reduceLeDiff, Nat.reduceBEq, Nat.reduceDiv, Nat.reduceMod, Int.reduceToNat, Int.reduceLT, Int.reduceLE, Int.reduceAdd, Int.reduceSub, Int.reduceMul, Int.reduceEq, Int.reduceNeg, reduceCtorEq, resV, resAll, ARes.ev, LV.flat, ite_true, ite_false, exists_eq_left', exists_eq_left, keyOf, implies_true, fillC, capOf]
        refine memK_box (e9.pre hp3) (by simp) fun N4 j1 j2 j3 => ?_
        simp (disch := omega) only [f0, f1, f2, f3, f8, f9, f10, f11, f12, j2.cells, ↓SXd, SXu, slBounds, ↓sop, ↓aop, ↓reduceIte, LV.cells, AOp.dst, LV.I, LV.B, LV.U, LV.S, LV.nil, Nat.reduceEqDiff, Nat.reduceAdd, Nat.reduceMul, Nat.reduceSub, Nat.reduceLeDiff, Nat.reduceBEq, Nat.reduceDiv, Nat.reduceMod, Int.reduceToNat, Int.reduceLT, Int.reduceLE, Int.reduceAdd, Int.reduceSub, Int.reduceMul, Int.reduceEq, Int.reduceNeg, reduceCtorEq, resV, resAll, ARes.ev, LV.flat, ite_true, ite_false, exists_eq_left', exists_eq_left, keyOf, implies_true, fillC, capOf]
        refine memK_box (live_step (e8.pre hp3) (by omega) j3) (by simp) fun N5 i1 i2 i3 => ?_
        simp (disch := omega) only [f0, f1, f2, f3, f8, f9, f10, f11, f12, i2.cells, ↓SXd, SXu, slBounds, ↓sop, ↓aop, ↓reduceIte, LV.cells, AOp.dst, LV.I, LV.B, LV.U, LV.S, LV.nil, Nat.reduceEqDiff, Nat.reduceAdd, Nat.reduceMul, Nat.reduceSub, Nat.reduceLeDiff, Nat.reduceBEq, Nat.reduceDiv, Nat.reduceMod, Int.reduceToNat, Int.reduceLT, Int.reduceLE, Int.reduceAdd, Int.reduceSub, Int.reduceMul, Int.reduceEq, Int.reduceNeg, reduceCtorEq, resV, resAll, ARes.ev, LV.flat, ite_true, ite_false, exists_eq_left', exists_eq_left, keyOf, implies_true, fillC, capOf]
        exact hfin hp3 hl3 (pick_len hS _) (pick_ok hS _) (by omega) (by omega) (by omega) j1 j3 i1 i3
      by_cases b1 : (b : Int) = 1
      · simp (disch := omega) only [b1, f0, f1, f2, f3, f8, f9, f10, f11, f12, e9.cells, ↓SXd, SXu, slBounds, ↓sop, ↓aop, ↓reduceIte, LV.cells, AOp.dst, LV.I, LV.B, LV.U, LV.S, LV.nil, Nat.reduceEqDiff, Nat.reduceAdd, Nat.reduceMul, Nat.reduceSub, Nat.reduceLeDiff, Nat.reduceBEq, Nat.reduceDiv, Nat.reduceMod, Int.reduceToNat, Int.reduceLT, Int.reduceLE, Int.reduceAdd, Int.reduceSub, Int.reduceMul, Int.reduceEq, Int.reduceNeg, reduceCtorEq, resV, resAll, ARes.ev, LV.flat, ite_true, ite_false, exists_eq_left', exists_eq_left, keyOf, implies_true, fillC, capOf]
        refine callN_of (h_l2Heights eu.has hH) ?_
        intro w N3 hw hp3 hl3
        have hl := hp3.1
        simp (disch := omega) only [f0, f1, f2, f3, f8, f9, f10, f11, f12, ↓SXd, SXu, slBounds, ↓sop, ↓aop, ↓reduceIte, LV.cells, AOp.dst, LV.I, LV.B, LV.U, LV.S, LV.nil, Nat.reduceEqDiff, Nat.reduceAdd, Nat.reduceMul, Nat.reduceSub, Nat.reduceLeDiff, Nat.reduceBEq, Nat.reduceDiv, Nat.reduceMod, Int.reduceToNat, Int.reduceLT, Int.reduceLE, Int.reduceAdd, Int.reduceSub, Int.reduceMul, Int.reduceEq, Int.reduceNeg, reduceCtorEq, resV, resAll, ARes.ev, LV.flat, ite_true, ite_false, exists_eq_left', exists_eq_left, keyOf, implies_true, fillC, capOf]
        refine callR_of (h_l2Stack hS hl3.has (by
          rw [viewL_len]
          have := prod_le hS
          have e : linesOf x y z 2 = x * y := rfl
          omega)) ?_
        rintro _ N4 ⟨u4, rfl, hl4, hu4, hp4⟩
        have hp34 := hp3.trans hp4
        have hll := hp4.1
        simp (disch := omega) only [f0, f1, f2, f3, f8, f9, f10, f11, f12, ↓SXd, SXu, slBounds, ↓sop, ↓aop, ↓reduceIte, LV.cells, AOp.dst, LV.I, LV.B, LV.U, LV.S, LV.nil, Nat.reduceEqDiff, Nat.reduceAdd, Nat.reduceMul, Nat.reduceSub, Nat.reduceLeDiff, Nat.reduceBEq, Nat.reduceDiv, Nat.reduceMod, Int.reduceToNat, Int.reduceLT, Int.reduceLE, Int.reduceAdd, Int.reduceSub, Int.reduceMul, Int.reduceEq, Int.reduceNeg, reduceCtorEq, resV, resAll, ARes.ev, LV.flat, ite_true, ite_false, exists_eq_left', exists_eq_left, keyOf, implies_true, fillC, capOf]
        refine memK_box (e9.pre hp34) (by simp) fun N5 j1 j2 j3 => ?_
        simp (disch := omega) only [f0, f1, f2, f3, f8, f9, f10, f11, f12, j2.cells, ↓SXd, SXu, slBounds, ↓sop, ↓aop, ↓reduceIte, LV.cells, AOp.dst, LV.I, LV.B, LV.U, LV.S, LV.nil, Nat.reduceEqDiff, Nat.reduceAdd, Nat.reduceMul, Nat.reduceSub, Nat.reduceLeDiff, Nat.reduceBEq, Nat.reduceDiv, Nat.reduceMod, Int.reduceToNat, Int.reduceLT, Int.reduceLE, Int.reduceAdd, Int.reduceSub, Int.reduceMul, Int.reduceEq, Int.reduceNeg, reduceCtorEq, resV, resAll, ARes.ev, LV.flat, ite_true, ite_false, exists_eq_left', exists_eq_left, keyOf, implies_true, fillC, capOf]
        refine memK_box (live_step (e8.pre hp34) (by omega) j3) (by simp) fun N6 i1 i2 i3 => ?_
        simp (disch := omega) only [f0, f1, f2, f3, f8, f9, f10, f11, f12, i2.cells, ↓SXd, SXu, slBounds, ↓sop, ↓aop, ↓reduceIte, LV.cells, AOp.dst, LV.I, LV.B, LV.U, LV.S, LV.nil, Nat.reduceEqDiff, Nat.reduceAdd, Nat.reduceMul, Nat.reduceSub, Nat.reduceLeDiff, Nat.reduceBEq, Nat.reduceDiv, Nat.reduceMod, Int.reduceToNat, Int.reduceLT, Int.reduceLE, Int.reduceAdd, Int.reduceSub, Int.reduceMul, Int.reduceEq, Int.reduceNeg, reduceCtorEq, resV, resAll, ARes.ev, LV.flat, ite_true, ite_false, exists_eq_left', exists_eq_left, keyOf, implies_true, fillC, capOf]
        exact hfin hp34 hl4 (pick_len hS _) (pick_ok hS _) (by omega) (by omega) (by omega) j1 j3 i1 i3
      · simp (disch := omega) only [b0, b1, f0, f1, f2, f3, f8, f9, f10, f11, f12, e9.cells, ↓SXd, SXu, slBounds, ↓sop, ↓aop, ↓reduceIte, LV.cells, AOp.dst, LV.I, LV.B, LV.U, LV.S, LV.nil, Nat.reduceEqDiff, Nat.reduceAdd, Nat.reduceMul, Nat.reduceSub, Nat.reduceLeDiff, Nat.reduceBEq, Nat.reduceDiv, Nat.reduceMod, Int.reduceToNat, Int.reduceLT, Int.reduceLE, Int.reduceAdd, Int.reduceSub, Int.reduceMul, Int.reduceEq, Int.reduceNeg, reduceCtorEq, resV, resAll, ARes.ev, LV.flat, ite_true, ite_false, exists_eq_left', exists_eq_left, keyOf, implies_true, fillC, capOf]
        refine memK_box e8 (by simp) fun N5 i1 i2 i3 => ?_
        simp (disch := omega) only [f0, f1, f2, f3, f8, f9, f10, f11, f12, i2.cells, ↓SXd, SXu, slBounds, ↓sop, ↓aop, ↓reduceIte, LV.cells, AOp.dst, LV.I, LV.B, LV.U, LV.S, LV.nil, Nat.reduceEqDiff, Nat.reduceAdd, Nat.reduceMul, Nat.reduceSub, Nat.reduceLeDiff, Nat.reduceBEq, Nat.reduceDiv, Nat.reduceMod, Int.reduceToNat, Int.reduceLT, Int.reduceLE, Int.reduceAdd, Int.reduceSub, Int.reduceMul, Int.reduceEq, Int.reduceNeg, reduceCtorEq, resV, resAll, ARes.ev, LV.flat, ite_true, ite_false, exists_eq_left', exists_eq_left, keyOf, implies_true, fillC, capOf]
        exact hfin (Pre.refl _) eu (by omega) hH (by omega) (by omega) (by omega) rfl (fun _ _ _ => rfl) i1 i3
  · rw [decide_eq_false hS]
    simp (disch := omega) only [splice, ↓SXd, SXu, slBounds, ↓sop, ↓aop, ↓reduceIte, LV.cells, AOp.dst, LV.I, LV.B, LV.U, LV.S, LV.nil, Nat.reduceEqDiff, Nat.reduceAdd, Nat.reduceMul, Nat.reduceSub, Nat.reduceLeDiff, Nat.reduceBEq, Nat.reduceDiv, Nat.reduceMod, Int.reduceToNat, Int.reduceLT, Int.reduceLE, Int.reduceAdd, Int.reduceSub, Int.reduceMul, Int.reduceEq, Int.reduceNeg, reduceCtorEq, resV, resAll, ARes.ev, LV.flat, ite_true, ite_false, exists_eq_left', exists_eq_left, keyOf, implies_true, fillC, capOf]
    refine memK_box b8.app (by simp) fun N3 j1 j2 j3 => ?_
    simp (disch := omega) only [j2.cells, ↓SXd, SXu, slBounds, ↓sop, ↓aop, ↓reduceIte, LV.cells, AOp.dst, LV.I, LV.B, LV.U, LV.S, LV.nil, Nat.reduceEqDiff, Nat.reduceAdd, Nat.reduceMul, Nat.reduceSub, Nat.reduceLeDiff, Nat.reduceBEq, Nat.reduceDiv, Nat.reduceMod, Int.reduceToNat, Int.reduceLT, Int.reduceLE, Int.reduceAdd, Int.reduceSub, Int.reduceMul, Int.reduceEq, Int.reduceNeg, reduceCtorEq, resV, resAll, ARes.ev, LV.flat, ite_true, ite_false, exists_eq_left', exists_eq_left, keyOf, implies_true, fillC, capOf]
    refine ⟨⟨[], M.length + 1, rfl, live_step bc.app (by omega) j3, by omega, by simp, fun h => absurd h hS⟩, hD1.keep hpl htM (by omega) (by rw [j1]; simp) fun q q1 => by rw [j3 q (by omega) (by simp; omega), List.getElem?_append_left (by omega)]⟩
theorem d_someHeap {x y z : Int} (h : CurAt M p t o bs a) (ha : a ≤ 999000) : CallsR PG F.spec_l1Cur_someHeap [.ptr p 0, .I x, .I y, .I z] M fun v N => HeapN M x y z v N ∧ DrawN M p t o bs (a + 140) N :=
  (d_someHeapK h ha).mono fun v N hv => by
    obtain ⟨⟨cs, u, h1, h2, h3, h4, _⟩, hd⟩ := hv
    exact ⟨⟨cs, u, h1, h2, h3, h4⟩, hd⟩
end
end Go.Ab

/- Contracts: the heap that a law draws from its bytes. -/
namespace Go.Ab
open Go
set_option linter.unusedSimpArgs false
set_option linter.unusedVariables false
set_option maxRecDepth 20000

/-- A new reader. -/
theorem CurAt.new {t o : Nat} {bs : List Nat} {M : Mem} (hB : Bytes M t o bs) (h255 : ∀ b ∈ bs, b ≤ 255) (hl : bs.length ≤ 1000000000) : CurAt (M ++ [some (.row [.ref t o bs.length, .I 0, .val (.int .u64 0)] true 0)]) M.length t o bs 0 := by
  have ht := hB.lt
  exact ⟨⟨0, 0, Nat.le_refl _, Live.new⟩, Has.app hB, by omega, h255, hl⟩
/-- A heap, valid or not, all of whose cells are new. -/
def HeapD (M : Mem) (v : LV) (N : Mem) : Prop := ∃ (x y z : Int) (w : LV) (cs : List Cell), v = .agg [.I x, .I y, .I z, w] ∧ ((w = .nil ∧ cs = []) ∨ ∃ u, w = .ref u 0 cs.length ∧ Live N u (.row (triL cs) true 3)) ∧ Newer M w ∧ cs.length ≤ 65
theorem d_heap {p t o a : Nat} {bs : List Nat} {M : Mem} (h : CurAt M p t o bs a) (ha : a ≤ 990000) : CallsR PG F.spec_l1Cur_heap [.ptr p 0] M fun v N => HeapD M v N ∧ DrawN M p t o bs (a + 160) N := by
  obtain ⟨⟨_, _, _, hpl'⟩, hB, _⟩ := id h
  have hpl := hpl'.lt
  have htM := hB.lt
  refine callsR_run K.spec_l1Cur_heap rfl ?_
  simp (disch := omega) only [C.spec_l1Cur_heap, ↓SXd, SXu, slBounds, ↓sop, ↓aop, ↓reduceIte, LV.cells, AOp.dst, LV.I, LV.B, LV.U, LV.S, LV.nil, Nat.reduceEqDiff, Nat.reduceAdd, Nat.reduceMul, Nat.reduceSub, Nat.reduceLeDiff, Nat.reduceBEq, Nat.reduceDiv, Nat.reduceMod, Int.reduceToNat, Int.reduceLT, Int.reduceLE, Int.reduceAdd, Int.reduceSub, Int.reduceMul, Int.reduceEq, Int.reduceNeg, reduceCtorEq, resV, resAll, ARes.ev, LV.flat, ite_true, ite_false, exists_eq_left', exists_eq_left, keyOf, implies_true, fillC, capOf]
  have h0 : CurAt (M ++ [some (.row [.I 0, .I 0, .I 0, .val (.slice none 0 0)] true 0)]) p t o bs a := h.pre (Pre.app _ _)
  refine callR_of (d_sides h0 (by omega)) ?_
  rintro _ N1 ⟨⟨x, y, z, rfl⟩, hd1⟩
  have hN1 := hd1.2.1
  rw [List.length_append, List.length_singleton] at hN1
  have b2 : Live N1 M.length (.row [.I 0, .I 0, .I 0, .val (.slice none 0 0)] true 0) := Live.at Live.new (hd1.2.2 _ (by simp) (by omega))
  have hD1 := DrawN.of_pre (Pre.app _ _) hd1
  simp (disch := omega) only [↓SXd, SXu, slBounds, ↓sop, ↓aop, ↓reduceIte, LV.cells, AOp.dst, LV.I, LV.B, LV.U, LV.S, LV.nil, Nat.reduceEqDiff, Nat.reduceAdd, Nat.reduceMul, Nat.reduceSub, Nat.reduceLeDiff, Nat.reduceBEq, Nat.reduceDiv, Nat.reduceMod, Int.reduceToNat, Int.reduceLT, Int.reduceLE, Int.reduceAdd, Int.reduceSub, Int.reduceMul, Int.reduceEq, Int.reduceNeg, reduceCtorEq, resV, resAll, ARes.ev, LV.flat, ite_true, ite_false, exists_eq_left', exists_eq_left, keyOf, implies_true, fillC, capOf]
  refine callR_of (d_someHeap hd1.1 (by omega)) ?_
  rintro _ N2 ⟨⟨cs, u, rfl, hu, hul, hcl⟩, hd2⟩
  have hN2 := hd2.2.1
  have c2 := Live.at b2 (hd2.2.2 _ b2.lt (by omega))
  have hD2 := hD1.trans hd2
  have hull := hu.lt
  simp (disch := omega) only [splice, ↓SXd, SXu, slBounds, ↓sop, ↓aop, ↓reduceIte, LV.cells, AOp.dst, LV.I, LV.B, LV.U, LV.S, LV.nil, Nat.reduceEqDiff, Nat.reduceAdd, Nat.reduceMul, Nat.reduceSub, Nat.reduceLeDiff, Nat.reduceBEq, Nat.reduceDiv, Nat.reduceMod, Int.reduceToNat, Int.reduceLT, Int.reduceLE, Int.reduceAdd, Int.reduceSub, Int.reduceMul, Int.reduceEq, Int.reduceNeg, reduceCtorEq, resV, resAll, ARes.ev, LV.flat, ite_true, ite_false, exists_eq_left', exists_eq_left, keyOf, implies_true, fillC, capOf]
  have hu3 : Live (N2 ++ [some (.row [.I x, .I y, .I z, .ref u 0 cs.length] true 0)]) u (.row (triL cs) true 3) := hu.app
  have c3 : Live (N2 ++ [some (.row [.I x, .I y, .I z, .ref u 0 cs.length] true 0)]) M.length (.row [.I 0, .I 0, .I 0, .val (.slice none 0 0)] true 0) := c2.app
  have c6 : Live (N2 ++ [some (.row [.I x, .I y, .I z, .ref u 0 cs.length] true 0)]) N2.length (.row [.I x, .I y, .I z, .ref u 0 cs.length] true 0) := Live.new
  have hD3 : DrawN M p t o bs (a + 150) (N2 ++ [some (.row [.I x, .I y, .I z, .ref u 0 cs.length] true 0)]) := hD2.keep hpl htM (by omega) (by simp) fun q q1 => List.getElem?_append_left (by omega)
  have hl3 : (N2 ++ [some (Blk.row [.I x, .I y, .I z, .ref u 0 cs.length] true 0)]).length = N2.length + 1 := by simp
  generalize N2 ++ [some (Blk.row [.I x, .I y, .I z, .ref u 0 cs.length] true 0)] = N3 at hu3 c3 c6 hD3 hl3 ⊢
  refine callR_of (d_pick hD3.1 (by omega)) ?_
  rintro _ N4 ⟨⟨b, rfl, _⟩, hd4⟩
  have hN4 := hd4.2.1
  have k4 : ∀ q, M.length ≤ q → q < N3.length → N4[q]? = N3[q]? := fun q q1 q2 => hd4.2.2 q q2 (by omega)
  have u4 := Live.at hu3 (k4 _ (by omega) hu3.lt)
  have e2 := Live.at c3 (k4 _ (by omega) c3.lt)
  have e6 := Live.at c6 (k4 _ (by omega) c6.lt)
  have e2l := e2.lt
  have e6l := e6.lt
  have u4l := u4.lt
  have hD4 := hD3.trans hd4
  have hfin : ∀ {cs5 : List Cell} {u5 : Nat} {N5 N6 : Mem}, Live N5 u5 (.row (triL cs5) true 3) → cs5.length ≤ 65 → N1.length ≤ u5 → DrawN M p t o bs (a + 160) N5 → N6.length = N5.length → (∀ q, q ≠ M.length → q < N5.length → N6[q]? = N5[q]?) → HeapD M (.agg [.I x, .I y, .I z, .ref u5 0 cs5.length]) N6 ∧ DrawN M p t o bs (a + 160) N6 := fun {cs5 u5 N5 N6} h1 h2 h3 h4 a1 a2 =>
    ⟨⟨x, y, z, _, cs5, rfl, .inr ⟨u5, rfl, live_step h1 (by omega) a2⟩, Newer.of (by omega), h2⟩, h4.keep hpl htM (Nat.le_refl _) (by omega) fun q q1 => a2 q (by omega) (by have := h4.2.1; omega)⟩
  have happ : ∀ {c : Cell} {N5 N6 : Mem}, N5.length = N4.length + 2 → Live N5 (N4.length + 1) (.row (triL (cs ++ [c])) true 3) → (∀ q, q ≠ u → q < N4.length → N5[q]? = N4[q]?) → N6.length = N5.length → (∀ q, q ≠ N2.length → q < N5.length → N6[q]? = N5[q]?) → Live N6 (N4.length + 1) (.row (triL (cs ++ [c])) true 3) ∧ Live N6 M.length (.row [.I 0, .I 0, .I 0, .val (.slice none 0 0)] true 0) ∧ DrawN M p t o bs (a + 160) N6 := fun {c N5 N6} a1 a2 a3 a4 a5 =>
    ⟨live_step a2 (by omega) a5, live_step (live_step e2 (by omega) a3) (by omega) a5, hD4.keep hpl htM (by omega) (by omega) fun q q1 => by rw [a5 q (by omega) (by omega), a3 q (by omega) (by omega)]⟩
  by_cases b0 : (b : Int) = 0
  · simp (disch := omega) only [b0, e6.cell, splice, ↓SXd, SXu, slBounds, ↓sop, ↓aop, ↓reduceIte, LV.cells, AOp.dst, LV.I, LV.B, LV.U, LV.S, LV.nil, Nat.reduceEqDiff, Nat.reduceAdd, Nat.reduceMul, Nat.reduceSub, Nat.reduceLeDiff, Nat.reduceBEq, Nat.reduceDiv, Nat.reduceMod, Int.reduceToNat, Int.reduceLT, Int.reduceLE, Int.reduceAdd, Int.reduceSub, Int.reduceMul, Int.reduceEq, Int.reduceNeg, reduceCtorEq, resV, resAll, ARes.ev, LV.flat, ite_true, ite_false, exists_eq_left', exists_eq_left, keyOf, implies_true, fillC, capOf]
    refine appendK_cell u4 (by omega) fun N5 l1 l2 l3 => ?_
    simp (disch := omega) only [↓SXd, SXu, slBounds, ↓sop, ↓aop, ↓reduceIte, LV.cells, AOp.dst, LV.I, LV.B, LV.U, LV.S, LV.nil, Nat.reduceEqDiff, Nat.reduceAdd, Nat.reduceMul, Nat.reduceSub, Nat.reduceLeDiff, Nat.reduceBEq, Nat.reduceDiv, Nat.reduceMod, Int.reduceToNat, Int.reduceLT, Int.reduceLE, Int.reduceAdd, Int.reduceSub, Int.reduceMul, Int.reduceEq, Int.reduceNeg, reduceCtorEq, resV, resAll, ARes.ev, LV.flat, ite_true, ite_false, exists_eq_left', exists_eq_left, keyOf, implies_true, fillC, capOf]
    refine memK_one (live_step e6 (by omega) l3) (by simp) fun N6 j1 j2 j3 => ?_
    obtain ⟨g1, g2, g3⟩ := happ l1 l2 l3 j1 j3
    simp (disch := omega) only [j2.cells, ↓SXd, SXu, slBounds, ↓sop, ↓aop, ↓reduceIte, LV.cells, AOp.dst, LV.I, LV.B, LV.U, LV.S, LV.nil, Nat.reduceEqDiff, Nat.reduceAdd, Nat.reduceMul, Nat.reduceSub, Nat.reduceLeDiff, Nat.reduceBEq, Nat.reduceDiv, Nat.reduceMod, Int.reduceToNat, Int.reduceLT, Int.reduceLE, Int.reduceAdd, Int.reduceSub, Int.reduceMul, Int.reduceEq, Int.reduceNeg, reduceCtorEq, resV, resAll, ARes.ev, LV.flat, ite_true, ite_false, exists_eq_left', exists_eq_left, keyOf, implies_true, fillC, capOf]
    refine memK_box g2 (by simp) fun N7 i1 i2 i3 => ?_
    simp (disch := omega) only [i2.cells, ↓SXd, SXu, slBounds, ↓sop, ↓aop, ↓reduceIte, LV.cells, AOp.dst, LV.I, LV.B, LV.U, LV.S, LV.nil, Nat.reduceEqDiff, Nat.reduceAdd, Nat.reduceMul, Nat.reduceSub, Nat.reduceLeDiff, Nat.reduceBEq, Nat.reduceDiv, Nat.reduceMod, Int.reduceToNat, Int.reduceLT, Int.reduceLE, Int.reduceAdd, Int.reduceSub, Int.reduceMul, Int.reduceEq, Int.reduceNeg, reduceCtorEq, resV, resAll, ARes.ev, LV.flat, ite_true, ite_false, exists_eq_left', exists_eq_left, keyOf, implies_true, fillC, capOf]
    exact hfin g1 (by simp; omega) (by omega) g3 i1 i3
  by_cases b1 : (b : Int) = 1
  · simp (disch := omega) only [b1, e6.cell, splice, ↓SXd, SXu, slBounds, ↓sop, ↓aop, ↓reduceIte, LV.cells, AOp.dst, LV.I, LV.B, LV.U, LV.S, LV.nil, Nat.reduceEqDiff, Nat.reduceAdd, Nat.reduceMul, Nat.reduceSub, Nat.reduceLeDiff, Nat.reduceBEq, Nat.reduceDiv, Nat.reduceMod, Int.reduceToNat, Int.reduceLT, Int.reduceLE, Int.reduceAdd, Int.reduceSub, Int.reduceMul, Int.reduceEq, Int.reduceNeg, reduceCtorEq, resV, resAll, ARes.ev, LV.flat, ite_true, ite_false, exists_eq_left', exists_eq_left, keyOf, implies_true, fillC, capOf]
    refine appendK_cell u4 (by omega) fun N5 l1 l2 l3 => ?_
    simp (disch := omega) only [↓SXd, SXu, slBounds, ↓sop, ↓aop, ↓reduceIte, LV.cells, AOp.dst, LV.I, LV.B, LV.U, LV.S, LV.nil, Nat.reduceEqDiff, Nat.reduceAdd, Nat.reduceMul, Nat.reduceSub, Nat.reduceLeDiff, Nat.reduceBEq, Nat.reduceDiv, Nat.reduceMod, Int.reduceToNat, Int.reduceLT, Int.reduceLE, Int.reduceAdd, Int.reduceSub, Int.reduceMul, Int.reduceEq, Int.reduceNeg, reduceCtorEq, resV, resAll, ARes.ev, LV.flat, ite_true, ite_false, exists_eq_left', exists_eq_left, keyOf, implies_true, fillC, capOf]
    refine memK_one (live_step e6 (by omega) l3) (by simp) fun N6 j1 j2 j3 => ?_
    obtain ⟨g1, g2, g3⟩ := happ l1 l2 l3 j1 j3
    simp (disch := omega) only [j2.cells, ↓SXd, SXu, slBounds, ↓sop, ↓aop, ↓reduceIte, LV.cells, AOp.dst, LV.I, LV.B, LV.U, LV.S, LV.nil, Nat.reduceEqDiff, Nat.reduceAdd, Nat.reduceMul, Nat.reduceSub, Nat.reduceLeDiff, Nat.reduceBEq, Nat.reduceDiv, Nat.reduceMod, Int.reduceToNat, Int.reduceLT, Int.reduceLE, Int.reduceAdd, Int.reduceSub, Int.reduceMul, Int.reduceEq, Int.reduceNeg, reduceCtorEq, resV, resAll, ARes.ev, LV.flat, ite_true, ite_false, exists_eq_left', exists_eq_left, keyOf, implies_true, fillC, capOf]
    refine memK_box g2 (by simp) fun N7 i1 i2 i3 => ?_
    simp (disch := omega) only [i2.cells, ↓SXd, SXu, slBounds, ↓sop, ↓aop, ↓reduceIte, LV.cells, AOp.dst, LV.I, LV.B, LV.U, LV.S, LV.nil, Nat.reduceEqDiff, Nat.reduceAdd, Nat.reduceMul, Nat.reduceSub, Nat.reduceLeDiff, Nat.reduceBEq, Nat.reduceDiv, Nat.reduceMod, Int.reduceToNat, Int.reduceLT, Int.reduceLE, Int.reduceAdd, Int.reduceSub, Int.reduceMul, Int.reduceEq, Int.reduceNeg, reduceCtorEq, resV, resAll, ARes.ev, LV.flat, ite_true, ite_false, exists_eq_left', exists_eq_left, keyOf, implies_true, fillC, capOf]
    exact hfin g1 (by simp; omega) (by omega) g3 i1 i3
  by_cases b2 : (b : Int) = 2
  · by_cases hc0 : (cs.length : Int) > 0
    · have hg := u4.tri0 (k := 0) (by omega)
      rw [Nat.zero_mul] at hg
      simp (disch := omega) only [b2, e6.cell, hc0, hg, Cell.row, splice, ↓SXd, SXu, slBounds, ↓sop, ↓aop, ↓reduceIte, LV.cells, AOp.dst, LV.I, LV.B, LV.U, LV.S, LV.nil, Nat.reduceEqDiff, Nat.reduceAdd, Nat.reduceMul, Nat.reduceSub, Nat.reduceLeDiff, Nat.reduceBEq, Nat.reduceDiv, Nat.reduceMod, Int.reduceToNat, Int.reduceLT, Int.reduceLE, Int.reduceAdd, Int.reduceSub, Int.reduceMul, Int.reduceEq, Int.reduceNeg, reduceCtorEq, resV, resAll, ARes.ev, LV.flat, ite_true, ite_false, exists_eq_left', exists_eq_left, keyOf, implies_true, fillC, capOf]
      refine appendK_cell u4 (by omega) fun N5 l1 l2 l3 => ?_
      simp (disch := omega) only [↓SXd, SXu, slBounds, ↓sop, ↓aop, ↓reduceIte, LV.cells, AOp.dst, LV.I, LV.B, LV.U, LV.S, LV.nil, Nat.reduceEqDiff, Nat.reduceAdd, Nat.reduceMul, Nat.reduceSub, Nat.reduceLeDiff, Nat.reduceBEq, Nat.reduceDiv, Nat.reduceMod, Int.reduceToNat, Int.reduceLT, Int.reduceLE, Int.reduceAdd, Int.reduceSub, Int.reduceMul, Int.reduceEq, Int.reduceNeg, reduceCtorEq, resV, resAll, ARes.ev, LV.flat, ite_true, ite_false, exists_eq_left', exists_eq_left, keyOf, implies_true, fillC, capOf]
      refine memK_one (live_step e6 (by omega) l3) (by simp) fun N6 j1 j2 j3 => ?_
      obtain ⟨g1, g2, g3⟩ := happ l1 l2 l3 j1 j3
      simp (disch := omega) only [j2.cells, ↓SXd, SXu, slBounds, ↓sop, ↓aop, ↓reduceIte, LV.cells, AOp.dst, LV.I, LV.B, LV.U, LV.S, LV.nil, Nat.reduceEqDiff, Nat.reduceAdd, Nat.reduceMul, Nat.reduceSub, Nat.reduceLeDiff, Nat.reduceBEq, Nat.reduceDiv, Nat.reduceMod, Int.reduceToNat, Int.reduceLT, Int.reduceLE, Int.reduceAdd, Int.reduceSub, Int.reduceMul, Int.reduceEq, Int.reduceNeg, reduceCtorEq, resV, resAll, ARes.ev, LV.flat, ite_true, ite_false, exists_eq_left', exists_eq_left, keyOf, implies_true, fillC, capOf]
      refine memK_box g2 (by simp) fun N7 i1 i2 i3 => ?_
      simp (disch := omega) only [i2.cells, ↓SXd, SXu, slBounds, ↓sop, ↓aop, ↓reduceIte, LV.cells, AOp.dst, LV.I, LV.B, LV.U, LV.S, LV.nil, Nat.reduceEqDiff, Nat.reduceAdd, Nat.reduceMul, Nat.reduceSub, Nat.reduceLeDiff, Nat.reduceBEq, Nat.reduceDiv, Nat.reduceMod, Int.reduceToNat, Int.reduceLT, Int.reduceLE, Int.reduceAdd, Int.reduceSub, Int.reduceMul, Int.reduceEq, Int.reduceNeg, reduceCtorEq, resV, resAll, ARes.ev, LV.flat, ite_true, ite_false, exists_eq_left', exists_eq_left, keyOf, implies_true, fillC, capOf]
      exact hfin g1 (by simp; omega) (by omega) g3 i1 i3
    · simp (disch := omega) only [b2, e6.cell, hc0, e6.cells, ↓SXd, SXu, slBounds, ↓sop, ↓aop, ↓reduceIte, LV.cells, AOp.dst, LV.I, LV.B, LV.U, LV.S, LV.nil, Nat.reduceEqDiff, Nat.reduceAdd, Nat.reduceMul, Nat.reduceSub, Nat.reduceLeDiff, Nat.reduceBEq, Nat.reduceDiv, Nat.reduceMod, Int.reduceToNat, Int.reduceLT, Int.reduceLE, Int.reduceAdd, Int.reduceSub, Int.reduceMul, Int.reduceEq, Int.reduceNeg, reduceCtorEq, resV, resAll, ARes.ev, LV.flat, ite_true, ite_false, exists_eq_left', exists_eq_left, keyOf, implies_true, fillC, capOf]
      refine memK_box e2 (by simp) fun N7 i1 i2 i3 => ?_
      simp (disch := omega) only [i2.cells, ↓SXd, SXu, slBounds, ↓sop, ↓aop, ↓reduceIte, LV.cells, AOp.dst, LV.I, LV.B, LV.U, LV.S, LV.nil, Nat.reduceEqDiff, Nat.reduceAdd, Nat.reduceMul, Nat.reduceSub, Nat.reduceLeDiff, Nat.reduceBEq, Nat.reduceDiv, Nat.reduceMod, Int.reduceToNat, Int.reduceLT, Int.reduceLE, Int.reduceAdd, Int.reduceSub, Int.reduceMul, Int.reduceEq, Int.reduceNeg, reduceCtorEq, resV, resAll, ARes.ev, LV.flat, ite_true, ite_false, exists_eq_left', exists_eq_left, keyOf, implies_true, fillC, capOf]
      exact hfin u4 (by omega) (by omega) (hD4.up (by omega)) i1 i3
  by_cases b3 : (b : Int) = 3
  · simp (disch := omega) only [b3, ↓SXd, SXu, slBounds, ↓sop, ↓aop, ↓reduceIte, LV.cells, AOp.dst, LV.I, LV.B, LV.U, LV.S, LV.nil, Nat.reduceEqDiff, Nat.reduceAdd, Nat.reduceMul, Nat.reduceSub, Nat.reduceLeDiff, Nat.reduceBEq, Nat.reduceDiv, Nat.reduceMod, Int.reduceToNat, Int.reduceLT, Int.reduceLE, Int.reduceAdd, Int.reduceSub, Int.reduceMul, Int.reduceEq, Int.reduceNeg, reduceCtorEq, resV, resAll, ARes.ev, LV.flat, ite_true, ite_false, exists_eq_left', exists_eq_left, keyOf, implies_true, fillC, capOf]
    refine memK_box e2 (by simp) fun N7 i1 i2 i3 => ?_
    simp (disch := omega) only [i2.cells, ↓SXd, SXu, slBounds, ↓sop, ↓aop, ↓reduceIte, LV.cells, AOp.dst, LV.I, LV.B, LV.U, LV.S, LV.nil, Nat.reduceEqDiff, Nat.reduceAdd, Nat.reduceMul, Nat.reduceSub, Nat.reduceLeDiff, Nat.reduceBEq, Nat.reduceDiv, Nat.reduceMod, Int.reduceToNat, Int.reduceLT, Int.reduceLE, Int.reduceAdd, Int.reduceSub, Int.reduceMul, Int.reduceEq, Int.reduceNeg, reduceCtorEq, resV, resAll, ARes.ev, LV.flat, ite_true, ite_false, exists_eq_left', exists_eq_left, keyOf, implies_true, fillC, capOf]
    exact ⟨⟨0, 0, 0, .nil, [], rfl, .inl ⟨rfl, rfl⟩, Newer.nil, by simp⟩, (hD4.up (by omega)).keep hpl htM (Nat.le_refl _) (by omega) fun q q1 => i3 q (by omega) (by omega)⟩
  · simp (disch := omega) only [b0, b1, b2, b3, e6.cells, ↓SXd, SXu, slBounds, ↓sop, ↓aop, ↓reduceIte, LV.cells, AOp.dst, LV.I, LV.B, LV.U, LV.S, LV.nil, Nat.reduceEqDiff, Nat.reduceAdd, Nat.reduceMul, Nat.reduceSub, Nat.reduceLeDiff, Nat.reduceBEq, Nat.reduceDiv, Nat.reduceMod, Int.reduceToNat, Int.reduceLT, Int.reduceLE, Int.reduceAdd, Int.reduceSub, Int.reduceMul, Int.reduceEq, Int.reduceNeg, reduceCtorEq, resV, resAll, ARes.ev, LV.flat, ite_true, ite_false, exists_eq_left', exists_eq_left, keyOf, implies_true, fillC, capOf]
    refine memK_box e2 (by simp) fun N7 i1 i2 i3 => ?_
    simp (disch := omega) only [i2.cells, ↓SXd, SXu, slBounds, ↓sop, ↓aop, ↓reduceIte, LV.cells, AOp.dst, LV.I, LV.B, LV.U, LV.S, LV.nil, Nat.reduceEqDiff, Nat.reduceAdd, Nat.reduceMul, Nat.reduceSub, Nat.reduceLeDiff, Nat.reduceBEq, Nat.reduceDiv, Nat.reduceMod, Int.reduceToNat, Int.reduceLT, Int.reduceLE, Int.reduceAdd, Int.reduceSub, Int.reduceMul, Int.reduceEq, Int.reduceNeg, reduceCtorEq, resV, resAll, ARes.ev, LV.flat, ite_true, ite_false, exists_eq_left', exists_eq_left, keyOf, implies_true, fillC, capOf]
    exact hfin u4 (by omega) (by omega) (hD4.up (by omega)) i1 i3
end Go.Ab

/- The abstract code of some functions (written by a program of mine from the translation, by way of prepF). -/
namespace Go.Ab.C
open Go.Ab
end Go.Ab.C

/- That the program has this code. -/
namespace Go.Ab.K
open Go Go.Ab
end Go.Ab.K

/- Contracts: h_l10Column. -/
namespace Go.Ab
open Go
set_option linter.unusedSimpArgs false
set_option linter.unusedVariables false
set_option maxRecDepth 20000

end Go.Ab

/- The abstract code of some functions (written by a program of mine from the translation, by way of prepF). -/
namespace Go.Ab.C
open Go.Ab
end Go.Ab.C

/- That the program has this code. -/
namespace Go.Ab.K
open Go Go.Ab
end Go.Ab.K

/- The abstract code of some functions (written by a program of mine from the translation, by way of prepF). -/
namespace Go.Ab.C
open Go.Ab
end Go.Ab.C

/- That the program has this code. -/
namespace Go.Ab.K
open Go Go.Ab
end Go.Ab.K

/- Contracts: the reference's heights and neighbours. -/
namespace Go.Ab
open Go
set_option linter.unusedSimpArgs false
set_option linter.unusedVariables false

theorem HeapOK.cell {x y z : Int} {cs : List Cell} (h : HeapOK x y z cs) {k : Nat} (hk : k < cs.length) : (cs.getD k default).inBox x y z := (h.2 k hk).1

end Go.Ab

/- The abstract code of some functions (written by a program of mine from the translation, by way of prepF). -/
namespace Go.Ab.C
open Go.Ab
end Go.Ab.C

/- That the program has this code. -/
namespace Go.Ab.K
open Go Go.Ab
end Go.Ab.K

/- Contracts: h_l10Up. -/
namespace Go.Ab
open Go
set_option linter.unusedSimpArgs false
set_option linter.unusedVariables false
set_option maxRecDepth 20000

end Go.Ab

/- Contracts: h_l10Next. -/
namespace Go.Ab
open Go
set_option linter.unusedSimpArgs false
set_option linter.unusedVariables false
set_option maxRecDepth 20000

end Go.Ab

/- Contracts: what the laws of the walks draw. -/
namespace Go.Ab
open Go
set_option linter.unusedSimpArgs false
set_option linter.unusedVariables false
set_option maxRecDepth 20000

/-- A heap, valid or not, all of whose cells are new. -/
def HeapR (M : Mem) (v : LV) (N : Mem) : Prop := ∃ (x y z : Int) (cs : List Cell) (u : Nat) (ex : List Cell), v = .agg [.I x, .I y, .I z, .ref u 0 cs.length] ∧ Live N u (.row (triL (cs ++ ex)) true 3) ∧ M.length ≤ u ∧ cs.length ≤ 65
/-- The same, with nothing behind its cells. -/
def HeapE (M : Mem) (v : LV) (N : Mem) : Prop := ∃ (x y z : Int) (cs : List Cell) (u : Nat), v = .agg [.I x, .I y, .I z, .ref u 0 cs.length] ∧ Live N u (.row (triL cs) true 3) ∧ M.length ≤ u ∧ cs.length ≤ 65
theorem d_heapE {p t o a : Nat} {bs : List Nat} {M : Mem} (h : CurAt M p t o bs a) (ha : a ≤ 990000) : CallsR PG F.spec_l1Cur_heap [.ptr p 0] M fun v N => HeapE M v N ∧ DrawN M p t o bs (a + 160) N := by
  obtain ⟨⟨_, _, _, hpl'⟩, hB, _⟩ := id h
  have hpl := hpl'.lt
  have htM := hB.lt
  refine (d_heap h ha).den (e := 3) ?_
  rintro v N ⟨⟨x, y, z, w, cs, rfl, hs, hnw, hl⟩, hd⟩
  rcases hs with ⟨rfl, rfl⟩ | ⟨u, rfl, hu⟩
  · exact .inr ⟨.agg [.I x, .I y, .I z, .ref N.length 0 0], .inl (.inr ⟨_, _, rfl, rfl, .rfl, .rfl, .rfl, .nil, trivial⟩), ⟨x, y, z, [], N.length, rfl, Live.new, hd.2.1, by simp⟩, hd.keep hpl htM (Nat.le_refl _) (by simp) fun q q1 => List.getElem?_append_left (by have := hd.2.1; omega)⟩
  · refine .inl ⟨⟨x, y, z, cs, u, rfl, hu, ?_, hl⟩, hd⟩
    rcases Nat.lt_or_ge u M.length with h1 | h1
    · exact absurd rfl (hnw u h1)
    · exact h1
theorem DrawN.live {M N : Mem} {p t o a u : Nat} {bs : List Nat} {b : Blk} (hd : DrawN M p t o bs a N) (h : Live M u b) (hne : u ≠ p) : Live N u b := Live.at h (hd.2.2 u h.lt hne)
theorem DrawN.stay {M N : Mem} {p t o a q : Nat} {bs : List Nat} (hd : DrawN M p t o bs a N) (h : q < M.length) (hne : q ≠ p) : ∀ b : Blk, M[q]? = some (some b) → N[q]? = some (some b) := fun b hb => by rw [hd.2.2 q h hne]; exact hb
theorem CurAt.stepped {M N : Mem} {p t o a u : Nat} {bs : List Nat} (h : CurAt M p t o bs a) (hp : p ≠ u) (ht : t ≠ u) (l3 : ∀ q, q ≠ u → q < M.length → N[q]? = M[q]?) : CurAt N p t o bs a := by
  obtain ⟨⟨i, s, h1, h2⟩, h3, h4⟩ := h
  exact ⟨⟨i, s, h1, Live.at h2 (l3 _ hp h2.lt)⟩, Has.at' h3 (l3 _ ht h3.lt), h4⟩
/-- Behind a draw of a reader that is new. -/
theorem DrawN.pre {M M0 N : Mem} {p t o a : Nat} {bs : List Nat} (hd : DrawN M p t o bs a N) (h : Pre M0 M) (hp : M0.length ≤ p) : Pre M0 N :=
  ⟨Nat.le_trans h.1 hd.2.1, fun q hq => by rw [hd.2.2 q (Nat.lt_of_lt_of_le hq h.1) (by omega)]; exact h.2 q hq⟩
theorem CurAt.new2 {t o : Nat} {bs : List Nat} {M : Mem} {b : Option Blk} (hB : Bytes M t o bs) (h255 : ∀ b ∈ bs, b ≤ 255) (hl : bs.length ≤ 1000000000) : CurAt (M ++ [b, some (.row [.ref t o bs.length, .I 0, .val (.int .u64 0)] true 0)]) (M.length + 1) t o bs 0 := by
  have := CurAt.new (M := M ++ [b]) (t := t) (o := o) (bs := bs) (Has.app hB) h255 hl
  rw [List.append_assoc, List.length_append] at this
  exact this
section
variable {p t o a : Nat} {bs : List Nat} {M : Mem}
end
section
variable {t o : Nat} {bs : List Nat} {M : Mem} (hB : Bytes M t o bs) (h255 : ∀ b ∈ bs, b ≤ 255) (hl : bs.length ≤ 1000000000)
include hB h255 hl
end
end Go.Ab

/- The abstract code of some functions (written by a program of mine from the translation, by way of prepF). -/
namespace Go.Ab.C
open Go.Ab
end Go.Ab.C

/- That the program has this code. -/
namespace Go.Ab.K
open Go Go.Ab
end Go.Ab.K

/- The abstract code of some functions (written by a program of mine from the translation, by way of prepF). -/
namespace Go.Ab.C
open Go.Ab
end Go.Ab.C

/- That the program has this code. -/
namespace Go.Ab.K
open Go Go.Ab
end Go.Ab.K

/- Contracts: the reference's statements on forms. -/
namespace Go.Ab
open Go
set_option linter.unusedSimpArgs false
set_option linter.unusedVariables false

/-- A valid heap with cubes. -/
def Filled (x y z : Int) (cs : List Cell) : Prop := HeapOK x y z cs ∧ 0 < cs.length
noncomputable instance (x y z : Int) (cs : List Cell) : Decidable (Filled x y z cs) := Classical.propDecidable _
noncomputable def formOf (x y z : Int) (cs : List Cell) : Option Hp := if Filled x y z cs then some (formHp x y z cs) else none
def symB (x y z : Int) (cs : List Cell) (T : Turn) : Bool := !lessHp (posHp x y z cs T) (cropHp cs) && !lessHp (cropHp cs) (posHp x y z cs T)
def symAt (x y z : Int) (cs : List Cell) (j : Nat) : Bool := match turns[j]? with
  | some T => symB x y z cs T
  | none => false
def symsK (x y z : Int) (cs : List Cell) (k : Nat) : List Int := ((List.range k).filter (symAt x y z cs)).map fun (j : Nat) => (j : Int)
noncomputable def symsOf (x y z : Int) (cs : List Cell) : Option (List Int) := if Filled x y z cs then some (symsK x y z cs 24) else none
noncomputable def posOf (x y z : Int) (cs : List Cell) : Int := if Filled x y z cs then ((24 : Int).tdiv ((symsK x y z cs 24).length : Nat)) else 0
end Go.Ab

/- Contracts: the reference's mirrored heaps; IsHanded, AreSameForm. -/
namespace Go.Ab
open Go
set_option linter.unusedSimpArgs false
set_option linter.unusedVariables false

def mirC (x : Int) (c : Cell) : Cell := ⟨x - 1 - c.a, c.b, c.c⟩
def mirHp (x y z : Int) (cs : List Cell) : List Cell := pick x y z fun d => decide (d ∈ cs.map (mirC x))
def handB (x y z : Int) (cs : List Cell) : Bool := !(!lessHp (formHp x y z (mirHp x y z cs)) (formHp x y z cs) && !lessHp (formHp x y z cs) (formHp x y z (mirHp x y z cs)))
noncomputable def sameForm (x y z : Int) (cs : List Cell) (x' y' z' : Int) (ds : List Cell) : Bool := !lessHp (formHp x y z cs) (formHp x' y' z' ds) && !lessHp (formHp x' y' z' ds) (formHp x y z cs)
end Go.Ab

/- The abstract code of some functions (written by a program of mine from the translation, by way of prepF). -/
namespace Go.Ab.C
open Go.Ab
end Go.Ab.C

/- That the program has this code. -/
namespace Go.Ab.K
open Go Go.Ab
end Go.Ab.K

/- The abstract code of some functions (written by a program of mine from the translation, by way of prepF). -/
namespace Go.Ab.C
open Go.Ab
end Go.Ab.C

/- That the program has this code. -/
namespace Go.Ab.K
open Go Go.Ab
end Go.Ab.K

/- The abstract code of some functions (written by a program of mine from the translation, by way of prepF). -/
namespace Go.Ab.C
open Go.Ab
end Go.Ab.C

/- That the program has this code. -/
namespace Go.Ab.K
open Go Go.Ab
end Go.Ab.K

/- Plain words: how many cells a set has, as the library counts. -/
namespace Go.Ab

def swar1 (x : BitVec 64) : BitVec 64 := (x >>> 1 &&& 6148914691236517205#64) + (x &&& 6148914691236517205#64)
def swar2 (x : BitVec 64) : BitVec 64 := (x >>> 2 &&& 3689348814741910323#64) + (x &&& 3689348814741910323#64)
def swar3 (x : BitVec 64) : BitVec 64 := (x >>> 4 + x) &&& 1085102592571150095#64
def swar4 (x : BitVec 64) : BitVec 64 := x + x >>> 8
def swar5 (x : BitVec 64) : BitVec 64 := x + x >>> 16
def swar6 (x : BitVec 64) : BitVec 64 := x + x >>> 32
def swar (x : BitVec 64) : BitVec 64 := swar6 (swar5 (swar4 (swar3 (swar2 (swar1 x))))) &&& 127#64

def onRim (x y z : Int) (c : Cell) : Bool := decide (c.a = 0 ∨ c.b = 0 ∨ c.c = 0 ∨ c.a = x - 1 ∨ c.b = y - 1 ∨ c.c = z - 1)
end Go.Ab

/- Contracts: counts of sets. -/
namespace Go.Ab
open Go
set_option linter.unusedSimpArgs false
set_option linter.unusedVariables false

theorem onRim_iff {x y z : Int} {c : Cell} (hc : c.inBox x y z) : onRim x y z c = true ↔ ∃ d : Cell, apart c d = 1 ∧ ¬ d.inBox x y z := by
  obtain ⟨⟨h1, h2⟩, ⟨h3, h4⟩, ⟨h5, h6⟩⟩ := hc
  unfold onRim
  rw [decide_eq_true_iff]
  constructor
  · rintro (h | h | h | h | h | h)
    · exact ⟨⟨c.a - 1, c.b, c.c⟩, by unfold apart; simp only; omega, fun k => by have := k.1.1; simp only at this; omega⟩
    · exact ⟨⟨c.a, c.b - 1, c.c⟩, by unfold apart; simp only; omega, fun k => by have := k.2.1.1; simp only at this; omega⟩
    · exact ⟨⟨c.a, c.b, c.c - 1⟩, by unfold apart; simp only; omega, fun k => by have := k.2.2.1; simp only at this; omega⟩
    · exact ⟨⟨c.a + 1, c.b, c.c⟩, by unfold apart; simp only; omega, fun k => by have := k.1.2; simp only at this; omega⟩
    · exact ⟨⟨c.a, c.b + 1, c.c⟩, by unfold apart; simp only; omega, fun k => by have := k.2.1.2; simp only at this; omega⟩
    · exact ⟨⟨c.a, c.b, c.c + 1⟩, by unfold apart; simp only; omega, fun k => by have := k.2.2.2; simp only at this; omega⟩
  · rintro ⟨d, hd, hk⟩
    apply Classical.byContradiction
    intro hno
    refine hk ⟨⟨?_, ?_⟩, ⟨?_, ?_⟩, ⟨?_, ?_⟩⟩ <;> (unfold apart at hd; omega)

end Go.Ab

/- Contracts: what is enclosed; the program's FillCavities. -/
namespace Go.Ab
open Go
set_option linter.unusedSimpArgs false
set_option linter.unusedVariables false

/-- What is outside: reached from the rim, by way of cells without cubes. -/
noncomputable def outer (x y z : Int) (p : Cell → Bool) : Cell → Bool := reach x y z (fun c => !p c && onRim x y z c) fun c => !p c
noncomputable def closed (x y z : Int) (p : Cell → Bool) (c : Cell) : Bool := !p c && !outer x y z p c
noncomputable def fillOf (x y z : Int) (cs : List Cell) : Option Hp := by
  classical
  exact if HeapOK x y z cs then some ⟨x, y, z, pick x y z fun c => decide (c ∈ cs) || closed x y z (fun c => decide (c ∈ cs)) c⟩ else none
end Go.Ab

/- Plain words: a search from beyond the box. -/
namespace Go.Ab

def ExtC (x y z : Int) (c : Cell) : Prop := (-1 ≤ c.a ∧ c.a ≤ x) ∧ (-1 ≤ c.b ∧ c.b ≤ y) ∧ (-1 ≤ c.c ∧ c.c ≤ z)
theorem Cell.inBox.ext {x y z : Int} {c : Cell} (h : c.inBox x y z) : ExtC x y z c := by
  obtain ⟨⟨_, _⟩, ⟨_, _⟩, ⟨_, _⟩⟩ := h
  exact ⟨⟨by omega, by omega⟩, ⟨by omega, by omega⟩, ⟨by omega, by omega⟩⟩
/-- What comes before a place. -/
def Bef (c : Cell) (i j k : Int) : Prop := c.a < i ∨ (c.a = i ∧ (c.b < j ∨ (c.b = j ∧ c.c < k)))
structure Mgn (x y z i j k : Int) (l : List Cell) : Prop where
  mem : ∀ c ∈ l, ExtC x y z c ∧ ¬ c.inBox x y z
  all : ∀ c, ExtC x y z c → ¬ c.inBox x y z → Bef c i j k → c ∈ l
  len : (l.length : Int) ≤ (i + 1) * 36 + (j + 1) * 6 + (k + 1)
theorem Mgn.nil {x y z : Int} : Mgn x y z (-1) (-1) (-1) [] := by
  refine ⟨by simp, fun c ⟨⟨_, _⟩, ⟨_, _⟩, ⟨_, _⟩⟩ _ hb => ?_, by simp⟩
  unfold Bef at hb
  omega
theorem Mgn.out {x y z i j k : Int} {l : List Cell} (h : Mgn x y z i j k l) (hk : k < 6) (hc : ExtC x y z ⟨i, j, k⟩) (ho : ¬ Cell.inBox x y z ⟨i, j, k⟩) : Mgn x y z i j (k + 1) (l ++ [⟨i, j, k⟩]) := by
  refine ⟨fun c hm => ?_, fun c h1 h2 h3 => ?_, ?_⟩
  · rcases List.mem_append.1 hm with hm | hm
    · exact h.mem c hm
    · rw [List.mem_singleton.1 hm]; exact ⟨hc, ho⟩
  · rw [List.mem_append, List.mem_singleton, cell_eq]
    unfold Bef at h3
    by_cases hb : Bef c i j k
    · exact .inl (h.all c h1 h2 hb)
    · right; unfold Bef at hb; simp only; omega
  · have := h.len; rw [List.length_append, List.length_singleton]; omega
theorem Mgn.in {x y z i j k : Int} {l : List Cell} (h : Mgn x y z i j k l) (ho : Cell.inBox x y z ⟨i, j, k⟩) : Mgn x y z i j (k + 1) l := by
  refine ⟨h.mem, fun c h1 h2 h3 => ?_, by have := h.len; omega⟩
  unfold Bef at h3
  by_cases hb : Bef c i j k
  · exact h.all c h1 h2 hb
  · unfold Bef at hb
    exact absurd (by rw [show c = ⟨i, j, k⟩ from cell_eq.2 (by simp only; omega)]; exact ho) h2
theorem Mgn.row {x y z i j k : Int} {l : List Cell} (h : Mgn x y z i j k l) (hk : z < k) (hz : k ≤ 5) : Mgn x y z i (j + 1) (-1) l := by
  refine ⟨h.mem, fun c h1 h2 h3 => h.all c h1 h2 ?_, by have := h.len; omega⟩
  obtain ⟨_, _, _, _⟩ := h1
  unfold Bef at h3 ⊢
  omega
theorem Mgn.plane {x y z i j : Int} {l : List Cell} (h : Mgn x y z i j (-1) l) (hk : y < j) (hz : j ≤ 5) : Mgn x y z (i + 1) (-1) (-1) l := by
  refine ⟨h.mem, fun c h1 h2 h3 => h.all c h1 h2 ?_, by have := h.len; omega⟩
  obtain ⟨_, ⟨_, _⟩, _, _⟩ := h1
  unfold Bef at h3 ⊢
  omega

structure Out (x y z : Int) (p : Cell → Bool) (n k : Nat) (mg r : List Cell) : Prop where
  base : ∀ c, ExtC x y z c → ¬ c.inBox x y z → c ∈ mg
  mgm : ∀ c ∈ mg, ExtC x y z c ∧ ¬ c.inBox x y z
  nodup : r.Nodup
  mem : ∀ d ∈ r, d.inBox x y z ∧ p d = false ∧ outer x y z p d = true
  done : ∀ i, i < n → i < (mg ++ r).length → ∀ e, e.inBox x y z → p e = false → apart ((mg ++ r).getD i default) e = 1 → e ∈ r
  part : ∀ j, j < k → ((nbrs ((mg ++ r).getD n default)).getD j default).inBox x y z → p ((nbrs ((mg ++ r).getD n default)).getD j default) = false → (nbrs ((mg ++ r).getD n default)).getD j default ∈ r

section
variable {x y z : Int} {p : Cell → Bool} {n k : Nat} {mg r : List Cell}
theorem Out.skip (h : Out x y z p n k mg r) (hs : ¬ ((((nbrs ((mg ++ r).getD n default)).getD k default).inBox x y z ∧ p ((nbrs ((mg ++ r).getD n default)).getD k default) = false) ∧ (nbrs ((mg ++ r).getD n default)).getD k default ∉ r)) : Out x y z p n (k + 1) mg r :=
  ⟨h.base, h.mgm, h.nodup, h.mem, h.done, fun j hj h1 h2 => by
    rcases Nat.lt_or_ge j k with h3 | h3
    · exact h.part j h3 h1 h2
    · rw [show j = k by omega] at h1 h2 ⊢
      exact Classical.byContradiction fun h4 => hs ⟨⟨h1, h2⟩, h4⟩⟩
theorem Out.add (h : Out x y z p n k mg r) (hk : k < 6) (hn : n < (mg ++ r).length) {e : Cell} (he : (nbrs ((mg ++ r).getD n default)).getD k default = e) (h1 : e.inBox x y z) (h2 : p e = false) (h3 : e ∉ r) : Out x y z p n (k + 1) mg (r ++ [e]) := by
  have hg : ∀ {j}, j < (mg ++ r).length → (mg ++ (r ++ [e])).getD j default = (mg ++ r).getD j default := fun {j} hj => by
    rw [← List.append_assoc]
    simp only [List.getD_eq_getElem?_getD]; rw [List.getElem?_append_left hj]
  have hap : apart ((mg ++ r).getD n default) e = 1 := mem_nbrs.1 (by rw [← he]; exact getD_mem' (by simpa [nbrs] using hk))
  have hout : outer x y z p e = true := by
    unfold outer
    rw [reach_iff]
    rcases List.mem_append.1 (getD_mem' (d := default) hn) with hm | hm
    · refine .base h1 ?_
      have := h.mgm _ hm
      rw [h2, (onRim_iff h1).2 ⟨_, by rw [apart_comm]; exact hap, this.2⟩]; rfl
    · have := (h.mem _ hm).2.2
      unfold outer at this
      rw [reach_iff] at this
      exact .step this hap h1 (by rw [h2]; rfl)
  refine ⟨h.base, h.mgm, ?_, fun d hd => ?_, fun i hi hil d hd hpd ha => ?_, fun j hj hb hpb => ?_⟩
  · rw [List.nodup_append]
    exact ⟨h.nodup, by simp, fun a ha b hb e' => by rw [List.mem_singleton.1 hb] at e'; subst e'; exact h3 ha⟩
  · rcases List.mem_append.1 hd with hd | hd
    · exact h.mem d hd
    · rw [List.mem_singleton.1 hd]; exact ⟨h1, h2, hout⟩
  · rw [hg (by omega)] at ha
    exact List.mem_append.2 (.inl (h.done i hi (by omega) d hd hpd ha))
  · rw [hg hn] at hb hpb ⊢
    rcases Nat.lt_or_ge j k with h5 | h5
    · exact List.mem_append.2 (.inl (h.part j h5 hb hpb))
    · rw [show j = k by omega, he]; simp
end
end Go.Ab

/- Contracts: the reference's search from beyond the box. -/
namespace Go.Ab
open Go
set_option linter.unusedSimpArgs false
set_option linter.unusedVariables false

def steps : List Cell := [⟨-1, 0, 0⟩, ⟨1, 0, 0⟩, ⟨0, -1, 0⟩, ⟨0, 1, 0⟩, ⟨0, 0, -1⟩, ⟨0, 0, 1⟩]
theorem Live.step {N : Mem} {t k : Nat} (h : Live N t (.row (triL steps) true 0)) (hk : k < 6) : getCells N t (k * 3) 3 = some (steps.getD k default).row := by
  have := Tri.get (cs := steps) (o := 0) h.has (k := k) hk
  rwa [Nat.zero_add] at this

end Go.Ab

/- Contracts: the heaps of few cubes that a law draws; mirrored heaps of the reference, in any direction. -/
namespace Go.Ab
open Go
set_option linter.unusedSimpArgs false
set_option linter.unusedVariables false
set_option maxRecDepth 20000

def negD (c : Cell) : Cell := ⟨max 0 (0 - c.a), max 0 (0 - c.b), max 0 (0 - c.c)⟩
end Go.Ab

/- Plain words: the turns as a group; forms of turned heaps; symmetries and positions. -/
namespace Go.Ab
open Go
set_option linter.unusedSimpArgs false
set_option linter.unusedVariables false
set_option maxRecDepth 20000

def xorI (a b : Int) : Int := if a = b then 0 else 1
/-- First the one turn, then the other. -/
def behind (t u : Turn) : Turn := ⟨⟨t.fr.at u.fr.a, t.fr.at u.fr.b, t.fr.at u.fr.c⟩, ⟨xorI (t.fl.at u.fr.a) u.fl.a, xorI (t.fl.at u.fr.b) u.fl.b, xorI (t.fl.at u.fr.c) u.fl.c⟩⟩
def oneT : Turn := ⟨⟨0, 1, 2⟩, ⟨0, 0, 0⟩⟩
def invT (t : Turn) : Turn := (turns.find? fun u => decide (behind t u = oneT)).getD oneT
def Bit (n : Int) : Prop := n = 0 ∨ n = 1
def BitT (t : Turn) : Prop := Bit t.fl.a ∧ Bit t.fl.b ∧ Bit t.fl.c
instance (n : Int) : Decidable (Bit n) := by unfold Bit; exact inferInstance
instance (t : Turn) : Decidable (BitT t) := by unfold BitT; exact inferInstance
def turnS (x y z x' y' z' : Int) (T : Turn) (p : Cell) : Cell :=
  ⟨if T.fl.a = 1 then sideOf x' y' z' T.fr.a - sideOf x y z T.fr.a - p.at T.fr.a else p.at T.fr.a, if T.fl.b = 1 then sideOf x' y' z' T.fr.b - sideOf x y z T.fr.b - p.at T.fr.b else p.at T.fr.b, if T.fl.c = 1 then sideOf x' y' z' T.fr.c - sideOf x y z T.fr.c - p.at T.fr.c else p.at T.fr.c⟩
section
variable {x y z : Int} {cs : List Cell} (hH : HeapOK x y z cs) (h0 : 0 < cs.length)
include hH
include h0
end

section
variable {x y z : Int} {cs : List Cell} (hH : HeapOK x y z cs)
include hH
end

def mir2C (z : Int) (c : Cell) : Cell := ⟨c.a, c.b, z - 1 - c.c⟩
def mir2Hp (x y z : Int) (cs : List Cell) : List Cell := pick x y z fun d => decide (d ∈ cs.map (mir2C z))
end Go.Ab

/- Contracts: a form that a law draws; turned and mirrored heaps. -/
namespace Go.Ab
open Go
set_option linter.unusedSimpArgs false
set_option linter.unusedVariables false
set_option maxRecDepth 20000

/-- What TurnHeap answers. -/
noncomputable def turnOf (x y z : Int) (cs : List Cell) (k : Int) : Option Hp := by
  classical
  exact if HeapOK x y z cs ∧ (0 ≤ k ∧ k ≤ 23) then some (turnHp x y z (turns.getD k.toNat oneT) cs) else none
/-- A heap and true. -/
def HeapT (M : Mem) (r : Hp) (v : LV) (N : Mem) : Prop := ∃ u : Nat, v = .tup [.agg [.I r.x, .I r.y, .I r.z, .ref u 0 r.cs.length], .B true] ∧ Live N u (.row (triL r.cs) true 3) ∧ M.length ≤ u
/-- Mirrored in a direction. -/
def mirDC (x y z : Int) (d : Int) (c : Cell) : Cell := ⟨if d = 0 then x - 1 - c.a else c.a, if d = 1 then y - 1 - c.b else c.b, if d = 2 then z - 1 - c.c else c.c⟩
def mirD (x y z : Int) (d : Int) (cs : List Cell) : List Cell := pick x y z fun e => decide (e ∈ cs.map (mirDC x y z d))
theorem Live.setN {N : Mem} {q k : Nat} {b : Blk} {v : Option Blk} (h : Live N q b) (hne : q ≠ k) : Live (N.set k v) q b := by
  unfold Live at *
  rw [List.getElem?_set_ne (by omega)]; exact h
theorem Live.only {M N : Mem} {q : Nat} {b0 : Blk} (h : Live M q b0) (k : Live N q b0) : ∀ b, M[q]? = some (some b) → N[q]? = some (some b) := fun b hb => by
  have e : some (some b0) = some (some b) := Eq.trans (Eq.symm h) hb
  cases e
  exact k
theorem DrawN.setN {M N : Mem} {p t o a k : Nat} {bs : List Nat} {v : Option Blk} (h : DrawN M p t o bs a N) (hp : p < M.length) (ht : t < M.length) (hk : M.length ≤ k) : DrawN M p t o bs a (N.set k v) :=
  h.keep hp ht (Nat.le_refl _) (by simp) fun q q1 => List.getElem?_set_ne (by omega)
end Go.Ab

/- Heaps that a law keeps: mirrored, swapped, joined, common, shifted, cropped and widened ones, plainly. -/
namespace Go.Ab
open Go
set_option linter.unusedSimpArgs false
set_option linter.unusedVariables false
set_option maxRecDepth 20000

/-- A heap, or the empty one and false; its cells lie in a block of their own. -/
def HeapX (M : Mem) (r : Option Hp) (v : LV) (N : Mem) : Prop := ∃ u : Nat, v = .tup [.agg [.I (r.getD Hp.none).x, .I (r.getD Hp.none).y, .I (r.getD Hp.none).z, .ref u 0 (r.getD Hp.none).cs.length], .B r.isSome] ∧ Live N u (.row (triL (r.getD Hp.none).cs) true 3) ∧ Pre M N
section
variable (x y z : Int) (cs : List Cell)
noncomputable def mirOf (d : Int) : Option Hp := by
  classical
  exact if HeapOK x y z cs ∧ Dir d then some ⟨x, y, z, mirD x y z d cs⟩ else none
noncomputable def othOf : Option Hp := by
  classical
  exact if HeapOK x y z cs then some ⟨x, y, z, pick x y z (freeP cs)⟩ else none
end
/-- Two coordinates exchanged. -/
def swI (a b i : Int) : Int := if i = a then b else if i = b then a else i
def swC (a b : Int) (c : Cell) : Cell := ⟨c.at (swI a b 0), c.at (swI a b 1), c.at (swI a b 2)⟩
def swX (a b : Int) (x y z : Int) (cs : List Cell) : Hp := ⟨(swC a b ⟨x, y, z⟩).a, (swC a b ⟨x, y, z⟩).b, (swC a b ⟨x, y, z⟩).c, pick (swC a b ⟨x, y, z⟩).a (swC a b ⟨x, y, z⟩).b (swC a b ⟨x, y, z⟩).c fun d => decide (d ∈ cs.map (swC a b))⟩
section
variable {x y z : Int} {cs : List Cell}
end
section
variable (x y z : Int) (cs : List Cell)
noncomputable def swpOf (a b : Int) : Option Hp := by
  classical
  exact if HeapOK x y z cs ∧ Dir a ∧ Dir b then some (swX a b x y z cs) else none
/-- Both are heaps, in the same box. -/
def Alike (x' y' z' : Int) (ds : List Cell) : Prop := HeapOK x y z cs ∧ HeapOK x' y' z' ds ∧ x = x' ∧ y = y' ∧ z = z'
noncomputable instance {x y z : Int} {cs : List Cell} {x' y' z' : Int} {ds : List Cell} : Decidable (Alike x y z cs x' y' z' ds) := Classical.propDecidable _
noncomputable def jnOf (x' y' z' : Int) (ds : List Cell) : Option Hp := if Alike x y z cs x' y' z' ds then some ⟨x, y, z, pick x y z fun c => decide (c ∈ cs) || decide (c ∈ ds)⟩ else none
noncomputable def cmOf (x' y' z' : Int) (ds : List Cell) : Option Hp := if Alike x y z cs x' y' z' ds then some ⟨x, y, z, pick x y z fun c => decide (c ∈ cs) && decide (c ∈ ds)⟩ else none
/-- A shift that is not too far. -/
def Near4 (p : Cell) : Prop := (-4 ≤ p.a ∧ p.a ≤ 4) ∧ (-4 ≤ p.b ∧ p.b ≤ 4) ∧ (-4 ≤ p.c ∧ p.c ≤ 4)
noncomputable def shOf (p : Cell) : Option Hp := by
  classical
  exact if HeapOK x y z cs ∧ Near4 p ∧ HeapOK x y z (cs.map (shift p)) then some ⟨x, y, z, cs.map (shift p)⟩ else none
noncomputable def crOf : Option Hp := by
  classical
  exact if HeapOK x y z cs ∧ 0 < cs.length then some (cropHp cs) else none
noncomputable def wdOf (X Y Z : Int) : Option Hp := by
  classical
  exact if HeapOK x y z cs ∧ HeapOK X Y Z cs then some ⟨X, Y, Z, cs⟩ else none
end
end Go.Ab

/- Contracts: staircases, their corners, orders, turning; the program's side. -/
namespace Go.Ab
open Go
set_option linter.unusedSimpArgs false
set_option linter.unusedVariables false
set_option maxRecDepth 20000

noncomputable def strB (x y z : Int) (cs : List Cell) : Bool := @decide (HeapOK x y z cs ∧ StairP x y z fun c => decide (c ∈ cs)) (Classical.propDecidable _)
theorem strB_iff {x y z : Int} {cs : List Cell} : strB x y z cs = true ↔ HeapOK x y z cs ∧ StairP x y z fun c => decide (c ∈ cs) := @decide_eq_true_iff _ (Classical.propDecidable _)
theorem str_yes {x y z : Int} {cs : List Cell} (h : HeapOK x y z cs ∧ StairP x y z fun c => decide (c ∈ cs)) : strB x y z cs = true := strB_iff.2 h
theorem str_no {x y z : Int} {cs : List Cell} (h : ¬ (HeapOK x y z cs ∧ StairP x y z fun c => decide (c ∈ cs))) : strB x y z cs = false := by
  cases e : strB x y z cs with
  | false => rfl
  | true => exact absurd (strB_iff.1 e) h

theorem g_below_1 {c d : Cell} {u : Nat} {M : Mem} (h : Live M u (.row [.I c.a, .I c.b, .I c.c] true 0)) :
    CallsTo PG F.impl_box_below_1 [.agg [.I d.a, .I d.b, .I d.c], .ptr u 0] M (.B (decide (undC d c))) M := by
  refine calls_run K.impl_box_below_1 rfl ?_
  unfold undC
  by_cases h1 : d.a ≤ c.a
  · by_cases h2 : d.b ≤ c.b
    · simp (disch := omega) only [C.impl_box_below_1, h.app.cell, h1, h2, ↓SXd, SXu, slBounds, ↓sop, ↓aop, ↓reduceIte, LV.cells, AOp.dst, LV.I, LV.B, LV.U, LV.S, LV.nil, Nat.reduceEqDiff, Nat.reduceAdd, Nat.reduceMul, Nat.reduceSub, Nat.reduceLeDiff, Nat.reduceBEq, Nat.reduceDiv, Nat.reduceMod, Int.reduceToNat, Int.reduceLT, Int.reduceLE, Int.reduceAdd, Int.reduceSub, Int.reduceMul, Int.reduceEq, Int.reduceNeg, reduceCtorEq, resV, resAll, ARes.ev, LV.flat, ite_true, ite_false, exists_eq_left', exists_eq_left, keyOf, implies_true, fillC, capOf]
      exact cmp_drop rfl
    · simp (disch := omega) only [C.impl_box_below_1, h.app.cell, h1, h2, ↓SXd, SXu, slBounds, ↓sop, ↓aop, ↓reduceIte, LV.cells, AOp.dst, LV.I, LV.B, LV.U, LV.S, LV.nil, Nat.reduceEqDiff, Nat.reduceAdd, Nat.reduceMul, Nat.reduceSub, Nat.reduceLeDiff, Nat.reduceBEq, Nat.reduceDiv, Nat.reduceMod, Int.reduceToNat, Int.reduceLT, Int.reduceLE, Int.reduceAdd, Int.reduceSub, Int.reduceMul, Int.reduceEq, Int.reduceNeg, reduceCtorEq, resV, resAll, ARes.ev, LV.flat, ite_true, ite_false, exists_eq_left', exists_eq_left, keyOf, implies_true, fillC, capOf]
      exact cmp_drop rfl
  · simp (disch := omega) only [C.impl_box_below_1, h.app.cell, h1, ↓SXd, SXu, slBounds, ↓sop, ↓aop, ↓reduceIte, LV.cells, AOp.dst, LV.I, LV.B, LV.U, LV.S, LV.nil, Nat.reduceEqDiff, Nat.reduceAdd, Nat.reduceMul, Nat.reduceSub, Nat.reduceLeDiff, Nat.reduceBEq, Nat.reduceDiv, Nat.reduceMod, Int.reduceToNat, Int.reduceLT, Int.reduceLE, Int.reduceAdd, Int.reduceSub, Int.reduceMul, Int.reduceEq, Int.reduceNeg, reduceCtorEq, resV, resAll, ARes.ev, LV.flat, ite_true, ite_false, exists_eq_left', exists_eq_left, keyOf, implies_true, fillC, capOf]
    exact cmp_drop rfl
section
variable {x y z : Int} (hS : Sides x y z)
include hS
theorem g_below {c : Cell} {M : Mem} : CallsTo PG F.impl_box_below [.agg [.I x, .I y, .I z], .agg [.I c.a, .I c.b, .I c.c]] M (.W (bs x y z fun d => decide (undC d c))) M := by
  refine calls_run K.impl_box_below rfl ?_
  simp (disch := omega) only [C.impl_box_below, ↓SXd, SXu, slBounds, ↓sop, ↓aop, ↓reduceIte, LV.cells, AOp.dst, LV.I, LV.B, LV.U, LV.S, LV.nil, Nat.reduceEqDiff, Nat.reduceAdd, Nat.reduceMul, Nat.reduceSub, Nat.reduceLeDiff, Nat.reduceBEq, Nat.reduceDiv, Nat.reduceMod, Int.reduceToNat, Int.reduceLT, Int.reduceLE, Int.reduceAdd, Int.reduceSub, Int.reduceMul, Int.reduceEq, Int.reduceNeg, reduceCtorEq, resV, resAll, ARes.ev, LV.flat, ite_true, ite_false, exists_eq_left', exists_eq_left, keyOf, implies_true, fillC, capOf]
  refine callK_of (g_those hS (p := fun d => decide (undC d c)) (f := F.impl_box_below_1) (caps := [(M.length + 1, 0)]) fun M' hp i hi => ?_) ?_
  · exact g_below_1 ((Live.newj (j := 1) rfl).pre hp)
  simp (disch := omega) only [↓SXd, SXu, slBounds, ↓sop, ↓aop, ↓reduceIte, LV.cells, AOp.dst, LV.I, LV.B, LV.U, LV.S, LV.nil, Nat.reduceEqDiff, Nat.reduceAdd, Nat.reduceMul, Nat.reduceSub, Nat.reduceLeDiff, Nat.reduceBEq, Nat.reduceDiv, Nat.reduceMod, Int.reduceToNat, Int.reduceLT, Int.reduceLE, Int.reduceAdd, Int.reduceSub, Int.reduceMul, Int.reduceEq, Int.reduceNeg, reduceCtorEq, resV, resAll, ARes.ev, LV.flat, ite_true, ite_false, exists_eq_left', exists_eq_left, keyOf, implies_true, fillC, capOf]
  exact cmp_drop rfl
theorem g_box_isStair {p : Cell → Bool} {M : Mem} : CallsTo PG F.impl_box_isStair [.agg [.I x, .I y, .I z], .W (bs x y z p)] M (.B (decide (StairP x y z p))) M := by
  refine calls_run K.impl_box_isStair rfl ?_
  simp (disch := omega) only [C.impl_box_isStair, ↓SXd, SXu, slBounds, ↓sop, ↓aop, ↓reduceIte, LV.cells, AOp.dst, LV.I, LV.B, LV.U, LV.S, LV.nil, Nat.reduceEqDiff, Nat.reduceAdd, Nat.reduceMul, Nat.reduceSub, Nat.reduceLeDiff, Nat.reduceBEq, Nat.reduceDiv, Nat.reduceMod, Int.reduceToNat, Int.reduceLT, Int.reduceLE, Int.reduceAdd, Int.reduceSub, Int.reduceMul, Int.reduceEq, Int.reduceNeg, reduceCtorEq, resV, resAll, ARes.ev, LV.flat, ite_true, ite_false, exists_eq_left', exists_eq_left, keyOf, implies_true, fillC, capOf]
  have hpl := pick_len hS p
  refine callN_of (g_list hS (p := p)) ?_
  intro t1 N1 ht1 hp1 hr
  simp (disch := omega) only [↓SXd, SXu, slBounds, ↓sop, ↓aop, ↓reduceIte, LV.cells, AOp.dst, LV.I, LV.B, LV.U, LV.S, LV.nil, Nat.reduceEqDiff, Nat.reduceAdd, Nat.reduceMul, Nat.reduceSub, Nat.reduceLeDiff, Nat.reduceBEq, Nat.reduceDiv, Nat.reduceMod, Int.reduceToNat, Int.reduceLT, Int.reduceLE, Int.reduceAdd, Int.reduceSub, Int.reduceMul, Int.reduceEq, Int.reduceNeg, reduceCtorEq, resV, resAll, ARes.ev, LV.flat, ite_true, ite_false, exists_eq_left', exists_eq_left, keyOf, implies_true, fillC, capOf]
  have b2 : Live N1 M.length (.row [.I x, .I y, .I z] true 0) := Live.new.pre hp1
  refine ev_loop (fun m fr M' => ∃ k : Nat, k + m = (pick x y z p).length ∧ Pre N1 M' ∧ (∀ c ∈ (pick x y z p).take k, ∀ d, d.inBox x y z → undC d c → p d = true) ∧ fr 1 = .W (bs x y z p) ∧ fr 2 = .ptr M.length 0 ∧ fr 9 = .ref t1 0 (pick x y z p).length ∧ fr 10 = .I ((pick x y z p).length : Nat) ∧ fr 11 = .I k) (pick x y z p).length
    ⟨0, by omega, Pre.refl _, by simp, rfl, rfl, rfl, rfl, rfl⟩ ?_
  rintro m fr M' ⟨k, hk, hp2, hall, f1, f2, f9, f10, f11⟩
  have hpM : Pre M M' := ((Pre.app _ _).trans hp1).trans hp2
  have b2' := b2.pre hp2
  simp (disch := omega) only [f1, f2, f9, f10, f11, ↓SXd, SXu, slBounds, ↓sop, ↓aop, ↓reduceIte, LV.cells, AOp.dst, LV.I, LV.B, LV.U, LV.S, LV.nil, Nat.reduceEqDiff, Nat.reduceAdd, Nat.reduceMul, Nat.reduceSub, Nat.reduceLeDiff, Nat.reduceBEq, Nat.reduceDiv, Nat.reduceMod, Int.reduceToNat, Int.reduceLT, Int.reduceLE, Int.reduceAdd, Int.reduceSub, Int.reduceMul, Int.reduceEq, Int.reduceNeg, reduceCtorEq, resV, resAll, ARes.ev, LV.flat, ite_true, ite_false, exists_eq_left', exists_eq_left, keyOf, implies_true, fillC, capOf]
  refine condC_dec (fun hlt => ?_) (fun hlt => ?_)
  · have hkl : k < (pick x y z p).length := by omega
    have hrk := (hr.pre hp2).tri0 hkl
    have hcm := (mem_pick hS).1 (getD_mem' (d := default) hkl)
    have hts : (pick x y z p).take (k + 1) = (pick x y z p).take k ++ [(pick x y z p).getD k default] := by
      rw [List.take_succ, List.getElem?_eq_getElem hkl]; simp [hkl]
    generalize (pick x y z p).getD k default = c at hrk hcm hts
    simp (disch := omega) only [f1, f2, f9, f10, f11, hrk, Cell.row, splice, b2'.app.cells, ↓SXd, SXu, slBounds, ↓sop, ↓aop, ↓reduceIte, LV.cells, AOp.dst, LV.I, LV.B, LV.U, LV.S, LV.nil, Nat.reduceEqDiff, Nat.reduceAdd, Nat.reduceMul, Nat.reduceSub, Nat.reduceLeDiff, Nat.reduceBEq, Nat.reduceDiv, Nat.reduceMod, Int.reduceToNat, Int.reduceLT, Int.reduceLE, Int.reduceAdd, Int.reduceSub, Int.reduceMul, Int.reduceEq, Int.reduceNeg, reduceCtorEq, resV, resAll, ARes.ev, LV.flat, ite_true, ite_false, exists_eq_left', exists_eq_left, keyOf, implies_true, fillC, capOf]
    refine callK_of (g_below hS (c := c)) ?_
    simp (disch := omega) only [f1, f2, f9, f10, f11, ↓SXd, SXu, slBounds, ↓sop, ↓aop, ↓reduceIte, LV.cells, AOp.dst, LV.I, LV.B, LV.U, LV.S, LV.nil, Nat.reduceEqDiff, Nat.reduceAdd, Nat.reduceMul, Nat.reduceSub, Nat.reduceLeDiff, Nat.reduceBEq, Nat.reduceDiv, Nat.reduceMod, Int.reduceToNat, Int.reduceLT, Int.reduceLE, Int.reduceAdd, Int.reduceSub, Int.reduceMul, Int.reduceEq, Int.reduceNeg, reduceCtorEq, resV, resAll, ARes.ev, LV.flat, ite_true, ite_false, exists_eq_left', exists_eq_left, keyOf, implies_true, fillC, capOf]
    rw [bs_diff hS]
    by_cases hz : bs x y z (fun d => decide (undC d c) && !p d) = 0#64
    · have hz' := (bs_zero hS).1 hz
      simp (disch := omega) only [f1, f2, f9, f10, f11, hz, ↓SXd, SXu, slBounds, ↓sop, ↓aop, ↓reduceIte, LV.cells, AOp.dst, LV.I, LV.B, LV.U, LV.S, LV.nil, Nat.reduceEqDiff, Nat.reduceAdd, Nat.reduceMul, Nat.reduceSub, Nat.reduceLeDiff, Nat.reduceBEq, Nat.reduceDiv, Nat.reduceMod, Int.reduceToNat, Int.reduceLT, Int.reduceLE, Int.reduceAdd, Int.reduceSub, Int.reduceMul, Int.reduceEq, Int.reduceNeg, reduceCtorEq, resV, resAll, ARes.ev, LV.flat, ite_true, ite_false, exists_eq_left', exists_eq_left, keyOf, implies_true, fillC, capOf]
      refine ⟨m - 1, by omega, k + 1, by omega, hp2.app', fun e he d hd hl => ?_, f1, f2, f9, f10, eqI (natI _)⟩
      rw [hts] at he
      rcases List.mem_append.1 he with he | he
      · exact hall e he d hd hl
      · rw [List.mem_singleton.1 he] at hl
        have := hz' d hd
        rw [decide_eq_true hl, Bool.true_and, Bool.not_eq_false'] at this
        exact this
    · have hno : ¬ StairP x y z p := fun hst => hz ((bs_zero hS).2 fun d hd => by
        cases hl : decide (undC d c) with
        | false => rfl
        | true => rw [hst c hcm.1 hcm.2 d hd (of_decide_eq_true hl)]; rfl)
      rw [decide_eq_false hno]
      simp (disch := omega) only [f1, f2, f9, f10, f11, hz, ↓SXd, SXu, slBounds, ↓sop, ↓aop, ↓reduceIte, LV.cells, AOp.dst, LV.I, LV.B, LV.U, LV.S, LV.nil, Nat.reduceEqDiff, Nat.reduceAdd, Nat.reduceMul, Nat.reduceSub, Nat.reduceLeDiff, Nat.reduceBEq, Nat.reduceDiv, Nat.reduceMod, Int.reduceToNat, Int.reduceLT, Int.reduceLE, Int.reduceAdd, Int.reduceSub, Int.reduceMul, Int.reduceEq, Int.reduceNeg, reduceCtorEq, resV, resAll, ARes.ev, LV.flat, ite_true, ite_false, exists_eq_left', exists_eq_left, keyOf, implies_true, fillC, capOf]
      exact cmp_pre hpM.app' rfl
  · have : k = (pick x y z p).length := by omega
    subst this
    rw [List.take_length] at hall
    rw [decide_eq_true (show StairP x y z p from fun c hc hp d hd hl => hall c ((mem_pick hS).2 ⟨hc, hp⟩) d hd hl)]
    simp (disch := omega) only [f1, f2, f9, f10, f11, ↓SXd, SXu, slBounds, ↓sop, ↓aop, ↓reduceIte, LV.cells, AOp.dst, LV.I, LV.B, LV.U, LV.S, LV.nil, Nat.reduceEqDiff, Nat.reduceAdd, Nat.reduceMul, Nat.reduceSub, Nat.reduceLeDiff, Nat.reduceBEq, Nat.reduceDiv, Nat.reduceMod, Int.reduceToNat, Int.reduceLT, Int.reduceLE, Int.reduceAdd, Int.reduceSub, Int.reduceMul, Int.reduceEq, Int.reduceNeg, reduceCtorEq, resV, resAll, ARes.ev, LV.flat, ite_true, ite_false, exists_eq_left', exists_eq_left, keyOf, implies_true, fillC, capOf]
    exact cmp_pre hpM rfl
theorem g_stairCorners_1 {p : Cell → Bool} {c : Cell} {b1 b2 : Nat} {M : Mem} (hc : c.inBox x y z) (h1 : getCells M b1 0 3 = some [.I x, .I y, .I z]) (h2 : getCell M b2 0 = some (.W (bs x y z p))) (hl1 : b1 < M.length) (hl2 : b2 < M.length) :
    CallsTo PG F.impl_box_stairCorners_1 [.agg [.I c.a, .I c.b, .I c.c], .ptr b1 0, .ptr b2 0] M (.B (cornC x y z p c)) M := by
  have hix := (idx_in hS hc).1
  refine calls_run K.impl_box_stairCorners_1 rfl ?_
  simp (disch := omega) only [C.impl_box_stairCorners_1, getCells_app, h1, getCell_app, h2, ↓SXd, SXu, slBounds, ↓sop, ↓aop, ↓reduceIte, LV.cells, AOp.dst, LV.I, LV.B, LV.U, LV.S, LV.nil, Nat.reduceEqDiff, Nat.reduceAdd, Nat.reduceMul, Nat.reduceSub, Nat.reduceLeDiff, Nat.reduceBEq, Nat.reduceDiv, Nat.reduceMod, Int.reduceToNat, Int.reduceLT, Int.reduceLE, Int.reduceAdd, Int.reduceSub, Int.reduceMul, Int.reduceEq, Int.reduceNeg, reduceCtorEq, resV, resAll, ARes.ev, LV.flat, ite_true, ite_false, exists_eq_left', exists_eq_left, keyOf, implies_true, fillC, capOf]
  refine callK_of (g_index hS hc) ?_
  simp (disch := omega) only [getCells_app, h1, getCell_app, h2, ↓SXd, SXu, slBounds, ↓sop, ↓aop, ↓reduceIte, LV.cells, AOp.dst, LV.I, LV.B, LV.U, LV.S, LV.nil, Nat.reduceEqDiff, Nat.reduceAdd, Nat.reduceMul, Nat.reduceSub, Nat.reduceLeDiff, Nat.reduceBEq, Nat.reduceDiv, Nat.reduceMod, Int.reduceToNat, Int.reduceLT, Int.reduceLE, Int.reduceAdd, Int.reduceSub, Int.reduceMul, Int.reduceEq, Int.reduceNeg, reduceCtorEq, resV, resAll, ARes.ev, LV.flat, ite_true, ite_false, exists_eq_left', exists_eq_left, keyOf, implies_true, fillC, capOf]
  rw [bs_one hS hc, bs_and hS]
  unfold cornC
  have hz : (bs x y z (fun d => p d && decide (d = c)) = 0#64) ↔ p c = false := by
    rw [bs_zero hS]
    constructor
    · intro h; have := h c hc; simpa using this
    · intro h d _
      by_cases e : d = c
      · subst e; simp [h]
      · simp [e]
  cases hp : p c with
  | false =>
    simp (disch := omega) only [hz.2, hp, ↓SXd, SXu, slBounds, ↓sop, ↓aop, ↓reduceIte, LV.cells, AOp.dst, LV.I, LV.B, LV.U, LV.S, LV.nil, Nat.reduceEqDiff, Nat.reduceAdd, Nat.reduceMul, Nat.reduceSub, Nat.reduceLeDiff, Nat.reduceBEq, Nat.reduceDiv, Nat.reduceMod, Int.reduceToNat, Int.reduceLT, Int.reduceLE, Int.reduceAdd, Int.reduceSub, Int.reduceMul, Int.reduceEq, Int.reduceNeg, reduceCtorEq, resV, resAll, ARes.ev, LV.flat, ite_true, ite_false, exists_eq_left', exists_eq_left, keyOf, implies_true, fillC, capOf]
    exact cmp_drop rfl
  | true =>
    have hz' : ¬ (bs x y z (fun d => p d && decide (d = c)) = 0#64) := fun e => by rw [hz.1 e] at hp; cases hp
    simp (disch := omega) only [hz', getCells_app, h1, getCell_app, h2, ↓SXd, SXu, slBounds, ↓sop, ↓aop, ↓reduceIte, LV.cells, AOp.dst, LV.I, LV.B, LV.U, LV.S, LV.nil, Nat.reduceEqDiff, Nat.reduceAdd, Nat.reduceMul, Nat.reduceSub, Nat.reduceLeDiff, Nat.reduceBEq, Nat.reduceDiv, Nat.reduceMod, Int.reduceToNat, Int.reduceLT, Int.reduceLE, Int.reduceAdd, Int.reduceSub, Int.reduceMul, Int.reduceEq, Int.reduceNeg, reduceCtorEq, resV, resAll, ARes.ev, LV.flat, ite_true, ite_false, exists_eq_left', exists_eq_left, keyOf, implies_true, fillC, capOf]
    rw [bs_diff hS]
    refine callK_of (g_box_isStair hS) ?_
    simp (disch := omega) only [↓SXd, SXu, slBounds, ↓sop, ↓aop, ↓reduceIte, LV.cells, AOp.dst, LV.I, LV.B, LV.U, LV.S, LV.nil, Nat.reduceEqDiff, Nat.reduceAdd, Nat.reduceMul, Nat.reduceSub, Nat.reduceLeDiff, Nat.reduceBEq, Nat.reduceDiv, Nat.reduceMod, Int.reduceToNat, Int.reduceLT, Int.reduceLE, Int.reduceAdd, Int.reduceSub, Int.reduceMul, Int.reduceEq, Int.reduceNeg, reduceCtorEq, resV, resAll, ARes.ev, LV.flat, ite_true, ite_false, exists_eq_left', exists_eq_left, keyOf, implies_true, fillC, capOf]
    exact cmp_drop rfl
theorem g_stairCorners {p : Cell → Bool} {M : Mem} : CallsTo PG F.impl_box_stairCorners [.agg [.I x, .I y, .I z], .W (bs x y z p)] M (.W (bs x y z (cornC x y z p))) M := by
  have hv := vol_cast hS
  refine calls_run K.impl_box_stairCorners rfl ?_
  simp (disch := omega) only [C.impl_box_stairCorners, ↓SXd, SXu, slBounds, ↓sop, ↓aop, ↓reduceIte, LV.cells, AOp.dst, LV.I, LV.B, LV.U, LV.S, LV.nil, Nat.reduceEqDiff, Nat.reduceAdd, Nat.reduceMul, Nat.reduceSub, Nat.reduceLeDiff, Nat.reduceBEq, Nat.reduceDiv, Nat.reduceMod, Int.reduceToNat, Int.reduceLT, Int.reduceLE, Int.reduceAdd, Int.reduceSub, Int.reduceMul, Int.reduceEq, Int.reduceNeg, reduceCtorEq, resV, resAll, ARes.ev, LV.flat, ite_true, ite_false, exists_eq_left', exists_eq_left, keyOf, implies_true, fillC, capOf]
  refine callK_of (g_those hS (p := cornC x y z p) (f := F.impl_box_stairCorners_1) (caps := [(M.length, 0), (M.length + 1, 0)]) fun M' hp i hi => ?_) ?_
  · have l0 : Live M' M.length (.row [.I x, .I y, .I z] true 0) := Live.new.pre hp
    have l1 : Live M' (M.length + 1) (.row [.W (bs x y z p)] true 0) := (Live.newj (j := 1) rfl).pre hp
    exact g_stairCorners_1 hS (cellAt_in hS (by omega) (by omega)).1 (by rw [l0.cells]; rfl) (by rw [l1.cell]; rfl) l0.lt l1.lt
  · simp (disch := omega) only [↓SXd, SXu, slBounds, ↓sop, ↓aop, ↓reduceIte, LV.cells, AOp.dst, LV.I, LV.B, LV.U, LV.S, LV.nil, Nat.reduceEqDiff, Nat.reduceAdd, Nat.reduceMul, Nat.reduceSub, Nat.reduceLeDiff, Nat.reduceBEq, Nat.reduceDiv, Nat.reduceMod, Int.reduceToNat, Int.reduceLT, Int.reduceLE, Int.reduceAdd, Int.reduceSub, Int.reduceMul, Int.reduceEq, Int.reduceNeg, reduceCtorEq, resV, resAll, ARes.ev, LV.flat, ite_true, ite_false, exists_eq_left', exists_eq_left, keyOf, implies_true, fillC, capOf]
    exact cmp_drop rfl
end
theorem g_isStair {x y z : Int} {t o : Nat} {cs : List Cell} {M : Mem} (h : Tri M t o cs) (hn : cs.length ≤ 1000000000) :
    CallsTo PG F.impl_isStair [.agg [.I x, .I y, .I z, .ref t o cs.length]] M (.B (strB x y z cs)) M := by
  refine calls_run K.impl_isStair rfl ?_
  simp (disch := omega) only [C.impl_isStair, ↓SXd, SXu, slBounds, ↓sop, ↓aop, ↓reduceIte, LV.cells, AOp.dst, LV.I, LV.B, LV.U, LV.S, LV.nil, Nat.reduceEqDiff, Nat.reduceAdd, Nat.reduceMul, Nat.reduceSub, Nat.reduceLeDiff, Nat.reduceBEq, Nat.reduceDiv, Nat.reduceMod, Int.reduceToNat, Int.reduceLT, Int.reduceLE, Int.reduceAdd, Int.reduceSub, Int.reduceMul, Int.reduceEq, Int.reduceNeg, reduceCtorEq, resV, resAll, ARes.ev, LV.flat, ite_true, ite_false, exists_eq_left', exists_eq_left, keyOf, implies_true, fillC, capOf]
  refine callK_of (g_IsHeap h.app hn) ?_
  simp (disch := omega) only [↓SXd, SXu, slBounds, ↓sop, ↓aop, ↓reduceIte, LV.cells, AOp.dst, LV.I, LV.B, LV.U, LV.S, LV.nil, Nat.reduceEqDiff, Nat.reduceAdd, Nat.reduceMul, Nat.reduceSub, Nat.reduceLeDiff, Nat.reduceBEq, Nat.reduceDiv, Nat.reduceMod, Int.reduceToNat, Int.reduceLT, Int.reduceLE, Int.reduceAdd, Int.reduceSub, Int.reduceMul, Int.reduceEq, Int.reduceNeg, reduceCtorEq, resV, resAll, ARes.ev, LV.flat, ite_true, ite_false, exists_eq_left', exists_eq_left, keyOf, implies_true, fillC, capOf]
  by_cases hH : HeapOK x y z cs
  · have e : strB x y z cs = decide (StairP x y z fun c => decide (c ∈ cs)) := by
      rw [Bool.eq_iff_iff, strB_iff, decide_eq_true_iff]
      exact ⟨fun h => h.2, fun h => ⟨hH, h⟩⟩
    rw [e]
    simp (disch := omega) only [hH, ↓SXd, SXu, slBounds, ↓sop, ↓aop, ↓reduceIte, LV.cells, AOp.dst, LV.I, LV.B, LV.U, LV.S, LV.nil, Nat.reduceEqDiff, Nat.reduceAdd, Nat.reduceMul, Nat.reduceSub, Nat.reduceLeDiff, Nat.reduceBEq, Nat.reduceDiv, Nat.reduceMod, Int.reduceToNat, Int.reduceLT, Int.reduceLE, Int.reduceAdd, Int.reduceSub, Int.reduceMul, Int.reduceEq, Int.reduceNeg, reduceCtorEq, resV, resAll, ARes.ev, LV.flat, ite_true, ite_false, exists_eq_left', exists_eq_left, keyOf, implies_true, fillC, capOf]
    refine callK_of (g_box) ?_
    simp (disch := omega) only [↓SXd, SXu, slBounds, ↓sop, ↓aop, ↓reduceIte, LV.cells, AOp.dst, LV.I, LV.B, LV.U, LV.S, LV.nil, Nat.reduceEqDiff, Nat.reduceAdd, Nat.reduceMul, Nat.reduceSub, Nat.reduceLeDiff, Nat.reduceBEq, Nat.reduceDiv, Nat.reduceMod, Int.reduceToNat, Int.reduceLT, Int.reduceLE, Int.reduceAdd, Int.reduceSub, Int.reduceMul, Int.reduceEq, Int.reduceNeg, reduceCtorEq, resV, resAll, ARes.ev, LV.flat, ite_true, ite_false, exists_eq_left', exists_eq_left, keyOf, implies_true, fillC, capOf]
    refine callK_of (g_cubes h.app hn hH.1 (fun c hc => hH.mem hc)) ?_
    simp (disch := omega) only [↓SXd, SXu, slBounds, ↓sop, ↓aop, ↓reduceIte, LV.cells, AOp.dst, LV.I, LV.B, LV.U, LV.S, LV.nil, Nat.reduceEqDiff, Nat.reduceAdd, Nat.reduceMul, Nat.reduceSub, Nat.reduceLeDiff, Nat.reduceBEq, Nat.reduceDiv, Nat.reduceMod, Int.reduceToNat, Int.reduceLT, Int.reduceLE, Int.reduceAdd, Int.reduceSub, Int.reduceMul, Int.reduceEq, Int.reduceNeg, reduceCtorEq, resV, resAll, ARes.ev, LV.flat, ite_true, ite_false, exists_eq_left', exists_eq_left, keyOf, implies_true, fillC, capOf]
    refine callK_of (g_box_isStair hH.1) ?_
    simp (disch := omega) only [↓SXd, SXu, slBounds, ↓sop, ↓aop, ↓reduceIte, LV.cells, AOp.dst, LV.I, LV.B, LV.U, LV.S, LV.nil, Nat.reduceEqDiff, Nat.reduceAdd, Nat.reduceMul, Nat.reduceSub, Nat.reduceLeDiff, Nat.reduceBEq, Nat.reduceDiv, Nat.reduceMod, Int.reduceToNat, Int.reduceLT, Int.reduceLE, Int.reduceAdd, Int.reduceSub, Int.reduceMul, Int.reduceEq, Int.reduceNeg, reduceCtorEq, resV, resAll, ARes.ev, LV.flat, ite_true, ite_false, exists_eq_left', exists_eq_left, keyOf, implies_true, fillC, capOf]
    exact cmp_drop rfl
  · rw [str_no fun h => hH h.1]
    simp (disch := omega) only [hH, ↓SXd, SXu, slBounds, ↓sop, ↓aop, ↓reduceIte, LV.cells, AOp.dst, LV.I, LV.B, LV.U, LV.S, LV.nil, Nat.reduceEqDiff, Nat.reduceAdd, Nat.reduceMul, Nat.reduceSub, Nat.reduceLeDiff, Nat.reduceBEq, Nat.reduceDiv, Nat.reduceMod, Int.reduceToNat, Int.reduceLT, Int.reduceLE, Int.reduceAdd, Int.reduceSub, Int.reduceMul, Int.reduceEq, Int.reduceNeg, reduceCtorEq, resV, resAll, ARes.ev, LV.flat, ite_true, ite_false, exists_eq_left', exists_eq_left, keyOf, implies_true, fillC, capOf]
    exact cmp_drop rfl
end Go.Ab

/- Contracts: turned heaps of the program, lines of staircases, corners, orders. -/
namespace Go.Ab
open Go
set_option linter.unusedSimpArgs false
set_option linter.unusedVariables false
set_option maxRecDepth 20000

theorem ord_dir {i : Nat} (hi : i < 6) : Dir (ordAt i).a ∧ Dir (ordAt i).b ∧ Dir (ordAt i).c := by
  unfold Dir
  rcases (show i = 0 ∨ i = 1 ∨ i = 2 ∨ i = 3 ∨ i = 4 ∨ i = 5 by omega) with rfl | rfl | rfl | rfl | rfl | rfl <;> decide
theorem dir_lt {s : Int} (h : Dir s) : 0 ≤ s ∧ s < 3 := by unfold Dir at h; omega

theorem g_turned_1 {c o : Cell} {u : Nat} {M : Mem} (h : Live M u (.row [.I o.a, .I o.b, .I o.c] true 0)) (ho : Dir o.a ∧ Dir o.b ∧ Dir o.c) :
    CallsTo PG F.impl_Heap_turned_1 [.agg [.I c.a, .I c.b, .I c.c], .ptr u 0] M (.agg [.I (permC o c).a, .I (permC o c).b, .I (permC o c).c]) M := by
  refine calls_run K.impl_Heap_turned_1 rfl ?_
  have r1 : [LV.val (.int .i64 c.a), .val (.int .i64 c.b), .val (.int .i64 c.c)][o.a.toNat]? = some (.I (c.at o.a)) := Cell.row_dir ho.1
  have r2 : [LV.val (.int .i64 c.a), .val (.int .i64 c.b), .val (.int .i64 c.c)][o.b.toNat]? = some (.I (c.at o.b)) := Cell.row_dir ho.2.1
  have r3 : [LV.val (.int .i64 c.a), .val (.int .i64 c.b), .val (.int .i64 c.c)][o.c.toNat]? = some (.I (c.at o.c)) := Cell.row_dir ho.2.2
  have h1 := dir_lt ho.1
  have h2 := dir_lt ho.2.1
  have h3 := dir_lt ho.2.2
  simp (disch := omega) only [C.impl_Heap_turned_1, h.app.cell, r1, r2, r3, Nat.mul_one, Nat.zero_add, splice, ↓SXd, SXu, slBounds, ↓sop, ↓aop, ↓reduceIte, LV.cells, AOp.dst, LV.I, LV.B, LV.U, LV.S, LV.nil, Nat.reduceEqDiff, Nat.reduceAdd, Nat.reduceMul, Nat.reduceSub, Nat.reduceLeDiff, Nat.reduceBEq, Nat.reduceDiv, Nat.reduceMod, Int.reduceToNat, Int.reduceLT, Int.reduceLE, Int.reduceAdd, Int.reduceSub, Int.reduceMul, Int.reduceEq, Int.reduceNeg, reduceCtorEq, resV, resAll, ARes.ev, LV.flat, ite_true, ite_false, exists_eq_left', exists_eq_left, keyOf, implies_true, fillC, capOf]
  exact cmp_drop rfl
theorem g_turned {x y z : Int} {t o : Nat} {cs : List Cell} {i : Nat} {M : Mem} (h : Tri M t o cs) (hH : HeapOK x y z cs) (hi : i < 6) :
    CallsR PG F.impl_Heap_turned [.agg [.I x, .I y, .I z, .ref t o cs.length], .agg [.I (ordAt i).a, .I (ordAt i).b, .I (ordAt i).c]] M fun v N => HeapV M (exHp (ordAt i) ⟨x, y, z, cs⟩).x (exHp (ordAt i) ⟨x, y, z, cs⟩).y (exHp (ordAt i) ⟨x, y, z, cs⟩).z (exHp (ordAt i) ⟨x, y, z, cs⟩).cs v N ∧ Pre M N := by
  have hlen := hH.len
  have hS := hH.1
  have ho := ord_dir hi
  have hS' := ord_sides hi hS
  have hin : ∀ c ∈ cs, (permC (ordAt i) c).inBox (permC (ordAt i) ⟨x, y, z⟩).a (permC (ordAt i) ⟨x, y, z⟩).b (permC (ordAt i) ⟨x, y, z⟩).c := fun c hc => ord_box hi (hH.mem hc)
  show CallsR PG F.impl_Heap_turned _ M fun v N => HeapV M (permC (ordAt i) ⟨x, y, z⟩).a (permC (ordAt i) ⟨x, y, z⟩).b (permC (ordAt i) ⟨x, y, z⟩).c (pick (permC (ordAt i) ⟨x, y, z⟩).a (permC (ordAt i) ⟨x, y, z⟩).b (permC (ordAt i) ⟨x, y, z⟩).c fun d => decide (d ∈ cs.map (permC (ordAt i)))) v N ∧ Pre M N
  generalize ordAt i = w at ho hS' hin ⊢
  refine callsR_run K.impl_Heap_turned rfl ?_
  have r1 : [LV.val (.int .i64 x), .val (.int .i64 y), .val (.int .i64 z)][w.a.toNat]? = some (.I (permC w ⟨x, y, z⟩).a) := Cell.row_dir (c := ⟨x, y, z⟩) ho.1
  have r2 : [LV.val (.int .i64 x), .val (.int .i64 y), .val (.int .i64 z)][w.b.toNat]? = some (.I (permC w ⟨x, y, z⟩).b) := Cell.row_dir (c := ⟨x, y, z⟩) ho.2.1
  have r3 : [LV.val (.int .i64 x), .val (.int .i64 y), .val (.int .i64 z)][w.c.toNat]? = some (.I (permC w ⟨x, y, z⟩).c) := Cell.row_dir (c := ⟨x, y, z⟩) ho.2.2
  have h1 := dir_lt ho.1
  have h2 := dir_lt ho.2.1
  have h3 := dir_lt ho.2.2
  simp (disch := omega) only [C.impl_Heap_turned, ↓SXd, SXu, slBounds, ↓sop, ↓aop, ↓reduceIte, LV.cells, AOp.dst, LV.I, LV.B, LV.U, LV.S, LV.nil, Nat.reduceEqDiff, Nat.reduceAdd, Nat.reduceMul, Nat.reduceSub, Nat.reduceLeDiff, Nat.reduceBEq, Nat.reduceDiv, Nat.reduceMod, Int.reduceToNat, Int.reduceLT, Int.reduceLE, Int.reduceAdd, Int.reduceSub, Int.reduceMul, Int.reduceEq, Int.reduceNeg, reduceCtorEq, resV, resAll, ARes.ev, LV.flat, ite_true, ite_false, exists_eq_left', exists_eq_left, keyOf, implies_true, fillC, capOf]
  refine callK_of (g_box) ?_
  simp (disch := omega) only [splice, r1, r2, r3, Nat.mul_one, Nat.zero_add, ↓SXd, SXu, slBounds, ↓sop, ↓aop, ↓reduceIte, LV.cells, AOp.dst, LV.I, LV.B, LV.U, LV.S, LV.nil, Nat.reduceEqDiff, Nat.reduceAdd, Nat.reduceMul, Nat.reduceSub, Nat.reduceLeDiff, Nat.reduceBEq, Nat.reduceDiv, Nat.reduceMod, Int.reduceToNat, Int.reduceLT, Int.reduceLE, Int.reduceAdd, Int.reduceSub, Int.reduceMul, Int.reduceEq, Int.reduceNeg, reduceCtorEq, resV, resAll, ARes.ev, LV.flat, ite_true, ite_false, exists_eq_left', exists_eq_left, keyOf, implies_true, fillC, capOf]
  have hmv := g_moved (x := x) (y := y) (z := z) (g := permC w) (f := F.impl_Heap_turned_1) (caps := [(M.length + 1, 0)]) (M := M ++ [some (.row [.I x, .I y, .I z, .ref t o cs.length] true 0), some (.row [.I w.a, .I w.b, .I w.c] true 0), some (.row [.I 0, .I 0, .I 0, .nil] true 0), some (.row [.I x, .I y, .I z] true 0)]) h.app (by omega) hS' hin fun M' hp c hc => g_turned_1 ((Live.newj (j := 1) rfl).pre hp) ho
  generalize permC w ⟨x, y, z⟩ = D at hS' hmv ⊢
  refine callK_of hmv ?_
  simp (disch := omega) only [splice, ↓SXd, SXu, slBounds, ↓sop, ↓aop, ↓reduceIte, LV.cells, AOp.dst, LV.I, LV.B, LV.U, LV.S, LV.nil, Nat.reduceEqDiff, Nat.reduceAdd, Nat.reduceMul, Nat.reduceSub, Nat.reduceLeDiff, Nat.reduceBEq, Nat.reduceDiv, Nat.reduceMod, Int.reduceToNat, Int.reduceLT, Int.reduceLE, Int.reduceAdd, Int.reduceSub, Int.reduceMul, Int.reduceEq, Int.reduceNeg, reduceCtorEq, resV, resAll, ARes.ev, LV.flat, ite_true, ite_false, exists_eq_left', exists_eq_left, keyOf, implies_true, fillC, capOf]
  refine ⟨⟨M.length + 4, rfl, Live.newj (j := 4) rfl, by omega⟩, Pre.app _ _⟩
end Go.Ab

/- The abstract code of some functions (written by a program of mine from the translation, by way of prepF). -/
namespace Go.Ab.C
open Go.Ab
def spec_l5Stair : AFn :=
 ⟨1, 37, [.tmp 2],
 .seq (.ops [(none, .box 1 (.t 0)),
 (none, .mv 2 (.c (.B false)))])
 (.seq (.seq (.ops [(none, .mv 3 (.c (.I 0)))])
 (.block 0 (.loop (.seq (.seq (.ops [(none, .mv 6 (.t 3)),
 (none, .fieldAddr 7 (.t 1) 3),
 (none, .load1 8 (.t 7)),
 (none, .len 9 (.t 8)),
 (none, .bin 10 .lss (.t 6) (.t 9))])
 (.cond (.t 10) (.skip)
 (.exit 0)))
 (.seq (.block 1 (.seq (.ops [(none, .mv 4 (.c (.I 0)))])
 (.block 2 (.loop (.seq (.seq (.ops [(none, .mv 13 (.t 4)),
 (none, .bin 14 .lss (.t 13) (.c (.I 3)))])
 (.cond (.t 14) (.skip)
 (.exit 2)))
 (.seq (.block 3 (.seq (.ops [(none, .fieldAddr 17 (.t 1) 3),
 (none, .load1 18 (.t 17)),
 (none, .mv 19 (.t 3)),
 (none, .idxS 20 3 (.t 18) (.t 19)),
 (none, .loadN 21 3 (.t 20)),
 (none, .alloc 5 [(.I 0), (.I 0), (.I 0)]),
 (none, .store 3 (.t 5) (.t 21))])
 (.seq (.ops [(none, .mv 22 (.t 4)),
 (none, .idxA 23 3 1 (.t 5) (.t 22)),
 (none, .load1 24 (.t 23)),
 (none, .bin 25 .sub (.t 24) (.c (.I 1))),
 (none, .idxA 26 3 1 (.t 5) (.t 22)),
 (none, .store 1 (.t 26) (.t 25))])
 (.seq (.ops [(none, .mv 27 (.t 4)),
 (none, .idxA 28 3 1 (.t 5) (.t 27)),
 (none, .load1 29 (.t 28)),
 (none, .bin 30 .geq (.t 29) (.c (.I 0))),
 (none, .mv 31 (.t 30)),
 (some (31, true), .loadN 32 4 (.t 1)),
 (some (31, true), .loadN 33 3 (.t 5)),
 (some (31, true), .call (some 34) F.spec_l2Has [(.t 32), (.t 33)]),
 (some (31, true), .un 35 .not (.t 34)),
 (none, .pick 36 (.t 31) (.t 35) (.c (.B false)))])
 (.cond (.t 36) (.seq (.ops [(none, .mv 2 (.c (.B false)))])
 (.ret))
 (.skip))))))
 (.ops [(none, .mv 15 (.t 4)),
 (none, .bin 16 .add (.t 15) (.c (.I 1))),
 (none, .mv 4 (.t 16))])))))))
 (.ops [(none, .mv 11 (.t 3)),
 (none, .bin 12 .add (.t 11) (.c (.I 1))),
 (none, .mv 3 (.t 12))]))))))
 (.seq (.ops [(none, .mv 2 (.c (.B true)))])
 (.ret)))⟩
def spec_l5Good : AFn :=
 ⟨1, 9, [.tmp 2],
 .seq (.ops [(none, .box 1 (.t 0)),
 (none, .mv 2 (.c (.B false)))])
 (.seq (.ops [(none, .loadN 3 4 (.t 1)),
 (none, .call (some 4) F.spec_l2Heap [(.t 3)]),
 (none, .mv 5 (.t 4)),
 (some (5, true), .loadN 6 4 (.t 1)),
 (some (5, true), .call (some 7) F.spec_l5Stair [(.t 6)]),
 (none, .pick 8 (.t 5) (.t 7) (.c (.B false))),
 (none, .mv 2 (.t 8))])
 (.ret))⟩
def spec_l5Corners : AFn :=
 ⟨1, 30, [.tmp 2],
 .seq (.ops [(none, .box 1 (.t 0)),
 (none, .mv 2 (.c .nil))])
 (.seq (.ops [(none, .buildSl 5 0 3 [] []),
 (none, .mv 3 (.t 5))])
 (.seq (.seq (.ops [(none, .mv 4 (.c (.I 0)))])
 (.block 0 (.loop (.seq (.seq (.ops [(none, .mv 6 (.t 4)),
 (none, .fieldAddr 7 (.t 1) 3),
 (none, .load1 8 (.t 7)),
 (none, .len 9 (.t 8)),
 (none, .bin 10 .lss (.t 6) (.t 9))])
 (.cond (.t 10) (.skip)
 (.exit 0)))
 (.seq (.block 1 (.seq (.draw [⟨(none, .loadN 13 4 (.t 1)), [], []⟩,
 ⟨(none, .fieldAddr 14 (.t 1) 3), [], []⟩,
 ⟨(none, .load1 15 (.t 14)), [], []⟩,
 ⟨(none, .mv 16 (.t 4)), [], []⟩,
 ⟨(none, .idxS 17 3 (.t 15) (.t 16)), [], []⟩,
 ⟨(none, .loadN 18 3 (.t 17)), [], []⟩,
 ⟨(none, .call (some 19) F.spec_l2Without [(.t 13), (.t 18)]), [], []⟩,
 ⟨(none, .call (some 20) F.spec_l5Stair [(.t 19)]), [], []⟩])
 (.cond (.t 20) (.ops [(none, .mv 21 (.t 3)),
 (none, .fieldAddr 22 (.t 1) 3),
 (none, .load1 23 (.t 22)),
 (none, .mv 24 (.t 4)),
 (none, .idxS 25 3 (.t 23) (.t 24)),
 (none, .loadN 26 3 (.t 25)),
 (none, .buildSl 27 1 3 [(.I 0), (.I 0), (.I 0)] [(0, 3, (.t 26))]),
 (none, .append 28 3 24 (.t 21) (.t 27)),
 (none, .mv 3 (.t 28))])
 (.skip))))
 (.ops [(none, .mv 11 (.t 4)),
 (none, .bin 12 .add (.t 11) (.c (.I 1))),
 (none, .mv 4 (.t 12))]))))))
 (.seq (.ops [(none, .mv 29 (.t 3)),
 (none, .mv 2 (.t 29))])
 (.ret))))⟩
def spec_l5Orders : AFn :=
 ⟨1, 28, [.tmp 2],
 .seq (.ops [(none, .box 1 (.t 0)),
 (none, .mv 2 (.c (.I 0)))])
 (.seq (.seq (.ops [(none, .fieldAddr 6 (.t 1) 3),
 (none, .load1 7 (.t 6)),
 (none, .len 8 (.t 7)),
 (none, .bin 9 .eql (.t 8) (.c (.I 0)))])
 (.cond (.t 9) (.seq (.ops [(none, .mv 2 (.c (.I 1)))])
 (.ret))
 (.skip)))
 (.seq (.ops [(none, .mv 3 (.c (.I 0)))])
 (.seq (.ops [(none, .loadN 10 4 (.t 1)),
 (none, .call (some 11) F.spec_l5Corners [(.t 10)]),
 (none, .mv 4 (.t 11))])
 (.seq (.seq (.ops [(none, .mv 5 (.c (.I 0)))])
 (.block 0 (.loop (.seq (.seq (.ops [(none, .mv 12 (.t 5)),
 (none, .mv 13 (.t 4)),
 (none, .len 14 (.t 13)),
 (none, .bin 15 .lss (.t 12) (.t 14))])
 (.cond (.t 15) (.skip)
 (.exit 0)))
 (.seq (.block 1 (.draw [⟨(none, .mv 18 (.t 3)), [], []⟩,
 ⟨(none, .loadN 19 4 (.t 1)), [], []⟩,
 ⟨(none, .mv 20 (.t 4)), [], []⟩,
 ⟨(none, .mv 21 (.t 5)), [], []⟩,
 ⟨(none, .idxS 22 3 (.t 20) (.t 21)), [], []⟩,
 ⟨(none, .loadN 23 3 (.t 22)), [], []⟩,
 ⟨(none, .call (some 24) F.spec_l2Without [(.t 19), (.t 23)]), [], [0]⟩,
 ⟨(none, .call (some 25) F.spec_l5Orders [(.t 24)]), [], [0]⟩,
 ⟨(none, .bin 26 .add (.t 18) (.t 25)), [], []⟩,
 ⟨(none, .mv 3 (.t 26)), [], []⟩]))
 (.ops [(none, .mv 16 (.t 5)),
 (none, .bin 17 .add (.t 16) (.c (.I 1))),
 (none, .mv 5 (.t 17))]))))))
 (.seq (.ops [(none, .mv 27 (.t 3)),
 (none, .mv 2 (.t 27))])
 (.ret))))))⟩
def spec_StairOrders : AFn :=
 ⟨1, 15, [.tmp 2, .tmp 3],
 .seq (.ops [(none, .box 1 (.t 0)),
 (none, .mv 2 (.c (.I 0))),
 (none, .mv 3 (.c (.B false)))])
 (.seq (.seq (.ops [(none, .loadN 4 4 (.t 1)),
 (none, .call (some 5) F.spec_l5Good [(.t 4)]),
 (none, .un 6 .not (.t 5)),
 (none, .mv 7 (.t 6)),
 (some (7, false), .fieldAddr 8 (.t 1) 3),
 (some (7, false), .load1 9 (.t 8)),
 (some (7, false), .len 10 (.t 9)),
 (some (7, false), .bin 11 .gtr (.t 10) (.c (.I 9))),
 (none, .pick 12 (.t 7) (.c (.B true)) (.t 11))])
 (.cond (.t 12) (.seq (.ops [(none, .mv 2 (.c (.I 0))),
 (none, .mv 3 (.c (.B false)))])
 (.ret))
 (.skip)))
 (.seq (.ops [(none, .loadN 13 4 (.t 1)),
 (none, .call (some 14) F.spec_l5Orders [(.t 13)]),
 (none, .mv 2 (.t 14)),
 (none, .mv 3 (.c (.B true)))])
 (.ret)))⟩
end Go.Ab.C

/- That the program has this code. -/
namespace Go.Ab.K
open Go Go.Ab
theorem spec_l5Stair : prepF Go.Proofs.Try.prog F.spec_l5Stair = some C.spec_l5Stair := by kernel_rfl
theorem spec_l5Good : prepF Go.Proofs.Try.prog F.spec_l5Good = some C.spec_l5Good := by kernel_rfl
theorem spec_l5Corners : prepF Go.Proofs.Try.prog F.spec_l5Corners = some C.spec_l5Corners := by kernel_rfl
theorem spec_l5Orders : prepF Go.Proofs.Try.prog F.spec_l5Orders = some C.spec_l5Orders := by kernel_rfl
theorem spec_StairOrders : prepF Go.Proofs.Try.prog F.spec_StairOrders = some C.spec_StairOrders := by kernel_rfl
end Go.Ab.K

/- Plain words: the least staircase with all cubes of a set, the greatest one within it, hollows. -/
namespace Go.Ab
open Go
set_option linter.unusedSimpArgs false
set_option linter.unusedVariables false

/-- All cells below a cell of a set. -/
noncomputable def dnB (x y z : Int) (p : Cell → Bool) (d : Cell) : Bool := (pick x y z p).any fun c => decide (undC d c)
theorem undC_refl (c : Cell) : undC c c := ⟨Int.le_refl _, Int.le_refl _, Int.le_refl _⟩
theorem undC_trans {a b c : Cell} (h : undC a b) (k : undC b c) : undC a c := ⟨Int.le_trans h.1 k.1, Int.le_trans h.2.1 k.2.1, Int.le_trans h.2.2 k.2.2⟩
theorem decC_und (c : Cell) (k : Nat) : undC (decC c k) c := by
  unfold undC decC
  refine ⟨?_, ?_, ?_⟩ <;> simp only <;> split <;> omega
theorem decC_box {x y z : Int} {c : Cell} {k : Nat} (hc : c.inBox x y z) (hk : k < 3) (h0 : 0 ≤ (decC c k).at (k : Int)) : (decC c k).inBox x y z := by
  obtain ⟨⟨_, _⟩, ⟨_, _⟩, _, _⟩ := hc
  rcases (show k = 0 ∨ k = 1 ∨ k = 2 by omega) with rfl | rfl | rfl <;> simp [decC, Cell.at] at h0 ⊢ <;> unfold Cell.inBox <;> simp <;> omega
/-- The cells of a set all of whose cells below are in the set. -/
noncomputable def upB (x y z : Int) (p : Cell → Bool) (c : Cell) : Bool := (cellsOf x y z).all fun d => !decide (undC d c) || p d
/-- A cell with which the set is still a staircase. -/
noncomputable def hollC (x y z : Int) (p : Cell → Bool) (c : Cell) : Bool := !p c && decide (StairP x y z fun d => p d || decide (d = c))
section
variable {x y z : Int} (hS : Sides x y z)
include hS
theorem dn_iff {p : Cell → Bool} {d : Cell} : dnB x y z p d = true ↔ ∃ c, c.inBox x y z ∧ p c = true ∧ undC d c := by
  unfold dnB
  rw [List.any_eq_true]
  constructor
  · rintro ⟨c, hc, h⟩
    exact ⟨c, ((mem_pick hS).1 hc).1, ((mem_pick hS).1 hc).2, of_decide_eq_true h⟩
  · rintro ⟨c, h1, h2, h3⟩
    exact ⟨c, (mem_pick hS).2 ⟨h1, h2⟩, decide_eq_true h3⟩
theorem dn_self {p : Cell → Bool} {d : Cell} (hd : d.inBox x y z) (h : p d = true) : dnB x y z p d = true := (dn_iff hS).2 ⟨d, hd, h, undC_refl d⟩
theorem dn_least {p q : Cell → Bool} (hq : StairP x y z q) (h : ∀ c, c.inBox x y z → p c = true → q c = true) {d : Cell} (hd : d.inBox x y z) (k : dnB x y z p d = true) : q d = true := by
  obtain ⟨e, h1, h2, h3⟩ := (dn_iff hS).1 k
  exact hq e h1 (h e h1 h2) d hd h3
theorem dn_dec {p : Cell → Bool} {c : Cell} {k : Nat} (h : dnB x y z p c = true) : dnB x y z p (decC c k) = true := by
  obtain ⟨e, h1, h2, h3⟩ := (dn_iff hS).1 h
  exact (dn_iff hS).2 ⟨e, h1, h2, undC_trans (decC_und c k) h3⟩
end
end Go.Ab
