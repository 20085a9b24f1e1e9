/- Parts of the proof of FnExactParseHeapCardSaid: Gc Ge C_Pn K_Pn C_Pm K_Pm C_Pl K_Pl Pj C_Ph K_Ph C_Ea K_Ea Ma Ea C_Dd K_Dd C_Dc K_Dc C_Db K_Db Db Dc Dd C_Oa K_Oa Na Oa. -/
import Derived.Test.YtggnfklcgopflaaDoorA4
import Derived.Test.YtggnfklcgopflaaDoorA3
import Derived.Test.YtggnfklcgopflaaDoorProg
import Derived.KernelRfl
import Derived.WalkKit
import Derived.Lib.Bytealg
import Derived.Lib.Strings
set_option linter.all false
namespace Go.Ab
open Go

theorem h_heldIntA3S {v : LV} {n : Nat} {k : Int} {M : Mem} (h : CellsV M v (marks3 k n)) (hn : n ≤ 1000000000) (hk : 0 ≤ k ∧ k ≤ 1000000000) :
    CallsTo PG F.laws_heldIntA3S [v, .I k] M (.I (k + 3 * n)) M := by
  refine calls_run K.laws_heldIntA3S rfl ?_
  have hlen : lenV v = some (n : Int) := by
    rcases h with ⟨rfl, h⟩ | ⟨t, o, rfl, _⟩
    · have := congrArg List.length h; rw [marks3_len] at this; simp at this; subst this; rfl
    · rw [marks3_len]; rfl
  simp (disch := omega) only [C.laws_heldIntA3S, ↓SXd, SXu, slBounds, ↓sop, ↓aop, ↓reduceIte, LV.cells, AOp.dst, LV.I, LV.B, LV.U, LV.S, LV.nil, Nat.reduceEqDiff, Nat.reduceAdd, Nat.reduceMul, Nat.reduceSub, Nat.reduceLeDiff, Nat.reduceBEq, Nat.reduceDiv, Nat.reduceMod, Int.reduceToNat, Int.reduceLT, Int.reduceLE, Int.reduceAdd, Int.reduceSub, Int.reduceMul, Int.reduceEq, Int.reduceNeg, reduceCtorEq, resV, resAll, ARes.ev, LV.flat, ite_true, ite_false, exists_eq_left', exists_eq_left, keyOf, implies_true, fillC, capOf]
  refine ev_loop (fun m fr M' => ∃ i : Nat, i + m = n ∧ M' = M ∧ fr 0 = v ∧ fr 1 = .I (k + 3 * i) ∧ fr 5 = .I i) n ⟨0, by omega, rfl, rfl, eqI (by omega), rfl⟩ ?_
  rintro m fr M' ⟨i, hi, rfl, h0, h1, h5⟩
  simp (disch := omega) only [h0, h1, h5, hlen, ↓SXd, SXu, slBounds, ↓sop, ↓aop, ↓reduceIte, LV.cells, AOp.dst, LV.I, LV.B, LV.U, LV.S, LV.nil, Nat.reduceEqDiff, Nat.reduceAdd, Nat.reduceMul, Nat.reduceSub, Nat.reduceLeDiff, Nat.reduceBEq, Nat.reduceDiv, Nat.reduceMod, Int.reduceToNat, Int.reduceLT, Int.reduceLE, Int.reduceAdd, Int.reduceSub, Int.reduceMul, Int.reduceEq, Int.reduceNeg, reduceCtorEq, resV, resAll, ARes.ev, LV.flat, ite_true, ite_false, exists_eq_left', exists_eq_left, keyOf, implies_true, fillC, capOf]
  refine condC_dec (fun hlt => ?_) (fun hlt => ?_)
  · rcases h with ⟨_, h⟩ | ⟨t, o, rfl, h⟩
    · have := congrArg List.length h; rw [marks3_len] at this; simp at this; omega
    · have hml := marks3_len k n
      have h0' : fr 0 = .ref t o n := by rw [h0, hml]
      have hg := fun j (hj : j < 3) => Tri.get1 h (k := i) (j := j) (by omega) hj
      rw [marks3_get (by omega)] at hg
      simp (disch := omega) only [h0', h1, h5, ↓SXd, SXu, slBounds, ↓sop, ↓aop, ↓reduceIte, LV.cells, AOp.dst, LV.I, LV.B, LV.U, LV.S, LV.nil, Nat.reduceEqDiff, Nat.reduceAdd, Nat.reduceMul, Nat.reduceSub, Nat.reduceLeDiff, Nat.reduceBEq, Nat.reduceDiv, Nat.reduceMod, Int.reduceToNat, Int.reduceLT, Int.reduceLE, Int.reduceAdd, Int.reduceSub, Int.reduceMul, Int.reduceEq, Int.reduceNeg, reduceCtorEq, resV, resAll, ARes.ev, LV.flat, ite_true, ite_false, exists_eq_left', exists_eq_left, keyOf, implies_true, fillC, capOf]
      refine ev_loop (fun m2 fr N => ∃ j : Nat, j + m2 = 3 ∧ N = M' ∧ fr 0 = .ref t o n ∧ fr 1 = .I (k + 3 * i + j) ∧ fr 5 = .I i ∧ fr 6 = .I j) 3 ⟨0, rfl, rfl, h0', h1.trans (eqI (by omega)), h5, rfl⟩ ?_
      rintro m2 fr N ⟨j, hj, rfl, h0, h1, h5, h6⟩
      simp (disch := omega) only [h0, h1, h5, h6, ↓SXd, SXu, slBounds, ↓sop, ↓aop, ↓reduceIte, LV.cells, AOp.dst, LV.I, LV.B, LV.U, LV.S, LV.nil, Nat.reduceEqDiff, Nat.reduceAdd, Nat.reduceMul, Nat.reduceSub, Nat.reduceLeDiff, Nat.reduceBEq, Nat.reduceDiv, Nat.reduceMod, Int.reduceToNat, Int.reduceLT, Int.reduceLE, Int.reduceAdd, Int.reduceSub, Int.reduceMul, Int.reduceEq, Int.reduceNeg, reduceCtorEq, resV, resAll, ARes.ev, LV.flat, ite_true, ite_false, exists_eq_left', exists_eq_left, keyOf, implies_true, fillC, capOf]
      refine condC_dec (fun hlt2 => ?_) (fun hlt2 => ?_)
      · have hj3 : j = 0 ∨ j = 1 ∨ j = 2 := by omega
        have hgj := hg j (by omega)
        rcases hj3 with rfl | rfl | rfl
        all_goals
          simp only [Cell.row, List.getElem?_cons_zero, List.getElem?_cons_succ, Nat.add_zero] at hgj
          simp (disch := omega) only [h0, h1, h5, h6, hgj, ↓SXd, SXu, slBounds, ↓sop, ↓aop, ↓reduceIte, LV.cells, AOp.dst, LV.I, LV.B, LV.U, LV.S, LV.nil, Nat.reduceEqDiff, Nat.reduceAdd, Nat.reduceMul, Nat.reduceSub, Nat.reduceLeDiff, Nat.reduceBEq, Nat.reduceDiv, Nat.reduceMod, Int.reduceToNat, Int.reduceLT, Int.reduceLE, Int.reduceAdd, Int.reduceSub, Int.reduceMul, Int.reduceEq, Int.reduceNeg, reduceCtorEq, resV, resAll, ARes.ev, LV.flat, ite_true, ite_false, exists_eq_left', exists_eq_left, keyOf, implies_true, fillC, capOf]
          first
          | exact ⟨m2 - 1, by omega, 1, by omega, rfl, h0, eqI (by omega), h5, rfl⟩
          | exact ⟨m2 - 1, by omega, 2, by omega, rfl, h0, eqI (by omega), h5, rfl⟩
          | exact ⟨m2 - 1, by omega, 3, by omega, rfl, h0, eqI (by omega), h5, rfl⟩
      · simp (disch := omega) only [h0, h1, h5, h6, ↓SXd, SXu, slBounds, ↓sop, ↓aop, ↓reduceIte, LV.cells, AOp.dst, LV.I, LV.B, LV.U, LV.S, LV.nil, Nat.reduceEqDiff, Nat.reduceAdd, Nat.reduceMul, Nat.reduceSub, Nat.reduceLeDiff, Nat.reduceBEq, Nat.reduceDiv, Nat.reduceMod, Int.reduceToNat, Int.reduceLT, Int.reduceLE, Int.reduceAdd, Int.reduceSub, Int.reduceMul, Int.reduceEq, Int.reduceNeg, reduceCtorEq, resV, resAll, ARes.ev, LV.flat, ite_true, ite_false, exists_eq_left', exists_eq_left, keyOf, implies_true, fillC, capOf]
        have : j = 3 := by omega
        subst this
        exact ⟨m - 1, by omega, i + 1, by omega, rfl, by rw [hml]; exact h0, h1.trans (eqI (by omega)), eqI (natI _)⟩
  · simp (disch := omega) only [h0, h1, h5, ↓SXd, SXu, slBounds, ↓sop, ↓aop, ↓reduceIte, LV.cells, AOp.dst, LV.I, LV.B, LV.U, LV.S, LV.nil, Nat.reduceEqDiff, Nat.reduceAdd, Nat.reduceMul, Nat.reduceSub, Nat.reduceLeDiff, Nat.reduceBEq, Nat.reduceDiv, Nat.reduceMod, Int.reduceToNat, Int.reduceLT, Int.reduceLE, Int.reduceAdd, Int.reduceSub, Int.reduceMul, Int.reduceEq, Int.reduceNeg, reduceCtorEq, resV, resAll, ARes.ev, LV.flat, ite_true, ite_false, exists_eq_left', exists_eq_left, keyOf, implies_true, fillC, capOf]
    rw [show i = n by omega]
    exact cmp_drop0 rfl

theorem h_heldHeap {x y z : Int} {v : LV} {n : Nat} {k : Int} {M : Mem} (h : CellsV M v (marks3 k n)) (hn : n ≤ 1000000000) (hk : 0 ≤ k ∧ k ≤ 1000000000) :
    CallsTo PG F.laws_heldHeap [.agg [.I x, .I y, .I z, v], .I k] M (.I (k + 3 * n)) M := by
  have hv : v.cells = some [v] := by
    rcases h with ⟨rfl, _⟩ | ⟨t, o, rfl, _⟩ <;> rfl
  have hneg : ¬ (k + 3 * (n : Int) < 0) := by omega
  refine calls_run K.laws_heldHeap rfl ?_
  simp (disch := omega) only [C.laws_heldHeap, ↓SXd, SXu, slBounds, ↓sop, ↓aop, ↓reduceIte, LV.cells, AOp.dst, LV.I, LV.B, LV.U, LV.S, LV.nil, Nat.reduceEqDiff, Nat.reduceAdd, Nat.reduceMul, Nat.reduceSub, Nat.reduceLeDiff, Nat.reduceBEq, Nat.reduceDiv, Nat.reduceMod, Int.reduceToNat, Int.reduceLT, Int.reduceLE, Int.reduceAdd, Int.reduceSub, Int.reduceMul, Int.reduceEq, Int.reduceNeg, reduceCtorEq, resV, resAll, ARes.ev, LV.flat, ite_true, ite_false, exists_eq_left', exists_eq_left, keyOf, implies_true, fillC, capOf]
  refine callK_of (h_heldIntA3S (h.pre (Pre.app _ _)) hn hk) ?_
  simp (disch := omega) only [hneg, ↓SXd, SXu, slBounds, ↓sop, ↓aop, ↓reduceIte, LV.cells, AOp.dst, LV.I, LV.B, LV.U, LV.S, LV.nil, Nat.reduceEqDiff, Nat.reduceAdd, Nat.reduceMul, Nat.reduceSub, Nat.reduceLeDiff, Nat.reduceBEq, Nat.reduceDiv, Nat.reduceMod, Int.reduceToNat, Int.reduceLT, Int.reduceLE, Int.reduceAdd, Int.reduceSub, Int.reduceMul, Int.reduceEq, Int.reduceNeg, reduceCtorEq, resV, resAll, ARes.ev, LV.flat, ite_true, ite_false, exists_eq_left', exists_eq_left, keyOf, implies_true, fillC, capOf]
  exact cmp_drop rfl
end Go.Ab

namespace Go.Ab
open Go

structure Hp where
  x : Int
  y : Int
  z : Int
  cs : List Cell
def Hp.none : Hp := ⟨0, 0, 0, []⟩
abbrev Hp.row (r : Hp) (w : LV) : Blk := .row [.I r.x, .I r.y, .I r.z, w] true 0
def HeapRes (M : Mem) (r : Option Hp) (ext : List LV) (v : LV) (N : Mem) : Prop :=
  ∃ w, v = .tup (.agg [.I (r.getD Hp.none).x, .I (r.getD Hp.none).y, .I (r.getD Hp.none).z, w] :: (ext ++ [.B r.isSome])) ∧ SlC N w (r.getD Hp.none).cs ∧ Newer M w ∧ Pre M N
theorem Older.off {M : Mem} {v : LV} {u : Nat} (h : Older M v) (hu : M.length ≤ u) : Off v u := by
  cases v with
  | ref t o n => have := h t o n rfl; show u ≠ t; omega
  | _ => trivial
end Go.Ab

namespace Go.Ab.C
open Go.Ab
def spec_ParseHeap : AFn :=
 ⟨1, 103, [.cellN 2 4, .tmp 3],
 .seq (.ops [(none, .alloc 2 [(.I 0), (.I 0), (.I 0), .nil]),
 (none, .mv 3 (.c (.B false)))])
 (.seq (.seq (.ops [(none, .mv 12 (.t 0)),
 (none, .lenT 13 (.t 12)),
 (none, .bin 14 .gtr (.t 13) (.c (.I 300)))])
 (.cond (.t 14) (.seq (.ops [(none, .build 15 [(.I 0), (.I 0), (.I 0), .nil] []),
 (none, .store 4 (.t 2) (.t 15)),
 (none, .mv 3 (.c (.B false)))])
 (.ret))
 (.skip)))
 (.seq (.ops [(none, .mv 16 (.t 0)),
 (none, .call (some 17) F.spec_l1Split [(.t 16), (.c (.val (.int .u8 32)))]),
 (none, .mv 4 (.t 17))])
 (.seq (.ops [(none, .mv 18 (.t 4)),
 (none, .idxS 19 1 (.t 18) (.c (.I 0))),
 (none, .load1 20 (.t 19)),
 (none, .call (some 21) F.spec_l1Split [(.t 20), (.c (.val (.int .u8 120)))]),
 (none, .build 22 [(.I 0), (.I 0), (.I 0)] []),
 (none, .alloc 6 [(.I 0), (.I 0), (.I 0)]),
 (none, .mv 5 (.t 21)),
 (none, .store 3 (.t 6) (.t 22))])
 (.seq (.seq (.ops [(none, .mv 23 (.t 5)),
 (none, .len 24 (.t 23)),
 (none, .bin 25 .neq (.t 24) (.c (.I 3)))])
 (.cond (.t 25) (.seq (.ops [(none, .build 26 [(.I 0), (.I 0), (.I 0), .nil] []),
 (none, .store 4 (.t 2) (.t 26)),
 (none, .mv 3 (.c (.B false)))])
 (.ret))
 (.skip)))
 (.seq (.seq (.ops [(none, .mv 7 (.c (.I 0)))])
 (.block 0 (.loop (.seq (.seq (.ops [(none, .mv 27 (.t 7)),
 (none, .bin 28 .lss (.t 27) (.c (.I 3)))])
 (.cond (.t 28) (.skip)
 (.exit 0)))
 (.seq (.block 1 (.seq (.ops [(none, .mv 32 (.t 5)),
 (none, .mv 33 (.t 7)),
 (none, .idxS 34 1 (.t 32) (.t 33)),
 (none, .load1 35 (.t 34)),
 (none, .call (some 36) F.spec_l1Read [(.t 35)]),
 (none, .mv 31 (.t 36)),
 (none, .extract 37 (.t 31) 0),
 (none, .extract 38 (.t 31) 1),
 (none, .mv 8 (.t 37)),
 (none, .mv 9 (.t 38))])
 (.seq (.seq (.ops [(none, .mv 39 (.t 9)),
 (none, .un 40 .not (.t 39))])
 (.cond (.t 40) (.seq (.ops [(none, .build 41 [(.I 0), (.I 0), (.I 0), .nil] []),
 (none, .store 4 (.t 2) (.t 41)),
 (none, .mv 3 (.c (.B false)))])
 (.ret))
 (.skip)))
 (.ops [(none, .mv 42 (.t 7)),
 (none, .mv 43 (.t 8)),
 (none, .idxA 44 3 1 (.t 6) (.t 42)),
 (none, .store 1 (.t 44) (.t 43))]))))
 (.ops [(none, .mv 29 (.t 7)),
 (none, .bin 30 .add (.t 29) (.c (.I 1))),
 (none, .mv 7 (.t 30))]))))))
 (.seq (.ops [(none, .idxA 45 3 1 (.t 6) (.c (.I 0))),
 (none, .load1 46 (.t 45)),
 (none, .idxA 47 3 1 (.t 6) (.c (.I 1))),
 (none, .load1 48 (.t 47)),
 (none, .idxA 49 3 1 (.t 6) (.c (.I 2))),
 (none, .load1 50 (.t 49)),
 (none, .call (some 51) F.spec_l2Empty [(.t 46), (.t 48), (.t 50)]),
 (none, .alloc 10 [(.I 0), (.I 0), (.I 0), .nil]),
 (none, .store 4 (.t 10) (.t 51))])
 (.seq (.seq (.ops [(none, .mv 11 (.c (.I 1)))])
 (.block 2 (.loop (.seq (.seq (.ops [(none, .mv 52 (.t 11)),
 (none, .mv 53 (.t 4)),
 (none, .len 54 (.t 53)),
 (none, .bin 55 .lss (.t 52) (.t 54))])
 (.cond (.t 55) (.skip)
 (.exit 2)))
 (.seq (.block 3 (.seq (.seq (.ops [(none, .mv 58 (.t 4)),
 (none, .mv 59 (.t 11)),
 (none, .idxS 60 1 (.t 58) (.t 59)),
 (none, .load1 61 (.t 60)),
 (none, .lenT 62 (.t 61)),
 (none, .bin 63 .neq (.t 62) (.c (.I 3)))])
 (.cond (.t 63) (.seq (.ops [(none, .build 64 [(.I 0), (.I 0), (.I 0), .nil] []),
 (none, .store 4 (.t 2) (.t 64)),
 (none, .mv 3 (.c (.B false)))])
 (.ret))
 (.skip)))
 (.draw [⟨(none, .fieldAddr 65 (.t 10) 3), [], []⟩,
 ⟨(none, .load1 66 (.t 65)), [], []⟩,
 ⟨(none, .mv 67 (.t 4)), [], []⟩,
 ⟨(none, .mv 68 (.t 11)), [], []⟩,
 ⟨(none, .idxS 69 1 (.t 67) (.t 68)), [], []⟩,
 ⟨(none, .load1 70 (.t 69)), [], []⟩,
 ⟨(none, .idxT 71 (.t 70) (.c (.I 0))), [], []⟩,
 ⟨(none, .conv 72 .i64 (.t 71)), [], []⟩,
 ⟨(none, .bin 73 .sub (.t 72) (.c (.I 48))), [], []⟩,
 ⟨(none, .mv 74 (.t 4)), [], []⟩,
 ⟨(none, .mv 75 (.t 11)), [], []⟩,
 ⟨(none, .idxS 76 1 (.t 74) (.t 75)), [], []⟩,
 ⟨(none, .load1 77 (.t 76)), [], []⟩,
 ⟨(none, .idxT 78 (.t 77) (.c (.I 1))), [], []⟩,
 ⟨(none, .conv 79 .i64 (.t 78)), [], []⟩,
 ⟨(none, .bin 80 .sub (.t 79) (.c (.I 48))), [], []⟩,
 ⟨(none, .mv 81 (.t 4)), [], []⟩,
 ⟨(none, .mv 82 (.t 11)), [], []⟩,
 ⟨(none, .idxS 83 1 (.t 81) (.t 82)), [], []⟩,
 ⟨(none, .load1 84 (.t 83)), [], []⟩,
 ⟨(none, .idxT 85 (.t 84) (.c (.I 2))), [], []⟩,
 ⟨(none, .conv 86 .i64 (.t 85)), [], []⟩,
 ⟨(none, .bin 87 .sub (.t 86) (.c (.I 48))), [], []⟩,
 ⟨(none, .build 88 [(.I 0), (.I 0), (.I 0)] [(0, 1, (.t 73)), (1, 1, (.t 80)), (2, 1, (.t 87))]), [], []⟩,
 ⟨(none, .buildSl 89 1 3 [(.I 0), (.I 0), (.I 0)] [(0, 3, (.t 88))]), [], []⟩,
 ⟨(none, .append 90 3 24 (.t 66) (.t 89)), [], []⟩,
 ⟨(none, .fieldAddr 91 (.t 10) 3), [], []⟩,
 ⟨(none, .store 1 (.t 91) (.t 90)), [], []⟩])))
 (.ops [(none, .mv 56 (.t 11)),
 (none, .bin 57 .add (.t 56) (.c (.I 1))),
 (none, .mv 11 (.t 57))]))))))
 (.seq (.seq (.ops [(none, .loadN 92 4 (.t 10)),
 (none, .call (some 93) F.spec_l2Heap [(.t 92)]),
 (none, .un 94 .not (.t 93)),
 (none, .mv 95 (.t 94)),
 (some (95, false), .loadN 96 4 (.t 10)),
 (some (95, false), .call (some 97) F.spec_l2Text [(.t 96)]),
 (some (95, false), .mv 98 (.t 0)),
 (some (95, false), .bin 99 .neq (.t 97) (.t 98)),
 (none, .pick 100 (.t 95) (.c (.B true)) (.t 99))])
 (.cond (.t 100) (.seq (.ops [(none, .build 101 [(.I 0), (.I 0), (.I 0), .nil] []),
 (none, .store 4 (.t 2) (.t 101)),
 (none, .mv 3 (.c (.B false)))])
 (.ret))
 (.skip)))
 (.seq (.ops [(none, .loadN 102 4 (.t 10)),
 (none, .store 4 (.t 2) (.t 102)),
 (none, .mv 3 (.c (.B true)))])
 (.ret))))))))))⟩
end Go.Ab.C

namespace Go.Ab.K
open Go Go.Ab
theorem spec_ParseHeap : prepF Go.Proofs.Tryd.prog F.spec_ParseHeap = some C.spec_ParseHeap := by kernel_rfl
end Go.Ab.K

namespace Go.Ab.C
open Go.Ab
def spec_l1Read : AFn :=
 ⟨1, 58, [.tmp 2, .tmp 3],
 .seq (.ops [(none, .mv 2 (.c (.I 0))),
 (none, .mv 3 (.c (.B false)))])
 (.seq (.ops [(none, .mv 7 (.t 0)),
 (none, .mv 4 (.t 7))])
 (.seq (.seq (.ops [(none, .mv 8 (.t 4)),
 (none, .lenT 9 (.t 8)),
 (none, .bin 10 .gtr (.t 9) (.c (.I 1))),
 (none, .mv 11 (.t 10)),
 (some (11, true), .mv 12 (.t 4)),
 (some (11, true), .idxT 13 (.t 12) (.c (.I 0))),
 (some (11, true), .bin 14 .eql (.t 13) (.c (.val (.int .u8 45)))),
 (none, .pick 15 (.t 11) (.t 14) (.c (.B false)))])
 (.cond (.t 15) (.ops [(none, .mv 16 (.t 4)),
 (none, .slT 17 (.t 16) (some (.c (.I 1))) none),
 (none, .mv 4 (.t 17))])
 (.skip)))
 (.seq (.seq (.ops [(none, .mv 18 (.t 4)),
 (none, .lenT 19 (.t 18)),
 (none, .call (some 20) F.spec_l1In [(.t 19), (.c (.I 1)), (.c (.I 6))]),
 (none, .un 21 .not (.t 20))])
 (.cond (.t 21) (.seq (.ops [(none, .mv 2 (.c (.I 0))),
 (none, .mv 3 (.c (.B false)))])
 (.ret))
 (.skip)))
 (.seq (.ops [(none, .mv 5 (.c (.I 0)))])
 (.seq (.seq (.ops [(none, .mv 6 (.c (.I 0)))])
 (.block 0 (.loop (.seq (.seq (.ops [(none, .mv 22 (.t 6)),
 (none, .mv 23 (.t 4)),
 (none, .lenT 24 (.t 23)),
 (none, .bin 25 .lss (.t 22) (.t 24))])
 (.cond (.t 25) (.skip)
 (.exit 0)))
 (.seq (.block 1 (.seq (.seq (.ops [(none, .mv 28 (.t 4)),
 (none, .mv 29 (.t 6)),
 (none, .idxT 30 (.t 28) (.t 29)),
 (none, .bin 31 .lss (.t 30) (.c (.val (.int .u8 48)))),
 (none, .mv 32 (.t 31)),
 (some (32, false), .mv 33 (.t 4)),
 (some (32, false), .mv 34 (.t 6)),
 (some (32, false), .idxT 35 (.t 33) (.t 34)),
 (some (32, false), .bin 36 .gtr (.t 35) (.c (.val (.int .u8 57)))),
 (none, .pick 37 (.t 32) (.c (.B true)) (.t 36))])
 (.cond (.t 37) (.seq (.ops [(none, .mv 2 (.c (.I 0))),
 (none, .mv 3 (.c (.B false)))])
 (.ret))
 (.skip)))
 (.ops [(none, .mv 38 (.t 5)),
 (none, .bin 39 .mul (.c (.I 10)) (.t 38)),
 (none, .mv 40 (.t 4)),
 (none, .mv 41 (.t 6)),
 (none, .idxT 42 (.t 40) (.t 41)),
 (none, .bin 43 .sub (.t 42) (.c (.val (.int .u8 48)))),
 (none, .conv 44 .i64 (.t 43)),
 (none, .bin 45 .add (.t 39) (.t 44)),
 (none, .mv 5 (.t 45))])))
 (.ops [(none, .mv 26 (.t 6)),
 (none, .bin 27 .add (.t 26) (.c (.I 1))),
 (none, .mv 6 (.t 27))]))))))
 (.seq (.seq (.ops [(none, .mv 46 (.t 4)),
 (none, .lenT 47 (.t 46)),
 (none, .mv 48 (.t 0)),
 (none, .lenT 49 (.t 48)),
 (none, .bin 50 .lss (.t 47) (.t 49))])
 (.cond (.t 50) (.ops [(none, .mv 51 (.t 5)),
 (none, .un 52 .neg (.t 51)),
 (none, .mv 5 (.t 52))])
 (.skip)))
 (.seq (.seq (.ops [(none, .mv 53 (.t 5)),
 (none, .call (some 54) F.spec_l1Num [(.t 53)]),
 (none, .mv 55 (.t 0)),
 (none, .bin 56 .neq (.t 54) (.t 55))])
 (.cond (.t 56) (.seq (.ops [(none, .mv 2 (.c (.I 0))),
 (none, .mv 3 (.c (.B false)))])
 (.ret))
 (.skip)))
 (.seq (.ops [(none, .mv 57 (.t 5)),
 (none, .mv 2 (.t 57)),
 (none, .mv 3 (.c (.B true)))])
 (.ret)))))))))⟩
end Go.Ab.C

namespace Go.Ab.K
open Go Go.Ab
theorem spec_l1Read : prepF Go.Proofs.Tryd.prog F.spec_l1Read = some C.spec_l1Read := by kernel_rfl
end Go.Ab.K

namespace Go.Ab.C
open Go.Ab
def strings_Index : AFn :=
 ⟨2, 8, [.tmp 4],
 .seq (.ops [(none, .mv 4 (.c (.I 0)))])
 (.seq (.ops [(none, .mv 5 (.t 0)),
 (none, .mv 6 (.t 1)),
 (none, .call (some 7) F.internal_stringslite_Index [(.t 5), (.t 6)]),
 (none, .mv 4 (.t 7))])
 (.ret))⟩
def internal_stringslite_Index : AFn :=
 ⟨2, 143, [.tmp 4],
 .seq (.ops [(none, .mv 4 (.c (.I 0)))])
 (.seq (.ops [(none, .mv 14 (.t 1)),
 (none, .lenT 15 (.t 14)),
 (none, .mv 5 (.t 15))])
 (.seq (.block 0 (.seq (.ops [(none, .mv 17 (.t 5)),
 (none, .bin 18 .eql (.t 17) (.c (.I 0))),
 (none, .mv 19 (.t 18)),
 (some (19, false), .mv 20 (.t 1)),
 (some (19, false), .mv 21 (.t 0)),
 (some (19, false), .bin 22 .eql (.t 20) (.t 21)),
 (none, .pick 23 (.t 19) (.c (.B true)) (.t 22)),
 (none, .mv 16 (.t 23))])
 (.cond (.t 16) (.seq (.ops [(none, .mv 4 (.c (.I 0)))])
 (.ret))
 (.seq (.ops [(none, .mv 25 (.t 5)),
 (none, .bin 26 .eql (.t 25) (.c (.I 1))),
 (none, .mv 24 (.t 26))])
 (.cond (.t 24) (.seq (.ops [(none, .mv 27 (.t 0)),
 (none, .mv 28 (.t 1)),
 (none, .idxT 29 (.t 28) (.c (.I 0))),
 (none, .call (some 30) F.internal_stringslite_IndexByte [(.t 27), (.t 29)]),
 (none, .mv 4 (.t 30))])
 (.ret))
 (.seq (.ops [(none, .mv 32 (.t 5)),
 (none, .mv 33 (.t 0)),
 (none, .lenT 34 (.t 33)),
 (none, .bin 35 .geq (.t 32) (.t 34)),
 (none, .mv 31 (.t 35))])
 (.cond (.t 31) (.seq (.ops [(none, .mv 4 (.c (.I (-1))))])
 (.ret))
 (.seq (.ops [(none, .mv 37 (.t 5)),
 (none, .bad),
 (none, .bin 39 .leq (.t 37) (.t 38)),
 (none, .mv 40 (.t 39)),
 (some (40, true), .mv 41 (.t 0)),
 (some (40, true), .lenT 42 (.t 41)),
 (some (40, true), .bin 43 .leq (.t 42) (.c (.I 64))),
 (none, .pick 44 (.t 40) (.t 43) (.c (.B false))),
 (none, .mv 36 (.t 44))])
 (.cond (.t 36) (.seq (.ops [(none, .mv 45 (.t 0)),
 (none, .mv 46 (.t 1)),
 (none, .bad),
 (none, .mv 4 (.t 47))])
 (.ret))
 (.skip))))))))))
 (.seq (.ops [(none, .mv 48 (.t 1)),
 (none, .idxT 49 (.t 48) (.c (.I 0))),
 (none, .mv 6 (.t 49))])
 (.seq (.ops [(none, .mv 50 (.t 1)),
 (none, .idxT 51 (.t 50) (.c (.I 1))),
 (none, .mv 7 (.t 51))])
 (.seq (.ops [(none, .mv 8 (.c (.I 0)))])
 (.seq (.ops [(none, .mv 52 (.t 0)),
 (none, .lenT 53 (.t 52)),
 (none, .mv 54 (.t 5)),
 (none, .bin 55 .sub (.t 53) (.t 54)),
 (none, .bin 56 .add (.t 55) (.c (.I 1))),
 (none, .mv 9 (.t 56))])
 (.seq (.ops [(none, .mv 10 (.c (.I 0)))])
 (.seq (.block 1 (.loop (.seq (.seq (.ops [(none, .mv 57 (.t 8)),
 (none, .mv 58 (.t 9)),
 (none, .bin 59 .lss (.t 57) (.t 58))])
 (.cond (.t 59) (.skip)
 (.exit 1)))
 (.block 2 (.seq (.seq (.ops [(none, .mv 60 (.t 0)),
 (none, .mv 61 (.t 8)),
 (none, .idxT 62 (.t 60) (.t 61)),
 (none, .mv 63 (.t 6)),
 (none, .bin 64 .neq (.t 62) (.t 63))])
 (.cond (.t 64) (.seq (.ops [(none, .mv 65 (.t 0)),
 (none, .mv 66 (.t 8)),
 (none, .bin 67 .add (.t 66) (.c (.I 1))),
 (none, .mv 68 (.t 9)),
 (none, .slT 69 (.t 65) (some (.t 67)) (some (.t 68))),
 (none, .mv 70 (.t 6)),
 (none, .call (some 71) F.internal_stringslite_IndexByte [(.t 69), (.t 70)]),
 (none, .mv 11 (.t 71))])
 (.seq (.seq (.ops [(none, .mv 72 (.t 11)),
 (none, .bin 73 .lss (.t 72) (.c (.I 0)))])
 (.cond (.t 73) (.seq (.ops [(none, .mv 4 (.c (.I (-1))))])
 (.ret))
 (.skip)))
 (.ops [(none, .mv 74 (.t 8)),
 (none, .mv 75 (.t 11)),
 (none, .bin 76 .add (.t 75) (.c (.I 1))),
 (none, .bin 77 .add (.t 74) (.t 76)),
 (none, .mv 8 (.t 77))])))
 (.skip)))
 (.seq (.seq (.ops [(none, .mv 78 (.t 0)),
 (none, .mv 79 (.t 8)),
 (none, .bin 80 .add (.t 79) (.c (.I 1))),
 (none, .idxT 81 (.t 78) (.t 80)),
 (none, .mv 82 (.t 7)),
 (none, .bin 83 .eql (.t 81) (.t 82)),
 (none, .mv 84 (.t 83)),
 (some (84, true), .mv 85 (.t 0)),
 (some (84, true), .mv 86 (.t 8)),
 (some (84, true), .mv 87 (.t 8)),
 (some (84, true), .mv 88 (.t 5)),
 (some (84, true), .bin 89 .add (.t 87) (.t 88)),
 (some (84, true), .slT 90 (.t 85) (some (.t 86)) (some (.t 89))),
 (some (84, true), .mv 91 (.t 1)),
 (some (84, true), .bin 92 .eql (.t 90) (.t 91)),
 (none, .pick 93 (.t 84) (.t 92) (.c (.B false)))])
 (.cond (.t 93) (.seq (.ops [(none, .mv 94 (.t 8)),
 (none, .mv 4 (.t 94))])
 (.ret))
 (.skip)))
 (.seq (.ops [(none, .mv 95 (.t 8)),
 (none, .bin 96 .add (.t 95) (.c (.I 1))),
 (none, .mv 8 (.t 96))])
 (.seq (.ops [(none, .mv 97 (.t 10)),
 (none, .bin 98 .add (.t 97) (.c (.I 1))),
 (none, .mv 10 (.t 98))])
 (.seq (.ops [(none, .mv 99 (.t 5)),
 (none, .bad),
 (none, .bin 101 .leq (.t 99) (.t 100)),
 (none, .mv 102 (.t 101)),
 (some (102, true), .mv 103 (.t 10)),
 (some (102, true), .mv 104 (.t 8)),
 (some (102, true), .call (some 105) F.internal_bytealg_Cutover [(.t 104)]),
 (some (102, true), .bin 106 .gtr (.t 103) (.t 105)),
 (none, .pick 107 (.t 102) (.t 106) (.c (.B false)))])
 (.cond (.t 107) (.seq (.ops [(none, .mv 108 (.t 0)),
 (none, .mv 109 (.t 8)),
 (none, .slT 110 (.t 108) (some (.t 109)) none),
 (none, .mv 111 (.t 1)),
 (none, .bad),
 (none, .mv 12 (.t 112))])
 (.seq (.seq (.ops [(none, .mv 113 (.t 12)),
 (none, .bin 114 .geq (.t 113) (.c (.I 0)))])
 (.cond (.t 114) (.seq (.ops [(none, .mv 115 (.t 12)),
 (none, .mv 116 (.t 8)),
 (none, .bin 117 .add (.t 115) (.t 116)),
 (none, .mv 4 (.t 117))])
 (.ret))
 (.skip)))
 (.seq (.ops [(none, .mv 4 (.c (.I (-1))))])
 (.ret))))
 (.seq (.ops [(none, .mv 118 (.t 5)),
 (none, .bad),
 (none, .bin 120 .gtr (.t 118) (.t 119)),
 (none, .mv 121 (.t 120)),
 (some (121, true), .mv 122 (.t 10)),
 (some (121, true), .mv 123 (.t 8)),
 (some (121, true), .bin 124 .shr (.t 123) (.c (.U 4))),
 (some (121, true), .bin 125 .add (.c (.I 4)) (.t 124)),
 (some (121, true), .bin 126 .geq (.t 122) (.t 125)),
 (none, .pick 127 (.t 121) (.t 126) (.c (.B false))),
 (none, .mv 128 (.t 127)),
 (some (128, true), .mv 129 (.t 8)),
 (some (128, true), .mv 130 (.t 9)),
 (some (128, true), .bin 131 .lss (.t 129) (.t 130)),
 (none, .pick 132 (.t 128) (.t 131) (.c (.B false)))])
 (.cond (.t 132) (.seq (.ops [(none, .mv 133 (.t 0)),
 (none, .mv 134 (.t 8)),
 (none, .slT 135 (.t 133) (some (.t 134)) none),
 (none, .mv 136 (.t 1)),
 (none, .call (some 137) F.internal_bytealg_IndexRabinKarp_string [(.t 135), (.t 136)]),
 (none, .mv 13 (.t 137))])
 (.seq (.seq (.ops [(none, .mv 138 (.t 13)),
 (none, .bin 139 .lss (.t 138) (.c (.I 0)))])
 (.cond (.t 139) (.seq (.ops [(none, .mv 4 (.c (.I (-1))))])
 (.ret))
 (.skip)))
 (.seq (.ops [(none, .mv 140 (.t 8)),
 (none, .mv 141 (.t 13)),
 (none, .bin 142 .add (.t 140) (.t 141)),
 (none, .mv 4 (.t 142))])
 (.ret))))
 (.skip)))))))))))))
 (.seq (.ops [(none, .mv 4 (.c (.I (-1))))])
 (.ret))))))))))⟩
def strings_genSplit : AFn :=
 ⟨4, 66, [.tmp 8],
 .seq (.ops [(none, .mv 8 (.c .nil))])
 (.seq (.seq (.ops [(none, .mv 12 (.t 3)),
 (none, .bin 13 .eql (.t 12) (.c (.I 0)))])
 (.cond (.t 13) (.seq (.ops [(none, .mv 8 (.c .nil))])
 (.ret))
 (.skip)))
 (.seq (.seq (.ops [(none, .mv 14 (.t 1)),
 (none, .bin 15 .eql (.t 14) (.c (.val (.string (ByteArray.mk #[])))))])
 (.cond (.t 15) (.seq (.ops [(none, .mv 16 (.t 0)),
 (none, .mv 17 (.t 3)),
 (none, .call (some 18) F.strings_explode [(.t 16), (.t 17)]),
 (none, .mv 8 (.t 18))])
 (.ret))
 (.skip)))
 (.seq (.seq (.ops [(none, .mv 19 (.t 3)),
 (none, .bin 20 .lss (.t 19) (.c (.I 0)))])
 (.cond (.t 20) (.ops [(none, .mv 21 (.t 0)),
 (none, .mv 22 (.t 1)),
 (none, .call (some 23) F.strings_Count [(.t 21), (.t 22)]),
 (none, .bin 24 .add (.t 23) (.c (.I 1))),
 (none, .mv 3 (.t 24))])
 (.skip)))
 (.seq (.ops [(none, .mv 25 (.t 3)),
 (none, .mv 26 (.t 0)),
 (none, .lenT 27 (.t 26)),
 (none, .bin 28 .add (.t 27) (.c (.I 1))),
 (none, .mm 29 false [(.t 25), (.t 28)]),
 (none, .mv 3 (.t 29))])
 (.seq (.ops [(none, .mv 30 (.t 3)),
 (none, .mksl 31 1 16 [(.val (.string (ByteArray.mk #[])))] (.t 30) (.t 30)),
 (none, .mv 9 (.t 31))])
 (.seq (.ops [(none, .mv 32 (.t 3)),
 (none, .bin 33 .sub (.t 32) (.c (.I 1))),
 (none, .mv 3 (.t 33))])
 (.seq (.ops [(none, .mv 10 (.c (.I 0)))])
 (.seq (.block 0 (.loop (.seq (.seq (.ops [(none, .mv 34 (.t 10)),
 (none, .mv 35 (.t 3)),
 (none, .bin 36 .lss (.t 34) (.t 35))])
 (.cond (.t 36) (.skip)
 (.exit 0)))
 (.block 1 (.seq (.ops [(none, .mv 37 (.t 0)),
 (none, .mv 38 (.t 1)),
 (none, .call (some 39) F.strings_Index [(.t 37), (.t 38)]),
 (none, .mv 11 (.t 39))])
 (.seq (.seq (.ops [(none, .mv 40 (.t 11)),
 (none, .bin 41 .lss (.t 40) (.c (.I 0)))])
 (.cond (.t 41) (.exit 0)
 (.skip)))
 (.seq (.ops [(none, .mv 42 (.t 9)),
 (none, .mv 43 (.t 10)),
 (none, .mv 44 (.t 0)),
 (none, .mv 45 (.t 11)),
 (none, .mv 46 (.t 2)),
 (none, .bin 47 .add (.t 45) (.t 46)),
 (none, .slT 48 (.t 44) none (some (.t 47))),
 (none, .idxS 49 1 (.t 42) (.t 43)),
 (none, .store 1 (.t 49) (.t 48))])
 (.seq (.ops [(none, .mv 50 (.t 0)),
 (none, .mv 51 (.t 11)),
 (none, .mv 52 (.t 1)),
 (none, .lenT 53 (.t 52)),
 (none, .bin 54 .add (.t 51) (.t 53)),
 (none, .slT 55 (.t 50) (some (.t 54)) none),
 (none, .mv 0 (.t 55))])
 (.ops [(none, .mv 56 (.t 10)),
 (none, .bin 57 .add (.t 56) (.c (.I 1))),
 (none, .mv 10 (.t 57))])))))))))
 (.seq (.ops [(none, .mv 58 (.t 9)),
 (none, .mv 59 (.t 10)),
 (none, .mv 60 (.t 0)),
 (none, .idxS 61 1 (.t 58) (.t 59)),
 (none, .store 1 (.t 61) (.t 60))])
 (.seq (.ops [(none, .mv 62 (.t 9)),
 (none, .mv 63 (.t 10)),
 (none, .bin 64 .add (.t 63) (.c (.I 1))),
 (none, .slS 65 1 (.t 62) none (some (.t 64))),
 (none, .mv 8 (.t 65))])
 (.ret)))))))))))⟩
def strings_Split : AFn :=
 ⟨2, 8, [.tmp 4],
 .seq (.ops [(none, .mv 4 (.c .nil))])
 (.seq (.ops [(none, .mv 5 (.t 0)),
 (none, .mv 6 (.t 1)),
 (none, .call (some 7) F.strings_genSplit [(.t 5), (.t 6), (.c (.I 0)), (.c (.I (-1)))]),
 (none, .mv 4 (.t 7))])
 (.ret))⟩
def spec_l1Split : AFn :=
 ⟨2, 35, [.tmp 4],
 .seq (.ops [(none, .mv 4 (.c .nil))])
 (.seq (.ops [(none, .buildSl 8 0 1 [] []),
 (none, .mv 5 (.t 8))])
 (.seq (.ops [(none, .mv 6 (.c (.I 0)))])
 (.seq (.seq (.ops [(none, .mv 7 (.c (.I 0)))])
 (.block 0 (.loop (.seq (.seq (.ops [(none, .mv 9 (.t 7)),
 (none, .mv 10 (.t 0)),
 (none, .lenT 11 (.t 10)),
 (none, .bin 12 .lss (.t 9) (.t 11))])
 (.cond (.t 12) (.skip)
 (.exit 0)))
 (.seq (.block 1 (.seq (.ops [(none, .mv 15 (.t 0)),
 (none, .mv 16 (.t 7)),
 (none, .idxT 17 (.t 15) (.t 16)),
 (none, .mv 18 (.t 1)),
 (none, .bin 19 .eql (.t 17) (.t 18))])
 (.cond (.t 19) (.seq (.ops [(none, .mv 20 (.t 5)),
 (none, .mv 21 (.t 0)),
 (none, .mv 22 (.t 6)),
 (none, .mv 23 (.t 7)),
 (none, .slT 24 (.t 21) (some (.t 22)) (some (.t 23))),
 (none, .buildSl 25 1 1 [(.val (.string (ByteArray.mk #[])))] [(0, 1, (.t 24))]),
 (none, .append 26 1 16 (.t 20) (.t 25)),
 (none, .mv 5 (.t 26))])
 (.ops [(none, .mv 27 (.t 7)),
 (none, .bin 28 .add (.t 27) (.c (.I 1))),
 (none, .mv 6 (.t 28))]))
 (.skip))))
 (.ops [(none, .mv 13 (.t 7)),
 (none, .bin 14 .add (.t 13) (.c (.I 1))),
 (none, .mv 7 (.t 14))]))))))
 (.seq (.ops [(none, .mv 29 (.t 5)),
 (none, .mv 30 (.t 0)),
 (none, .mv 31 (.t 6)),
 (none, .slT 32 (.t 30) (some (.t 31)) none),
 (none, .buildSl 33 1 1 [(.val (.string (ByteArray.mk #[])))] [(0, 1, (.t 32))]),
 (none, .append 34 1 16 (.t 29) (.t 33)),
 (none, .mv 4 (.t 34))])
 (.ret)))))⟩
end Go.Ab.C

namespace Go.Ab.K
open Go Go.Ab
theorem strings_Index : prepF Go.Proofs.Tryd.prog F.strings_Index = some C.strings_Index := by kernel_rfl
theorem internal_stringslite_Index : prepF Go.Proofs.Tryd.prog F.internal_stringslite_Index = some C.internal_stringslite_Index := by kernel_rfl
theorem strings_genSplit : prepF Go.Proofs.Tryd.prog F.strings_genSplit = some C.strings_genSplit := by kernel_rfl
theorem strings_Split : prepF Go.Proofs.Tryd.prog F.strings_Split = some C.strings_Split := by kernel_rfl
theorem spec_l1Split : prepF Go.Proofs.Tryd.prog F.spec_l1Split = some C.spec_l1Split := by kernel_rfl
end Go.Ab.K

namespace Go.Ab
open Go Go.Proofs Go.RowKit

set_option maxHeartbeats 1000000 in
set_option maxRecDepth 100000 in
theorem w_Count (s : ByteArray) (c : UInt8) (w : World) :
    Calls PG F.strings_Count #[.string s, .string ⟨#[c]⟩] w fun e w' => e = .returned (.int .i64 (Lib.countByte s.data.toList c)) ∧ w' = w := by
  go_enter Tryd.func46, Tryd.ntmps46
  go_wp2
  rw [run_callFunc_extern Tryd.func52 (by kernel_rfl) (by kernel_rfl) (by kernel_rfl) (e := Extern.BytealgCount.count) (by kernel_rfl), Lib.run_countString]
  simp only [Result.andThen]
  rw [Oper.upon_value]
  go_wp2
  go_ret
  exact ⟨rfl, rfl⟩

set_option maxHeartbeats 1000000 in
set_option maxRecDepth 100000 in
theorem w_IndexByte (s : ByteArray) (c : Int) (w : World) :
    Calls PG F.internal_stringslite_IndexByte #[.string s, .int .u8 c] w fun e w' => e = .returned (.int .i64 (Lib.indexByte s.data.toList c.toNat.toUInt8)) ∧ w' = w := by
  go_enter Tryd.func60, Tryd.ntmps60
  go_wp2
  rw [run_callFunc_extern Tryd.func69 (by kernel_rfl) (by kernel_rfl) (by kernel_rfl) (e := Extern.BytealgIndexByte.indexByte) (by kernel_rfl), Lib.run_indexByteString]
  simp only [Result.andThen]
  rw [Oper.upon_value]
  go_wp2
  go_ret
  exact ⟨rfl, rfl⟩

theorem g_Count {s : ByteArray} {c : UInt8} {M : Mem} : CallsTo PG F.strings_Count [.S s, .S ⟨#[c]⟩] M (.I (s.data.toList.count c : Nat)) M := by
  refine ⟨⟨_, Tryd.func46, by kernel_rfl, by kernel_rfl⟩, fun G w xs hi hxs => ?_⟩
  obtain ⟨x, xs, rfl, h1, y, ys, rfl, h2, rfl⟩ : ∃ x ys, xs = x :: ys ∧ VR G (.S s) x ∧ ∃ y zs, ys = y :: zs ∧ VR G (.S ⟨#[c]⟩) y ∧ zs = [] := by
    match xs, hxs with
    | [x, y], ⟨h1, h2, _⟩ => exact ⟨x, _, rfl, h1, y, _, rfl, h2, rfl⟩
  obtain ⟨rfl, _⟩ := h1
  obtain ⟨rfl, _⟩ := h2
  refine (w_Count s c w).mono fun e w' ⟨he, hw⟩ => ?_
  subst he hw
  exact ⟨_, _, _, G, ⟨rfl, rfl⟩, rfl, ⟨rfl, rfl⟩, hi, Step.refl⟩
theorem g_IndexByte {s : ByteArray} {c : Int} {M : Mem} : CallsTo PG F.internal_stringslite_IndexByte [.S s, .val (.int .u8 c)] M (.I (Lib.indexByte s.data.toList c.toNat.toUInt8)) M := by
  refine ⟨⟨_, Tryd.func60, by kernel_rfl, by kernel_rfl⟩, fun G w xs hi hxs => ?_⟩
  obtain ⟨x, xs, rfl, h1, y, ys, rfl, h2, rfl⟩ : ∃ x ys, xs = x :: ys ∧ VR G (.S s) x ∧ ∃ y zs, ys = y :: zs ∧ VR G (.val (.int .u8 c)) y ∧ zs = [] := by
    match xs, hxs with
    | [x, y], ⟨h1, h2, _⟩ => exact ⟨x, _, rfl, h1, y, _, rfl, h2, rfl⟩
  obtain ⟨rfl, _⟩ := h1
  obtain ⟨rfl, _⟩ := h2
  refine (w_IndexByte s c w).mono fun e w' ⟨he, hw⟩ => ?_
  subst he hw
  exact ⟨_, _, _, G, ⟨rfl, rfl⟩, rfl, ⟨rfl, rfl⟩, hi, Step.refl⟩
end Go.Ab

namespace Go.Ab.C
open Go.Ab
def spec_l1Num : AFn :=
 ⟨1, 25, [.tmp 2],
 .seq (.ops [(none, .mv 2 (.c (.val (.string (ByteArray.mk #[])))))])
 (.seq (.seq (.ops [(none, .mv 3 (.t 0)),
 (none, .bin 4 .lss (.t 3) (.c (.I 0)))])
 (.cond (.t 4) (.seq (.ops [(none, .mv 5 (.t 0)),
 (none, .un 6 .neg (.t 5)),
 (none, .call (some 7) F.spec_l1Num [(.t 6)]),
 (none, .bin 8 .add (.c (.val (.string (ByteArray.mk #[45])))) (.t 7)),
 (none, .mv 2 (.t 8))])
 (.ret))
 (.skip)))
 (.seq (.seq (.ops [(none, .mv 9 (.t 0)),
 (none, .bin 10 .lss (.t 9) (.c (.I 10)))])
 (.cond (.t 10) (.seq (.ops [(none, .mv 11 (.t 0)),
 (none, .mv 12 (.t 0)),
 (none, .bin 13 .add (.t 12) (.c (.I 1))),
 (none, .slT 14 (.c (.val (.string (ByteArray.mk #[48, 49, 50, 51, 52, 53, 54, 55, 56, 57])))) (some (.t 11)) (some (.t 13))),
 (none, .mv 2 (.t 14))])
 (.ret))
 (.skip)))
 (.seq (.draw [⟨(none, .mv 15 (.t 0)), [], []⟩,
 ⟨(none, .bin 16 .quo (.t 15) (.c (.I 10))), [], []⟩,
 ⟨(none, .mv 18 (.t 0)), [], []⟩,
 ⟨(none, .bin 19 .rem (.t 18) (.c (.I 10))), [], []⟩,
 ⟨(none, .mv 20 (.t 0)), [], []⟩,
 ⟨(none, .bin 21 .rem (.t 20) (.c (.I 10))), [], []⟩,
 ⟨(none, .bin 22 .add (.t 21) (.c (.I 1))), [], []⟩,
 ⟨(none, .slT 23 (.c (.val (.string (ByteArray.mk #[48, 49, 50, 51, 52, 53, 54, 55, 56, 57])))) (some (.t 19)) (some (.t 22))), [], []⟩,
 ⟨(none, .call (some 17) F.spec_l1Num [(.t 16)]), [], [2, 3, 4, 5, 6, 7]⟩,
 ⟨(none, .bin 24 .add (.t 17) (.t 23)), [], []⟩,
 ⟨(none, .mv 2 (.t 24)), [], []⟩])
 (.ret))))⟩
def spec_l2Text : AFn :=
 ⟨1, 46, [.tmp 2],
 .seq (.ops [(none, .box 1 (.t 0)),
 (none, .mv 2 (.c (.val (.string (ByteArray.mk #[])))))])
 (.seq (.draw [⟨(none, .fieldAddr 6 (.t 1) 0), [], []⟩,
 ⟨(none, .load1 7 (.t 6)), [], []⟩,
 ⟨(none, .fieldAddr 10 (.t 1) 1), [], []⟩,
 ⟨(none, .load1 11 (.t 10)), [], []⟩,
 ⟨(none, .fieldAddr 15 (.t 1) 2), [], []⟩,
 ⟨(none, .load1 16 (.t 15)), [], []⟩,
 ⟨(none, .call (some 8) F.spec_l1Num [(.t 7)]), [], [2, 3, 4, 5]⟩,
 ⟨(none, .bin 9 .add (.t 8) (.c (.val (.string (ByteArray.mk #[120]))))), [], []⟩,
 ⟨(none, .call (some 12) F.spec_l1Num [(.t 11)]), [], [4, 5, 7]⟩,
 ⟨(none, .bin 13 .add (.t 9) (.t 12)), [], []⟩,
 ⟨(none, .bin 14 .add (.t 13) (.c (.val (.string (ByteArray.mk #[120]))))), [], []⟩,
 ⟨(none, .call (some 17) F.spec_l1Num [(.t 16)]), [], [7, 9, 10]⟩,
 ⟨(none, .bin 18 .add (.t 14) (.t 17)), [], []⟩,
 ⟨(none, .mv 3 (.t 18)), [], []⟩])
 (.seq (.seq (.ops [(none, .mv 4 (.c (.I 0)))])
 (.block 0 (.loop (.seq (.seq (.ops [(none, .mv 19 (.t 4)),
 (none, .fieldAddr 20 (.t 1) 3),
 (none, .load1 21 (.t 20)),
 (none, .len 22 (.t 21)),
 (none, .bin 23 .lss (.t 19) (.t 22))])
 (.cond (.t 23) (.skip)
 (.exit 0)))
 (.seq (.block 1 (.seq (.ops [(none, .fieldAddr 26 (.t 1) 3),
 (none, .load1 27 (.t 26)),
 (none, .mv 28 (.t 4)),
 (none, .idxS 29 3 (.t 27) (.t 28)),
 (none, .loadN 30 3 (.t 29)),
 (none, .alloc 5 [(.I 0), (.I 0), (.I 0)]),
 (none, .store 3 (.t 5) (.t 30))])
 (.draw [⟨(none, .mv 31 (.t 3)), [], []⟩,
 ⟨(none, .bin 32 .add (.t 31) (.c (.val (.string (ByteArray.mk #[32]))))), [], []⟩,
 ⟨(none, .idxA 33 3 1 (.t 5) (.c (.I 0))), [], []⟩,
 ⟨(none, .load1 34 (.t 33)), [], []⟩,
 ⟨(none, .idxA 37 3 1 (.t 5) (.c (.I 1))), [], []⟩,
 ⟨(none, .load1 38 (.t 37)), [], []⟩,
 ⟨(none, .idxA 41 3 1 (.t 5) (.c (.I 2))), [], []⟩,
 ⟨(none, .load1 42 (.t 41)), [], []⟩,
 ⟨(none, .call (some 35) F.spec_l1Num [(.t 34)]), [], [0, 1, 4, 5, 6, 7]⟩,
 ⟨(none, .bin 36 .add (.t 32) (.t 35)), [], []⟩,
 ⟨(none, .call (some 39) F.spec_l1Num [(.t 38)]), [], [0, 1, 6, 7, 9]⟩,
 ⟨(none, .bin 40 .add (.t 36) (.t 39)), [], []⟩,
 ⟨(none, .call (some 43) F.spec_l1Num [(.t 42)]), [], [0, 1, 9, 11]⟩,
 ⟨(none, .bin 44 .add (.t 40) (.t 43)), [], []⟩,
 ⟨(none, .mv 3 (.t 44)), [], []⟩])))
 (.ops [(none, .mv 24 (.t 4)),
 (none, .bin 25 .add (.t 24) (.c (.I 1))),
 (none, .mv 4 (.t 25))]))))))
 (.seq (.ops [(none, .mv 45 (.t 3)),
 (none, .mv 2 (.t 45))])
 (.ret))))⟩
def strconv_Itoa : AFn :=
 ⟨1, 5, [.tmp 2],
 .seq (.ops [(none, .mv 2 (.c (.val (.string (ByteArray.mk #[])))))])
 (.seq (.ops [(none, .mv 3 (.t 0)),
 (none, .call (some 4) F.internal_strconv_Itoa [(.t 3)]),
 (none, .mv 2 (.t 4))])
 (.ret))⟩
def internal_strconv_Itoa : AFn :=
 ⟨1, 5, [.tmp 2],
 .seq (.ops [(none, .mv 2 (.c (.val (.string (ByteArray.mk #[])))))])
 (.seq (.ops [(none, .mv 3 (.t 0)),
 (none, .call (some 4) F.internal_strconv_FormatInt [(.t 3), (.c (.I 10))]),
 (none, .mv 2 (.t 4))])
 (.ret))⟩
def internal_strconv_FormatInt : AFn :=
 ⟨2, 54, [.tmp 4],
 .seq (.ops [(none, .mv 4 (.c (.val (.string (ByteArray.mk #[])))))])
 (.seq (.seq (.ops [(none, .mv 10 (.t 1)),
 (none, .bin 11 .eql (.t 10) (.c (.I 10)))])
 (.cond (.t 11) (.seq (.seq (.ops [(none, .mv 12 (.t 0)),
 (none, .bin 13 .leq (.c (.I 0)) (.t 12)),
 (none, .mv 14 (.t 13)),
 (some (14, true), .mv 15 (.t 0)),
 (some (14, true), .bin 16 .lss (.t 15) (.c (.I 100))),
 (none, .pick 17 (.t 14) (.t 16) (.c (.B false)))])
 (.cond (.t 17) (.seq (.ops [(none, .mv 18 (.t 0)),
 (none, .call (some 19) F.internal_strconv_small [(.t 18)]),
 (none, .mv 4 (.t 19))])
 (.ret))
 (.skip)))
 (.seq (.ops [(none, .alloc 5 [(.val (.int .u8 0)), (.val (.int .u8 0)), (.val (.int .u8 0)), (.val (.int .u8 0)), (.val (.int .u8 0)), (.val (.int .u8 0)), (.val (.int .u8 0)), (.val (.int .u8 0)), (.val (.int .u8 0)), (.val (.int .u8 0)), (.val (.int .u8 0)), (.val (.int .u8 0)), (.val (.int .u8 0)), (.val (.int .u8 0)), (.val (.int .u8 0)), (.val (.int .u8 0)), (.val (.int .u8 0)), (.val (.int .u8 0)), (.val (.int .u8 0)), (.val (.int .u8 0)), (.val (.int .u8 0)), (.val (.int .u8 0)), (.val (.int .u8 0)), (.val (.int .u8 0))])])
 (.seq (.ops [(none, .mv 20 (.t 0)),
 (none, .conv 21 .u64 (.t 20)),
 (none, .mv 6 (.t 21))])
 (.seq (.seq (.ops [(none, .mv 22 (.t 0)),
 (none, .bin 23 .lss (.t 22) (.c (.I 0)))])
 (.cond (.t 23) (.ops [(none, .mv 24 (.t 6)),
 (none, .un 25 .neg (.t 24)),
 (none, .mv 6 (.t 25))])
 (.skip)))
 (.seq (.ops [(none, .mv 26 (.t 6)),
 (none, .call (some 27) F.internal_strconv_numDigits [(.t 26)]),
 (none, .mv 7 (.t 27))])
 (.seq (.ops [(none, .mv 28 (.t 7)),
 (none, .bin 29 .add (.c (.I 1)) (.t 28)),
 (none, .slA 30 24 1 (.t 5) (some (.c (.I 1))) (some (.t 29))),
 (none, .mv 31 (.t 6)),
 (none, .call (some 32) F.internal_strconv_formatBase10 [(.t 30), (.t 31)])])
 (.seq (.seq (.ops [(none, .mv 33 (.t 0)),
 (none, .bin 34 .lss (.t 33) (.c (.I 0)))])
 (.cond (.t 34) (.seq (.ops [(none, .idxA 35 24 1 (.t 5) (.c (.I 0))),
 (none, .store 1 (.t 35) (.c (.val (.int .u8 45))))])
 (.seq (.ops [(none, .mv 36 (.t 7)),
 (none, .bin 37 .add (.c (.I 1)) (.t 36)),
 (none, .slA 38 24 1 (.t 5) none (some (.t 37))),
 (none, .bad),
 (none, .mv 4 (.t 39))])
 (.ret)))
 (.skip)))
 (.seq (.ops [(none, .mv 40 (.t 7)),
 (none, .bin 41 .add (.c (.I 1)) (.t 40)),
 (none, .slA 42 24 1 (.t 5) (some (.c (.I 1))) (some (.t 41))),
 (none, .bad),
 (none, .mv 4 (.t 43))])
 (.ret)))))))))
 (.skip)))
 (.seq (.ops [(none, .mv 45 (.t 0)),
 (none, .conv 46 .u64 (.t 45)),
 (none, .mv 47 (.t 1)),
 (none, .mv 48 (.t 0)),
 (none, .bin 49 .lss (.t 48) (.c (.I 0))),
 (none, .call (some 50) F.internal_strconv_formatBits [(.c .nil), (.t 46), (.t 47), (.t 49), (.c (.B false))]),
 (none, .mv 44 (.t 50)),
 (none, .extract 51 (.t 44) 0),
 (none, .extract 52 (.t 44) 1),
 (none, .mv 8 (.t 51)),
 (none, .mv 9 (.t 52))])
 (.seq (.ops [(none, .mv 53 (.t 9)),
 (none, .mv 4 (.t 53))])
 (.ret))))⟩
def internal_strconv_small : AFn :=
 ⟨1, 15, [.tmp 2],
 .seq (.ops [(none, .mv 2 (.c (.val (.string (ByteArray.mk #[])))))])
 (.seq (.seq (.ops [(none, .mv 3 (.t 0)),
 (none, .bin 4 .lss (.t 3) (.c (.I 10)))])
 (.cond (.t 4) (.seq (.ops [(none, .mv 5 (.t 0)),
 (none, .mv 6 (.t 0)),
 (none, .bin 7 .add (.t 6) (.c (.I 1))),
 (none, .slT 8 (.c (.val (.string (ByteArray.mk #[48, 49, 50, 51, 52, 53, 54, 55, 56, 57, 97, 98, 99, 100, 101, 102, 103, 104, 105, 106, 107, 108, 109, 110, 111, 112, 113, 114, 115, 116, 117, 118, 119, 120, 121, 122])))) (some (.t 5)) (some (.t 7))),
 (none, .mv 2 (.t 8))])
 (.ret))
 (.skip)))
 (.seq (.ops [(none, .mv 9 (.t 0)),
 (none, .bin 10 .mul (.t 9) (.c (.I 2))),
 (none, .mv 11 (.t 0)),
 (none, .bin 12 .mul (.t 11) (.c (.I 2))),
 (none, .bin 13 .add (.t 12) (.c (.I 2))),
 (none, .slT 14 (.c (.val (.string (ByteArray.mk #[48, 48, 48, 49, 48, 50, 48, 51, 48, 52, 48, 53, 48, 54, 48, 55, 48, 56, 48, 57, 49, 48, 49, 49, 49, 50, 49, 51, 49, 52, 49, 53, 49, 54, 49, 55, 49, 56, 49, 57, 50, 48, 50, 49, 50, 50, 50, 51, 50, 52, 50, 53, 50, 54, 50, 55, 50, 56, 50, 57, 51, 48, 51, 49, 51, 50, 51, 51, 51, 52, 51, 53, 51, 54, 51, 55, 51, 56, 51, 57, 52, 48, 52, 49, 52, 50, 52, 51, 52, 52, 52, 53, 52, 54, 52, 55, 52, 56, 52, 57, 53, 48, 53, 49, 53, 50, 53, 51, 53, 52, 53, 53, 53, 54, 53, 55, 53, 56, 53, 57, 54, 48, 54, 49, 54, 50, 54, 51, 54, 52, 54, 53, 54, 54, 54, 55, 54, 56, 54, 57, 55, 48, 55, 49, 55, 50, 55, 51, 55, 52, 55, 53, 55, 54, 55, 55, 55, 56, 55, 57, 56, 48, 56, 49, 56, 50, 56, 51, 56, 52, 56, 53, 56, 54, 56, 55, 56, 56, 56, 57, 57, 48, 57, 49, 57, 50, 57, 51, 57, 52, 57, 53, 57, 54, 57, 55, 57, 56, 57, 57])))) (some (.t 10)) (some (.t 13))),
 (none, .mv 2 (.t 14))])
 (.ret)))⟩
def impl_digits : AFn :=
 ⟨1, 14, [.tmp 2],
 .seq (.ops [(none, .box 1 (.t 0)),
 (none, .mv 2 (.c (.val (.string (ByteArray.mk #[])))))])
 (.seq (.draw [⟨(none, .idxA 3 3 1 (.t 1) (.c (.I 0))), [], []⟩,
 ⟨(none, .load1 4 (.t 3)), [], []⟩,
 ⟨(none, .idxA 6 3 1 (.t 1) (.c (.I 1))), [], []⟩,
 ⟨(none, .load1 7 (.t 6)), [], []⟩,
 ⟨(none, .idxA 10 3 1 (.t 1) (.c (.I 2))), [], []⟩,
 ⟨(none, .load1 11 (.t 10)), [], []⟩,
 ⟨(none, .call (some 5) F.strconv_Itoa [(.t 4)]), [], [2, 3, 4, 5]⟩,
 ⟨(none, .call (some 8) F.strconv_Itoa [(.t 7)]), [], [4, 5]⟩,
 ⟨(none, .bin 9 .add (.t 5) (.t 8)), [], []⟩,
 ⟨(none, .call (some 12) F.strconv_Itoa [(.t 11)]), [], [8]⟩,
 ⟨(none, .bin 13 .add (.t 9) (.t 12)), [], []⟩,
 ⟨(none, .mv 2 (.t 13)), [], []⟩])
 (.ret))⟩
def impl_heapText : AFn :=
 ⟨1, 33, [.tmp 2],
 .seq (.ops [(none, .box 1 (.t 0)),
 (none, .mv 2 (.c (.val (.string (ByteArray.mk #[])))))])
 (.seq (.draw [⟨(none, .fieldAddr 6 (.t 1) 0), [], []⟩,
 ⟨(none, .load1 7 (.t 6)), [], []⟩,
 ⟨(none, .fieldAddr 10 (.t 1) 1), [], []⟩,
 ⟨(none, .load1 11 (.t 10)), [], []⟩,
 ⟨(none, .fieldAddr 15 (.t 1) 2), [], []⟩,
 ⟨(none, .load1 16 (.t 15)), [], []⟩,
 ⟨(none, .call (some 8) F.strconv_Itoa [(.t 7)]), [], [2, 3, 4, 5]⟩,
 ⟨(none, .bin 9 .add (.t 8) (.c (.val (.string (ByteArray.mk #[120]))))), [], []⟩,
 ⟨(none, .call (some 12) F.strconv_Itoa [(.t 11)]), [], [4, 5, 7]⟩,
 ⟨(none, .bin 13 .add (.t 9) (.t 12)), [], []⟩,
 ⟨(none, .bin 14 .add (.t 13) (.c (.val (.string (ByteArray.mk #[120]))))), [], []⟩,
 ⟨(none, .call (some 17) F.strconv_Itoa [(.t 16)]), [], [7, 9, 10]⟩,
 ⟨(none, .bin 18 .add (.t 14) (.t 17)), [], []⟩,
 ⟨(none, .mv 3 (.t 18)), [], []⟩])
 (.seq (.seq (.ops [(none, .fieldAddr 19 (.t 1) 3),
 (none, .load1 20 (.t 19)),
 (none, .len 21 (.t 20)),
 (none, .mv 22 (.c (.I 0)))])
 (.block 0 (.loop (.seq (.ops [(none, .bin 23 .lss (.t 22) (.t 21))])
 (.seq (.cond (.t 23) (.skip)
 (.exit 0))
 (.seq (.block 1 (.seq (.ops [(none, .idxS 24 3 (.t 20) (.t 22)),
 (none, .loadN 25 3 (.t 24)),
 (none, .alloc 5 [(.I 0), (.I 0), (.I 0)]),
 (none, .store 3 (.t 5) (.t 25))])
 (.ops [(none, .mv 26 (.t 3)),
 (none, .loadN 27 3 (.t 5)),
 (none, .call (some 28) F.impl_digits [(.t 27)]),
 (none, .bin 29 .add (.c (.val (.string (ByteArray.mk #[32])))) (.t 28)),
 (none, .bin 30 .add (.t 26) (.t 29)),
 (none, .mv 3 (.t 30))])))
 (.ops [(none, .bin 31 .add (.t 22) (.c (.I 1))),
 (none, .mv 22 (.t 31))])))))))
 (.seq (.ops [(none, .mv 32 (.t 3)),
 (none, .mv 2 (.t 32))])
 (.ret))))⟩
end Go.Ab.C

namespace Go.Ab.K
open Go Go.Ab
theorem spec_l1Num : prepF Go.Proofs.Tryd.prog F.spec_l1Num = some C.spec_l1Num := by kernel_rfl
theorem spec_l2Text : prepF Go.Proofs.Tryd.prog F.spec_l2Text = some C.spec_l2Text := by kernel_rfl
theorem strconv_Itoa : prepF Go.Proofs.Tryd.prog F.strconv_Itoa = some C.strconv_Itoa := by kernel_rfl
theorem internal_strconv_Itoa : prepF Go.Proofs.Tryd.prog F.internal_strconv_Itoa = some C.internal_strconv_Itoa := by kernel_rfl
theorem internal_strconv_FormatInt : prepF Go.Proofs.Tryd.prog F.internal_strconv_FormatInt = some C.internal_strconv_FormatInt := by kernel_rfl
theorem internal_strconv_small : prepF Go.Proofs.Tryd.prog F.internal_strconv_small = some C.internal_strconv_small := by kernel_rfl
theorem impl_digits : prepF Go.Proofs.Tryd.prog F.impl_digits = some C.impl_digits := by kernel_rfl
theorem impl_heapText : prepF Go.Proofs.Tryd.prog F.impl_heapText = some C.impl_heapText := by kernel_rfl
end Go.Ab.K

namespace Go.Ab.C
open Go.Ab
def cmp_isNaN_int : AFn :=
 ⟨1, 6, [.tmp 2],
 .seq (.ops [(none, .mv 2 (.c (.B false)))])
 (.seq (.ops [(none, .mv 3 (.t 0)),
 (none, .mv 4 (.t 0)),
 (none, .bin 5 .neq (.t 3) (.t 4)),
 (none, .mv 2 (.t 5))])
 (.ret))⟩
def cmp_Compare_int : AFn :=
 ⟨2, 20, [.tmp 4],
 .seq (.ops [(none, .mv 4 (.c (.I 0)))])
 (.seq (.ops [(none, .mv 7 (.t 0)),
 (none, .call (some 8) F.cmp_isNaN_int [(.t 7)]),
 (none, .mv 5 (.t 8))])
 (.seq (.ops [(none, .mv 9 (.t 1)),
 (none, .call (some 10) F.cmp_isNaN_int [(.t 9)]),
 (none, .mv 6 (.t 10))])
 (.seq (.seq (.ops [(none, .mv 11 (.t 5))])
 (.cond (.t 11) (.seq (.seq (.ops [(none, .mv 12 (.t 6))])
 (.cond (.t 12) (.seq (.ops [(none, .mv 4 (.c (.I 0)))])
 (.ret))
 (.skip)))
 (.seq (.ops [(none, .mv 4 (.c (.I (-1))))])
 (.ret)))
 (.skip)))
 (.seq (.seq (.ops [(none, .mv 13 (.t 6))])
 (.cond (.t 13) (.seq (.ops [(none, .mv 4 (.c (.I 1)))])
 (.ret))
 (.skip)))
 (.seq (.seq (.ops [(none, .mv 14 (.t 0)),
 (none, .mv 15 (.t 1)),
 (none, .bin 16 .lss (.t 14) (.t 15))])
 (.cond (.t 16) (.seq (.ops [(none, .mv 4 (.c (.I (-1))))])
 (.ret))
 (.skip)))
 (.seq (.seq (.ops [(none, .mv 17 (.t 0)),
 (none, .mv 18 (.t 1)),
 (none, .bin 19 .gtr (.t 17) (.t 18))])
 (.cond (.t 19) (.seq (.ops [(none, .mv 4 (.c (.I 1)))])
 (.ret))
 (.skip)))
 (.seq (.ops [(none, .mv 4 (.c (.I 0)))])
 (.ret))))))))⟩
def slices_Compare_Sint_int : AFn :=
 ⟨2, 36, [.tmp 4],
 .seq (.ops [(none, .mv 4 (.c (.I 0)))])
 (.seq (.seq (.ops [(none, .mv 9 (.t 0)),
 (none, .len 10 (.t 9)),
 (none, .mv 11 (.c (.I 0)))])
 (.block 0 (.loop (.seq (.ops [(none, .bin 12 .lss (.t 11) (.t 10))])
 (.seq (.cond (.t 12) (.skip)
 (.exit 0))
 (.seq (.block 1 (.seq (.ops [(none, .mv 13 (.t 11)),
 (none, .idxS 14 1 (.t 9) (.t 11)),
 (none, .load1 15 (.t 14)),
 (none, .mv 5 (.t 13)),
 (none, .mv 6 (.t 15))])
 (.seq (.seq (.ops [(none, .mv 16 (.t 5)),
 (none, .mv 17 (.t 1)),
 (none, .len 18 (.t 17)),
 (none, .bin 19 .geq (.t 16) (.t 18))])
 (.cond (.t 19) (.seq (.ops [(none, .mv 4 (.c (.I 1)))])
 (.ret))
 (.skip)))
 (.seq (.ops [(none, .mv 20 (.t 1)),
 (none, .mv 21 (.t 5)),
 (none, .idxS 22 1 (.t 20) (.t 21)),
 (none, .load1 23 (.t 22)),
 (none, .mv 7 (.t 23))])
 (.seq (.ops [(none, .mv 24 (.t 6)),
 (none, .mv 25 (.t 7)),
 (none, .call (some 26) F.cmp_Compare_int [(.t 24), (.t 25)]),
 (none, .mv 8 (.t 26))])
 (.seq (.ops [(none, .mv 27 (.t 8)),
 (none, .bin 28 .neq (.t 27) (.c (.I 0)))])
 (.cond (.t 28) (.seq (.ops [(none, .mv 29 (.t 8)),
 (none, .mv 4 (.t 29))])
 (.ret))
 (.skip))))))))
 (.ops [(none, .bin 30 .add (.t 11) (.c (.I 1))),
 (none, .mv 11 (.t 30))])))))))
 (.seq (.seq (.ops [(none, .mv 31 (.t 0)),
 (none, .len 32 (.t 31)),
 (none, .mv 33 (.t 1)),
 (none, .len 34 (.t 33)),
 (none, .bin 35 .lss (.t 32) (.t 34))])
 (.cond (.t 35) (.seq (.ops [(none, .mv 4 (.c (.I (-1))))])
 (.ret))
 (.skip)))
 (.seq (.ops [(none, .mv 4 (.c (.I 0)))])
 (.ret))))⟩
def impl_within : AFn :=
 ⟨3, 15, [.tmp 6],
 .seq (.ops [(none, .mv 6 (.c (.B false)))])
 (.seq (.ops [(none, .mv 7 (.t 0)),
 (none, .mv 8 (.t 1)),
 (none, .bin 9 .geq (.t 7) (.t 8)),
 (none, .mv 10 (.t 9)),
 (some (10, true), .mv 11 (.t 0)),
 (some (10, true), .mv 12 (.t 2)),
 (some (10, true), .bin 13 .leq (.t 11) (.t 12)),
 (none, .pick 14 (.t 10) (.t 13) (.c (.B false))),
 (none, .mv 6 (.t 14))])
 (.ret))⟩
def impl_Heap_box : AFn :=
 ⟨1, 10, [.cellN 2 3],
 .seq (.ops [(none, .box 1 (.t 0)),
 (none, .alloc 2 [(.I 0), (.I 0), (.I 0)])])
 (.seq (.ops [(none, .fieldAddr 3 (.t 1) 0),
 (none, .load1 4 (.t 3)),
 (none, .fieldAddr 5 (.t 1) 1),
 (none, .load1 6 (.t 5)),
 (none, .fieldAddr 7 (.t 1) 2),
 (none, .load1 8 (.t 7)),
 (none, .build 9 [(.I 0), (.I 0), (.I 0)] [(0, 1, (.t 4)), (1, 1, (.t 6)), (2, 1, (.t 8))]),
 (none, .store 3 (.t 2) (.t 9))])
 (.ret))⟩
def impl_box_valid : AFn :=
 ⟨1, 16, [.tmp 2],
 .seq (.ops [(none, .box 1 (.t 0)),
 (none, .mv 2 (.c (.B false)))])
 (.seq (.ops [(none, .idxA 3 3 1 (.t 1) (.c (.I 0))),
 (none, .load1 4 (.t 3)),
 (none, .call (some 5) F.impl_within [(.t 4), (.c (.I 1)), (.c (.I 4))]),
 (none, .mv 6 (.t 5)),
 (some (6, true), .idxA 7 3 1 (.t 1) (.c (.I 1))),
 (some (6, true), .load1 8 (.t 7)),
 (some (6, true), .call (some 9) F.impl_within [(.t 8), (.c (.I 1)), (.c (.I 4))]),
 (none, .pick 10 (.t 6) (.t 9) (.c (.B false))),
 (none, .mv 11 (.t 10)),
 (some (11, true), .idxA 12 3 1 (.t 1) (.c (.I 2))),
 (some (11, true), .load1 13 (.t 12)),
 (some (11, true), .call (some 14) F.impl_within [(.t 13), (.c (.I 1)), (.c (.I 4))]),
 (none, .pick 15 (.t 11) (.t 14) (.c (.B false))),
 (none, .mv 2 (.t 15))])
 (.ret))⟩
def impl_box_has : AFn :=
 ⟨2, 27, [.tmp 4],
 .seq (.ops [(none, .box 2 (.t 0)),
 (none, .box 3 (.t 1)),
 (none, .mv 4 (.c (.B false)))])
 (.seq (.ops [(none, .idxA 5 3 1 (.t 3) (.c (.I 0))),
 (none, .load1 6 (.t 5)),
 (none, .idxA 7 3 1 (.t 2) (.c (.I 0))),
 (none, .load1 8 (.t 7)),
 (none, .bin 9 .sub (.t 8) (.c (.I 1))),
 (none, .call (some 10) F.impl_within [(.t 6), (.c (.I 0)), (.t 9)]),
 (none, .mv 11 (.t 10)),
 (some (11, true), .idxA 12 3 1 (.t 3) (.c (.I 1))),
 (some (11, true), .load1 13 (.t 12)),
 (some (11, true), .idxA 14 3 1 (.t 2) (.c (.I 1))),
 (some (11, true), .load1 15 (.t 14)),
 (some (11, true), .bin 16 .sub (.t 15) (.c (.I 1))),
 (some (11, true), .call (some 17) F.impl_within [(.t 13), (.c (.I 0)), (.t 16)]),
 (none, .pick 18 (.t 11) (.t 17) (.c (.B false))),
 (none, .mv 19 (.t 18)),
 (some (19, true), .idxA 20 3 1 (.t 3) (.c (.I 2))),
 (some (19, true), .load1 21 (.t 20)),
 (some (19, true), .idxA 22 3 1 (.t 2) (.c (.I 2))),
 (some (19, true), .load1 23 (.t 22)),
 (some (19, true), .bin 24 .sub (.t 23) (.c (.I 1))),
 (some (19, true), .call (some 25) F.impl_within [(.t 21), (.c (.I 0)), (.t 24)]),
 (none, .pick 26 (.t 19) (.t 25) (.c (.B false))),
 (none, .mv 4 (.t 26))])
 (.ret))⟩
def impl_compareCells : AFn :=
 ⟨2, 8, [.tmp 4],
 .seq (.ops [(none, .box 2 (.t 0)),
 (none, .box 3 (.t 1)),
 (none, .mv 4 (.c (.I 0)))])
 (.seq (.draw [⟨(none, .slA 5 3 1 (.t 2) none none), [], []⟩,
 ⟨(none, .slA 6 3 1 (.t 3) none none), [], []⟩,
 ⟨(none, .call (some 7) F.slices_Compare_Sint_int [(.t 5), (.t 6)]), [], []⟩,
 ⟨(none, .mv 4 (.t 7)), [], []⟩])
 (.ret))⟩
def impl_IsHeap : AFn :=
 ⟨1, 38, [.tmp 2],
 .seq (.ops [(none, .box 1 (.t 0)),
 (none, .mv 2 (.c (.B false)))])
 (.seq (.seq (.ops [(none, .loadN 5 4 (.t 1)),
 (none, .call (some 6) F.impl_Heap_box [(.t 5)]),
 (none, .call (some 7) F.impl_box_valid [(.t 6)]),
 (none, .un 8 .not (.t 7))])
 (.cond (.t 8) (.seq (.ops [(none, .mv 2 (.c (.B false)))])
 (.ret))
 (.skip)))
 (.seq (.seq (.ops [(none, .fieldAddr 9 (.t 1) 3),
 (none, .load1 10 (.t 9)),
 (none, .len 11 (.t 10)),
 (none, .mv 12 (.c (.I 0)))])
 (.block 0 (.loop (.seq (.ops [(none, .bin 13 .lss (.t 12) (.t 11))])
 (.seq (.cond (.t 13) (.skip)
 (.exit 0))
 (.seq (.block 1 (.seq (.ops [(none, .mv 14 (.t 12)),
 (none, .idxS 15 3 (.t 10) (.t 12)),
 (none, .loadN 16 3 (.t 15)),
 (none, .alloc 4 [(.I 0), (.I 0), (.I 0)]),
 (none, .mv 3 (.t 14)),
 (none, .store 3 (.t 4) (.t 16))])
 (.seq (.draw [⟨(none, .loadN 17 4 (.t 1)), [], []⟩,
 ⟨(none, .loadN 19 3 (.t 4)), [], []⟩,
 ⟨(none, .call (some 18) F.impl_Heap_box [(.t 17)]), [], [1]⟩,
 ⟨(none, .call (some 20) F.impl_box_has [(.t 18), (.t 19)]), [], []⟩,
 ⟨(none, .un 21 .not (.t 20)), [], []⟩,
 ⟨(none, .mv 22 (.t 21)), [], []⟩,
 ⟨(some (22, false), .mv 23 (.t 3)), [], []⟩,
 ⟨(some (22, false), .bin 24 .gtr (.t 23) (.c (.I 0))), [], []⟩,
 ⟨(some (22, false), .mv 25 (.t 24)), [], []⟩,
 ⟨(some (25, true), .fieldAddr 26 (.t 1) 3), [], []⟩,
 ⟨(some (25, true), .load1 27 (.t 26)), [], []⟩,
 ⟨(some (25, true), .mv 28 (.t 3)), [], []⟩,
 ⟨(some (25, true), .bin 29 .sub (.t 28) (.c (.I 1))), [], []⟩,
 ⟨(some (25, true), .idxS 30 3 (.t 27) (.t 29)), [], []⟩,
 ⟨(some (25, true), .loadN 31 3 (.t 30)), [], []⟩,
 ⟨(some (25, true), .loadN 32 3 (.t 4)), [], []⟩,
 ⟨(some (25, true), .call (some 33) F.impl_compareCells [(.t 31), (.t 32)]), [], []⟩,
 ⟨(some (25, true), .bin 34 .geq (.t 33) (.c (.I 0))), [], []⟩,
 ⟨(some (22, false), .pick 35 (.t 25) (.t 34) (.c (.B false))), [], []⟩,
 ⟨(none, .pick 36 (.t 22) (.c (.B true)) (.t 35)), [], []⟩])
 (.cond (.t 36) (.seq (.ops [(none, .mv 2 (.c (.B false)))])
 (.ret))
 (.skip)))))
 (.ops [(none, .bin 37 .add (.t 12) (.c (.I 1))),
 (none, .mv 12 (.t 37))])))))))
 (.seq (.ops [(none, .mv 2 (.c (.B true)))])
 (.ret))))⟩
end Go.Ab.C

namespace Go.Ab.K
open Go Go.Ab
theorem cmp_isNaN_int : prepF Go.Proofs.Tryd.prog F.cmp_isNaN_int = some C.cmp_isNaN_int := by kernel_rfl
theorem cmp_Compare_int : prepF Go.Proofs.Tryd.prog F.cmp_Compare_int = some C.cmp_Compare_int := by kernel_rfl
theorem slices_Compare_Sint_int : prepF Go.Proofs.Tryd.prog F.slices_Compare_Sint_int = some C.slices_Compare_Sint_int := by kernel_rfl
theorem impl_within : prepF Go.Proofs.Tryd.prog F.impl_within = some C.impl_within := by kernel_rfl
theorem impl_Heap_box : prepF Go.Proofs.Tryd.prog F.impl_Heap_box = some C.impl_Heap_box := by kernel_rfl
theorem impl_box_valid : prepF Go.Proofs.Tryd.prog F.impl_box_valid = some C.impl_box_valid := by kernel_rfl
theorem impl_box_has : prepF Go.Proofs.Tryd.prog F.impl_box_has = some C.impl_box_has := by kernel_rfl
theorem impl_compareCells : prepF Go.Proofs.Tryd.prog F.impl_compareCells = some C.impl_compareCells := by kernel_rfl
theorem impl_IsHeap : prepF Go.Proofs.Tryd.prog F.impl_IsHeap = some C.impl_IsHeap := by kernel_rfl
end Go.Ab.K

namespace Go.Ab

def Sides (x y z : Int) : Prop := (1 ≤ x ∧ x ≤ 4) ∧ (1 ≤ y ∧ y ≤ 4) ∧ (1 ≤ z ∧ z ≤ 4)
instance (x y z : Int) : Decidable (Sides x y z) := by unfold Sides; infer_instance
def Cell.lt (p q : Cell) : Prop := p.a < q.a ∨ (p.a = q.a ∧ (p.b < q.b ∨ (p.b = q.b ∧ p.c < q.c)))
instance (p q : Cell) : Decidable (p.lt q) := by unfold Cell.lt; infer_instance
def Cell.inBox (x y z : Int) (c : Cell) : Prop := (0 ≤ c.a ∧ c.a ≤ x - 1) ∧ (0 ≤ c.b ∧ c.b ≤ y - 1) ∧ (0 ≤ c.c ∧ c.c ≤ z - 1)
instance (x y z : Int) (c : Cell) : Decidable (c.inBox x y z) := by unfold Cell.inBox; infer_instance
def HeapOK (x y z : Int) (cs : List Cell) : Prop :=
  Sides x y z ∧ ∀ k, k < cs.length → (cs.getD k default).inBox x y z ∧ (0 < k → (cs.getD (k - 1) default).lt (cs.getD k default))
noncomputable instance (x y z : Int) (cs : List Cell) : Decidable (HeapOK x y z cs) := Classical.propDecidable _

def topStep (y : Int) (out : List Int) (c : Cell) : List Int := out.set (c.a * y + c.b).toNat (max (out.getD (c.a * y + c.b).toNat 0) (c.c + 1))
def topsOf (x y : Int) (cs : List Cell) : List Int := cs.foldl (topStep y) (List.replicate (x * y).toNat 0)

def apart (p q : Cell) : Int := max (p.a - q.a) (q.a - p.a) + max (p.b - q.b) (q.b - p.b) + max (p.c - q.c) (q.c - p.c)
def colOf (y p : Int) : Cell := ⟨p.tdiv y, p.tmod y, 0⟩
def nums (n : Nat) : List Int := (List.range n).map Int.ofNat
def nexts (x y p : Int) : List Int := (nums (x * y).toNat).filter fun q => decide (apart (colOf y p) (colOf y q) = 1)
def gap (a b : Int) : Int := max (a - b) (b - a)
def stepsOf (x y : Int) (ts : List Int) (p s : Int) : List Int := (nexts x y p).filter fun q => decide (gap (ts.getD q.toNat 0) (ts.getD p.toNat 0) ≤ s)

end Go.Ab

namespace Go.Ab
open Go

theorem g_within {n lo hi : Int} {M : Mem} : CallsTo PG F.impl_within [.I n, .I lo, .I hi] M (.B (decide (lo ≤ n ∧ n ≤ hi))) M := by
  refine calls_run K.impl_within rfl ?_
  simp (disch := omega) only [C.impl_within, ↓SXd, SXu, slBounds, ↓sop, ↓aop, ↓reduceIte, LV.cells, AOp.dst, LV.I, LV.B, LV.U, LV.S, LV.nil, Nat.reduceEqDiff, Nat.reduceAdd, Nat.reduceMul, Nat.reduceSub, Nat.reduceLeDiff, Nat.reduceBEq, Nat.reduceDiv, Nat.reduceMod, Int.reduceToNat, Int.reduceLT, Int.reduceLE, Int.reduceAdd, Int.reduceSub, Int.reduceMul, Int.reduceEq, Int.reduceNeg, reduceCtorEq, resV, resAll, ARes.ev, LV.flat, ite_true, ite_false, exists_eq_left', exists_eq_left, keyOf, implies_true, fillC, capOf]
  by_cases h1 : lo ≤ n
  · simp (disch := omega) only [h1, ↓SXd, SXu, slBounds, ↓sop, ↓aop, ↓reduceIte, LV.cells, AOp.dst, LV.I, LV.B, LV.U, LV.S, LV.nil, Nat.reduceEqDiff, Nat.reduceAdd, Nat.reduceMul, Nat.reduceSub, Nat.reduceLeDiff, Nat.reduceBEq, Nat.reduceDiv, Nat.reduceMod, Int.reduceToNat, Int.reduceLT, Int.reduceLE, Int.reduceAdd, Int.reduceSub, Int.reduceMul, Int.reduceEq, Int.reduceNeg, reduceCtorEq, resV, resAll, ARes.ev, LV.flat, ite_true, ite_false, exists_eq_left', exists_eq_left, keyOf, implies_true, fillC, capOf]
    exact cmp_drop0 rfl
  · simp (disch := omega) only [h1, ↓SXd, SXu, slBounds, ↓sop, ↓aop, ↓reduceIte, LV.cells, AOp.dst, LV.I, LV.B, LV.U, LV.S, LV.nil, Nat.reduceEqDiff, Nat.reduceAdd, Nat.reduceMul, Nat.reduceSub, Nat.reduceLeDiff, Nat.reduceBEq, Nat.reduceDiv, Nat.reduceMod, Int.reduceToNat, Int.reduceLT, Int.reduceLE, Int.reduceAdd, Int.reduceSub, Int.reduceMul, Int.reduceEq, Int.reduceNeg, reduceCtorEq, resV, resAll, ARes.ev, LV.flat, ite_true, ite_false, exists_eq_left', exists_eq_left, keyOf, implies_true, fillC, capOf]
    exact cmp_drop0 rfl

theorem g_box {x y z : Int} {v : LV} {M : Mem} : CallsTo PG F.impl_Heap_box [.agg [.I x, .I y, .I z, v]] M (.agg [.I x, .I y, .I z]) M := by
  refine calls_run K.impl_Heap_box rfl ?_
  simp (disch := omega) only [C.impl_Heap_box, ↓SXd, SXu, slBounds, ↓sop, ↓aop, ↓reduceIte, LV.cells, AOp.dst, LV.I, LV.B, LV.U, LV.S, LV.nil, Nat.reduceEqDiff, Nat.reduceAdd, Nat.reduceMul, Nat.reduceSub, Nat.reduceLeDiff, Nat.reduceBEq, Nat.reduceDiv, Nat.reduceMod, Int.reduceToNat, Int.reduceLT, Int.reduceLE, Int.reduceAdd, Int.reduceSub, Int.reduceMul, Int.reduceEq, Int.reduceNeg, reduceCtorEq, resV, resAll, ARes.ev, LV.flat, ite_true, ite_false, exists_eq_left', exists_eq_left, keyOf, implies_true, fillC, capOf]
  exact cmp_drop rfl

theorem g_valid {x y z : Int} {M : Mem} : CallsTo PG F.impl_box_valid [.agg [.I x, .I y, .I z]] M (.B (decide (Sides x y z))) M := by
  refine calls_run K.impl_box_valid rfl ?_
  simp (disch := omega) only [C.impl_box_valid, ↓SXd, SXu, slBounds, ↓sop, ↓aop, ↓reduceIte, LV.cells, AOp.dst, LV.I, LV.B, LV.U, LV.S, LV.nil, Nat.reduceEqDiff, Nat.reduceAdd, Nat.reduceMul, Nat.reduceSub, Nat.reduceLeDiff, Nat.reduceBEq, Nat.reduceDiv, Nat.reduceMod, Int.reduceToNat, Int.reduceLT, Int.reduceLE, Int.reduceAdd, Int.reduceSub, Int.reduceMul, Int.reduceEq, Int.reduceNeg, reduceCtorEq, resV, resAll, ARes.ev, LV.flat, ite_true, ite_false, exists_eq_left', exists_eq_left, keyOf, implies_true, fillC, capOf]
  refine callK_of g_within ?_
  simp (disch := omega) only [↓SXd, SXu, slBounds, ↓sop, ↓aop, ↓reduceIte, LV.cells, AOp.dst, LV.I, LV.B, LV.U, LV.S, LV.nil, Nat.reduceEqDiff, Nat.reduceAdd, Nat.reduceMul, Nat.reduceSub, Nat.reduceLeDiff, Nat.reduceBEq, Nat.reduceDiv, Nat.reduceMod, Int.reduceToNat, Int.reduceLT, Int.reduceLE, Int.reduceAdd, Int.reduceSub, Int.reduceMul, Int.reduceEq, Int.reduceNeg, reduceCtorEq, resV, resAll, ARes.ev, LV.flat, ite_true, ite_false, exists_eq_left', exists_eq_left, keyOf, implies_true, fillC, capOf]
  unfold Sides
  by_cases h1 : 1 ≤ x ∧ x ≤ 4
  · simp (disch := omega) only [h1, ↓SXd, SXu, slBounds, ↓sop, ↓aop, ↓reduceIte, LV.cells, AOp.dst, LV.I, LV.B, LV.U, LV.S, LV.nil, Nat.reduceEqDiff, Nat.reduceAdd, Nat.reduceMul, Nat.reduceSub, Nat.reduceLeDiff, Nat.reduceBEq, Nat.reduceDiv, Nat.reduceMod, Int.reduceToNat, Int.reduceLT, Int.reduceLE, Int.reduceAdd, Int.reduceSub, Int.reduceMul, Int.reduceEq, Int.reduceNeg, reduceCtorEq, resV, resAll, ARes.ev, LV.flat, ite_true, ite_false, exists_eq_left', exists_eq_left, keyOf, implies_true, fillC, capOf]
    refine callK_of g_within ?_
    simp (disch := omega) only [↓SXd, SXu, slBounds, ↓sop, ↓aop, ↓reduceIte, LV.cells, AOp.dst, LV.I, LV.B, LV.U, LV.S, LV.nil, Nat.reduceEqDiff, Nat.reduceAdd, Nat.reduceMul, Nat.reduceSub, Nat.reduceLeDiff, Nat.reduceBEq, Nat.reduceDiv, Nat.reduceMod, Int.reduceToNat, Int.reduceLT, Int.reduceLE, Int.reduceAdd, Int.reduceSub, Int.reduceMul, Int.reduceEq, Int.reduceNeg, reduceCtorEq, resV, resAll, ARes.ev, LV.flat, ite_true, ite_false, exists_eq_left', exists_eq_left, keyOf, implies_true, fillC, capOf]
    by_cases h2 : 1 ≤ y ∧ y ≤ 4
    · simp (disch := omega) only [h2, ↓SXd, SXu, slBounds, ↓sop, ↓aop, ↓reduceIte, LV.cells, AOp.dst, LV.I, LV.B, LV.U, LV.S, LV.nil, Nat.reduceEqDiff, Nat.reduceAdd, Nat.reduceMul, Nat.reduceSub, Nat.reduceLeDiff, Nat.reduceBEq, Nat.reduceDiv, Nat.reduceMod, Int.reduceToNat, Int.reduceLT, Int.reduceLE, Int.reduceAdd, Int.reduceSub, Int.reduceMul, Int.reduceEq, Int.reduceNeg, reduceCtorEq, resV, resAll, ARes.ev, LV.flat, ite_true, ite_false, exists_eq_left', exists_eq_left, keyOf, implies_true, fillC, capOf]
      refine callK_of g_within ?_
      simp (disch := omega) only [↓SXd, SXu, slBounds, ↓sop, ↓aop, ↓reduceIte, LV.cells, AOp.dst, LV.I, LV.B, LV.U, LV.S, LV.nil, Nat.reduceEqDiff, Nat.reduceAdd, Nat.reduceMul, Nat.reduceSub, Nat.reduceLeDiff, Nat.reduceBEq, Nat.reduceDiv, Nat.reduceMod, Int.reduceToNat, Int.reduceLT, Int.reduceLE, Int.reduceAdd, Int.reduceSub, Int.reduceMul, Int.reduceEq, Int.reduceNeg, reduceCtorEq, resV, resAll, ARes.ev, LV.flat, ite_true, ite_false, exists_eq_left', exists_eq_left, keyOf, implies_true, fillC, capOf]
      exact cmp_drop rfl
    · simp (disch := omega) only [h2, false_and, ↓SXd, SXu, slBounds, ↓sop, ↓aop, ↓reduceIte, LV.cells, AOp.dst, LV.I, LV.B, LV.U, LV.S, LV.nil, Nat.reduceEqDiff, Nat.reduceAdd, Nat.reduceMul, Nat.reduceSub, Nat.reduceLeDiff, Nat.reduceBEq, Nat.reduceDiv, Nat.reduceMod, Int.reduceToNat, Int.reduceLT, Int.reduceLE, Int.reduceAdd, Int.reduceSub, Int.reduceMul, Int.reduceEq, Int.reduceNeg, reduceCtorEq, resV, resAll, ARes.ev, LV.flat, ite_true, ite_false, exists_eq_left', exists_eq_left, keyOf, implies_true, fillC, capOf]
      exact cmp_drop rfl
  · simp (disch := omega) only [h1, false_and, ↓SXd, SXu, slBounds, ↓sop, ↓aop, ↓reduceIte, LV.cells, AOp.dst, LV.I, LV.B, LV.U, LV.S, LV.nil, Nat.reduceEqDiff, Nat.reduceAdd, Nat.reduceMul, Nat.reduceSub, Nat.reduceLeDiff, Nat.reduceBEq, Nat.reduceDiv, Nat.reduceMod, Int.reduceToNat, Int.reduceLT, Int.reduceLE, Int.reduceAdd, Int.reduceSub, Int.reduceMul, Int.reduceEq, Int.reduceNeg, reduceCtorEq, resV, resAll, ARes.ev, LV.flat, ite_true, ite_false, exists_eq_left', exists_eq_left, keyOf, implies_true, fillC, capOf]
    exact cmp_drop rfl

theorem g_has {x y z a b c : Int} {M : Mem} (hS : Sides x y z) : CallsTo PG F.impl_box_has [.agg [.I x, .I y, .I z], .agg [.I a, .I b, .I c]] M (.B (decide (Cell.inBox x y z ⟨a, b, c⟩))) M := by
  obtain ⟨hx, hy, hz⟩ := hS
  refine calls_run K.impl_box_has rfl ?_
  simp (disch := omega) only [C.impl_box_has, ↓SXd, SXu, slBounds, ↓sop, ↓aop, ↓reduceIte, LV.cells, AOp.dst, LV.I, LV.B, LV.U, LV.S, LV.nil, Nat.reduceEqDiff, Nat.reduceAdd, Nat.reduceMul, Nat.reduceSub, Nat.reduceLeDiff, Nat.reduceBEq, Nat.reduceDiv, Nat.reduceMod, Int.reduceToNat, Int.reduceLT, Int.reduceLE, Int.reduceAdd, Int.reduceSub, Int.reduceMul, Int.reduceEq, Int.reduceNeg, reduceCtorEq, resV, resAll, ARes.ev, LV.flat, ite_true, ite_false, exists_eq_left', exists_eq_left, keyOf, implies_true, fillC, capOf]
  refine callK_of g_within ?_
  simp (disch := omega) only [↓SXd, SXu, slBounds, ↓sop, ↓aop, ↓reduceIte, LV.cells, AOp.dst, LV.I, LV.B, LV.U, LV.S, LV.nil, Nat.reduceEqDiff, Nat.reduceAdd, Nat.reduceMul, Nat.reduceSub, Nat.reduceLeDiff, Nat.reduceBEq, Nat.reduceDiv, Nat.reduceMod, Int.reduceToNat, Int.reduceLT, Int.reduceLE, Int.reduceAdd, Int.reduceSub, Int.reduceMul, Int.reduceEq, Int.reduceNeg, reduceCtorEq, resV, resAll, ARes.ev, LV.flat, ite_true, ite_false, exists_eq_left', exists_eq_left, keyOf, implies_true, fillC, capOf]
  unfold Cell.inBox
  by_cases h1 : 0 ≤ a ∧ a ≤ x - 1
  · simp (disch := omega) only [h1, ↓SXd, SXu, slBounds, ↓sop, ↓aop, ↓reduceIte, LV.cells, AOp.dst, LV.I, LV.B, LV.U, LV.S, LV.nil, Nat.reduceEqDiff, Nat.reduceAdd, Nat.reduceMul, Nat.reduceSub, Nat.reduceLeDiff, Nat.reduceBEq, Nat.reduceDiv, Nat.reduceMod, Int.reduceToNat, Int.reduceLT, Int.reduceLE, Int.reduceAdd, Int.reduceSub, Int.reduceMul, Int.reduceEq, Int.reduceNeg, reduceCtorEq, resV, resAll, ARes.ev, LV.flat, ite_true, ite_false, exists_eq_left', exists_eq_left, keyOf, implies_true, fillC, capOf]
    refine callK_of g_within ?_
    simp (disch := omega) only [↓SXd, SXu, slBounds, ↓sop, ↓aop, ↓reduceIte, LV.cells, AOp.dst, LV.I, LV.B, LV.U, LV.S, LV.nil, Nat.reduceEqDiff, Nat.reduceAdd, Nat.reduceMul, Nat.reduceSub, Nat.reduceLeDiff, Nat.reduceBEq, Nat.reduceDiv, Nat.reduceMod, Int.reduceToNat, Int.reduceLT, Int.reduceLE, Int.reduceAdd, Int.reduceSub, Int.reduceMul, Int.reduceEq, Int.reduceNeg, reduceCtorEq, resV, resAll, ARes.ev, LV.flat, ite_true, ite_false, exists_eq_left', exists_eq_left, keyOf, implies_true, fillC, capOf]
    by_cases h2 : 0 ≤ b ∧ b ≤ y - 1
    · simp (disch := omega) only [h2, ↓SXd, SXu, slBounds, ↓sop, ↓aop, ↓reduceIte, LV.cells, AOp.dst, LV.I, LV.B, LV.U, LV.S, LV.nil, Nat.reduceEqDiff, Nat.reduceAdd, Nat.reduceMul, Nat.reduceSub, Nat.reduceLeDiff, Nat.reduceBEq, Nat.reduceDiv, Nat.reduceMod, Int.reduceToNat, Int.reduceLT, Int.reduceLE, Int.reduceAdd, Int.reduceSub, Int.reduceMul, Int.reduceEq, Int.reduceNeg, reduceCtorEq, resV, resAll, ARes.ev, LV.flat, ite_true, ite_false, exists_eq_left', exists_eq_left, keyOf, implies_true, fillC, capOf]
      refine callK_of g_within ?_
      simp (disch := omega) only [↓SXd, SXu, slBounds, ↓sop, ↓aop, ↓reduceIte, LV.cells, AOp.dst, LV.I, LV.B, LV.U, LV.S, LV.nil, Nat.reduceEqDiff, Nat.reduceAdd, Nat.reduceMul, Nat.reduceSub, Nat.reduceLeDiff, Nat.reduceBEq, Nat.reduceDiv, Nat.reduceMod, Int.reduceToNat, Int.reduceLT, Int.reduceLE, Int.reduceAdd, Int.reduceSub, Int.reduceMul, Int.reduceEq, Int.reduceNeg, reduceCtorEq, resV, resAll, ARes.ev, LV.flat, ite_true, ite_false, exists_eq_left', exists_eq_left, keyOf, implies_true, fillC, capOf]
      exact cmp_drop rfl
    · simp (disch := omega) only [h2, false_and, ↓SXd, SXu, slBounds, ↓sop, ↓aop, ↓reduceIte, LV.cells, AOp.dst, LV.I, LV.B, LV.U, LV.S, LV.nil, Nat.reduceEqDiff, Nat.reduceAdd, Nat.reduceMul, Nat.reduceSub, Nat.reduceLeDiff, Nat.reduceBEq, Nat.reduceDiv, Nat.reduceMod, Int.reduceToNat, Int.reduceLT, Int.reduceLE, Int.reduceAdd, Int.reduceSub, Int.reduceMul, Int.reduceEq, Int.reduceNeg, reduceCtorEq, resV, resAll, ARes.ev, LV.flat, ite_true, ite_false, exists_eq_left', exists_eq_left, keyOf, implies_true, fillC, capOf]
      exact cmp_drop rfl
  · simp (disch := omega) only [h1, false_and, ↓SXd, SXu, slBounds, ↓sop, ↓aop, ↓reduceIte, LV.cells, AOp.dst, LV.I, LV.B, LV.U, LV.S, LV.nil, Nat.reduceEqDiff, Nat.reduceAdd, Nat.reduceMul, Nat.reduceSub, Nat.reduceLeDiff, Nat.reduceBEq, Nat.reduceDiv, Nat.reduceMod, Int.reduceToNat, Int.reduceLT, Int.reduceLE, Int.reduceAdd, Int.reduceSub, Int.reduceMul, Int.reduceEq, Int.reduceNeg, reduceCtorEq, resV, resAll, ARes.ev, LV.flat, ite_true, ite_false, exists_eq_left', exists_eq_left, keyOf, implies_true, fillC, capOf]
    exact cmp_drop rfl

theorem g_isNaN {n : Int} {M : Mem} : CallsTo PG F.cmp_isNaN_int [.I n] M (.B false) M := by
  refine calls_run K.cmp_isNaN_int rfl ?_
  simp (disch := omega) only [C.cmp_isNaN_int, ↓SXd, SXu, slBounds, ↓sop, ↓aop, ↓reduceIte, LV.cells, AOp.dst, LV.I, LV.B, LV.U, LV.S, LV.nil, Nat.reduceEqDiff, Nat.reduceAdd, Nat.reduceMul, Nat.reduceSub, Nat.reduceLeDiff, Nat.reduceBEq, Nat.reduceDiv, Nat.reduceMod, Int.reduceToNat, Int.reduceLT, Int.reduceLE, Int.reduceAdd, Int.reduceSub, Int.reduceMul, Int.reduceEq, Int.reduceNeg, reduceCtorEq, resV, resAll, ARes.ev, LV.flat, ite_true, ite_false, exists_eq_left', exists_eq_left, keyOf, implies_true, fillC, capOf]
  exact cmp_drop0 rfl

def cmpI (a b : Int) : Int := if a < b then -1 else if b < a then 1 else 0
theorem g_cmp {a b : Int} {M : Mem} : CallsTo PG F.cmp_Compare_int [.I a, .I b] M (.I (cmpI a b)) M := by
  refine calls_run K.cmp_Compare_int rfl ?_
  simp (disch := omega) only [C.cmp_Compare_int, ↓SXd, SXu, slBounds, ↓sop, ↓aop, ↓reduceIte, LV.cells, AOp.dst, LV.I, LV.B, LV.U, LV.S, LV.nil, Nat.reduceEqDiff, Nat.reduceAdd, Nat.reduceMul, Nat.reduceSub, Nat.reduceLeDiff, Nat.reduceBEq, Nat.reduceDiv, Nat.reduceMod, Int.reduceToNat, Int.reduceLT, Int.reduceLE, Int.reduceAdd, Int.reduceSub, Int.reduceMul, Int.reduceEq, Int.reduceNeg, reduceCtorEq, resV, resAll, ARes.ev, LV.flat, ite_true, ite_false, exists_eq_left', exists_eq_left, keyOf, implies_true, fillC, capOf]
  refine callK_of g_isNaN ?_
  simp (disch := omega) only [↓SXd, SXu, slBounds, ↓sop, ↓aop, ↓reduceIte, LV.cells, AOp.dst, LV.I, LV.B, LV.U, LV.S, LV.nil, Nat.reduceEqDiff, Nat.reduceAdd, Nat.reduceMul, Nat.reduceSub, Nat.reduceLeDiff, Nat.reduceBEq, Nat.reduceDiv, Nat.reduceMod, Int.reduceToNat, Int.reduceLT, Int.reduceLE, Int.reduceAdd, Int.reduceSub, Int.reduceMul, Int.reduceEq, Int.reduceNeg, reduceCtorEq, resV, resAll, ARes.ev, LV.flat, ite_true, ite_false, exists_eq_left', exists_eq_left, keyOf, implies_true, fillC, capOf]
  refine callK_of g_isNaN ?_
  simp (disch := omega) only [↓SXd, SXu, slBounds, ↓sop, ↓aop, ↓reduceIte, LV.cells, AOp.dst, LV.I, LV.B, LV.U, LV.S, LV.nil, Nat.reduceEqDiff, Nat.reduceAdd, Nat.reduceMul, Nat.reduceSub, Nat.reduceLeDiff, Nat.reduceBEq, Nat.reduceDiv, Nat.reduceMod, Int.reduceToNat, Int.reduceLT, Int.reduceLE, Int.reduceAdd, Int.reduceSub, Int.reduceMul, Int.reduceEq, Int.reduceNeg, reduceCtorEq, resV, resAll, ARes.ev, LV.flat, ite_true, ite_false, exists_eq_left', exists_eq_left, keyOf, implies_true, fillC, capOf]
  refine condC_dec (fun h1 => ?_) (fun h1 => ?_) <;> simp (disch := omega) only [↓SXd, SXu, slBounds, ↓sop, ↓aop, ↓reduceIte, LV.cells, AOp.dst, LV.I, LV.B, LV.U, LV.S, LV.nil, Nat.reduceEqDiff, Nat.reduceAdd, Nat.reduceMul, Nat.reduceSub, Nat.reduceLeDiff, Nat.reduceBEq, Nat.reduceDiv, Nat.reduceMod, Int.reduceToNat, Int.reduceLT, Int.reduceLE, Int.reduceAdd, Int.reduceSub, Int.reduceMul, Int.reduceEq, Int.reduceNeg, reduceCtorEq, resV, resAll, ARes.ev, LV.flat, ite_true, ite_false, exists_eq_left', exists_eq_left, keyOf, implies_true, fillC, capOf]
  · rw [show cmpI a b = -1 by simp [cmpI, h1]]; exact cmp_drop0 rfl
  · refine condC_dec (fun h2 => ?_) (fun h2 => ?_) <;> simp (disch := omega) only [↓SXd, SXu, slBounds, ↓sop, ↓aop, ↓reduceIte, LV.cells, AOp.dst, LV.I, LV.B, LV.U, LV.S, LV.nil, Nat.reduceEqDiff, Nat.reduceAdd, Nat.reduceMul, Nat.reduceSub, Nat.reduceLeDiff, Nat.reduceBEq, Nat.reduceDiv, Nat.reduceMod, Int.reduceToNat, Int.reduceLT, Int.reduceLE, Int.reduceAdd, Int.reduceSub, Int.reduceMul, Int.reduceEq, Int.reduceNeg, reduceCtorEq, resV, resAll, ARes.ev, LV.flat, ite_true, ite_false, exists_eq_left', exists_eq_left, keyOf, implies_true, fillC, capOf]
    · rw [show cmpI a b = 1 by simp [cmpI, h1, h2]]; exact cmp_drop0 rfl
    · rw [show cmpI a b = 0 by simp [cmpI, h1, h2]]; exact cmp_drop0 rfl

def cmpL : List Int → List Int → Int
  | [], [] => 0
  | [], _ :: _ => -1
  | _ :: _, [] => 1
  | a :: r, b :: r' => if cmpI a b = 0 then cmpL r r' else cmpI a b

theorem g_compare {xs ys : List Int} {t o t' o' : Nat} {M : Mem} (h : Ints M t o xs) (h' : Ints M t' o' ys) (hn : xs.length ≤ 1000000000) (hn' : ys.length ≤ 1000000000) :
    CallsTo PG F.slices_Compare_Sint_int [.ref t o xs.length, .ref t' o' ys.length] M (.I (cmpL xs ys)) M := by
  refine calls_run K.slices_Compare_Sint_int rfl ?_
  simp (disch := omega) only [C.slices_Compare_Sint_int, ↓SXd, SXu, slBounds, ↓sop, ↓aop, ↓reduceIte, LV.cells, AOp.dst, LV.I, LV.B, LV.U, LV.S, LV.nil, Nat.reduceEqDiff, Nat.reduceAdd, Nat.reduceMul, Nat.reduceSub, Nat.reduceLeDiff, Nat.reduceBEq, Nat.reduceDiv, Nat.reduceMod, Int.reduceToNat, Int.reduceLT, Int.reduceLE, Int.reduceAdd, Int.reduceSub, Int.reduceMul, Int.reduceEq, Int.reduceNeg, reduceCtorEq, resV, resAll, ARes.ev, LV.flat, ite_true, ite_false, exists_eq_left', exists_eq_left, keyOf, implies_true, fillC, capOf]
  refine ev_loop (fun m fr M' => ∃ k : Nat, k + m = xs.length ∧ M' = M ∧ k ≤ ys.length ∧ fr 0 = .ref t o xs.length ∧ fr 1 = .ref t' o' ys.length ∧ fr 9 = .ref t o xs.length ∧ fr 10 = .I (xs.length : Nat) ∧ fr 11 = .I k ∧ cmpL xs ys = cmpL (xs.drop k) (ys.drop k)) xs.length
    ⟨0, by omega, rfl, by omega, rfl, rfl, rfl, rfl, rfl, rfl⟩ ?_
  rintro m fr M' ⟨k, hk, rfl, hky, h0, h1, h9, h10, h11, he⟩
  simp (disch := omega) only [h0, h1, h9, h10, h11, ↓SXd, SXu, slBounds, ↓sop, ↓aop, ↓reduceIte, LV.cells, AOp.dst, LV.I, LV.B, LV.U, LV.S, LV.nil, Nat.reduceEqDiff, Nat.reduceAdd, Nat.reduceMul, Nat.reduceSub, Nat.reduceLeDiff, Nat.reduceBEq, Nat.reduceDiv, Nat.reduceMod, Int.reduceToNat, Int.reduceLT, Int.reduceLE, Int.reduceAdd, Int.reduceSub, Int.reduceMul, Int.reduceEq, Int.reduceNeg, reduceCtorEq, resV, resAll, ARes.ev, LV.flat, ite_true, ite_false, exists_eq_left', exists_eq_left, keyOf, implies_true, fillC, capOf]
  refine condC_dec (fun hlt => ?_) (fun hlt => ?_)
  · have hx : xs.drop k = xs.getD k 0 :: xs.drop (k + 1) := by
      rw [List.drop_eq_getElem_cons (show k < xs.length by omega)]; simp [show k < xs.length by omega]
    simp (disch := omega) only [h0, h1, h9, h10, h11, Ints.get h, ↓SXd, SXu, slBounds, ↓sop, ↓aop, ↓reduceIte, LV.cells, AOp.dst, LV.I, LV.B, LV.U, LV.S, LV.nil, Nat.reduceEqDiff, Nat.reduceAdd, Nat.reduceMul, Nat.reduceSub, Nat.reduceLeDiff, Nat.reduceBEq, Nat.reduceDiv, Nat.reduceMod, Int.reduceToNat, Int.reduceLT, Int.reduceLE, Int.reduceAdd, Int.reduceSub, Int.reduceMul, Int.reduceEq, Int.reduceNeg, reduceCtorEq, resV, resAll, ARes.ev, LV.flat, ite_true, ite_false, exists_eq_left', exists_eq_left, keyOf, implies_true, fillC, capOf]
    refine condC_dec (fun h2 => ?_) (fun h2 => ?_)
    · simp (disch := omega) only [h0, h1, h9, h10, h11, ↓SXd, SXu, slBounds, ↓sop, ↓aop, ↓reduceIte, LV.cells, AOp.dst, LV.I, LV.B, LV.U, LV.S, LV.nil, Nat.reduceEqDiff, Nat.reduceAdd, Nat.reduceMul, Nat.reduceSub, Nat.reduceLeDiff, Nat.reduceBEq, Nat.reduceDiv, Nat.reduceMod, Int.reduceToNat, Int.reduceLT, Int.reduceLE, Int.reduceAdd, Int.reduceSub, Int.reduceMul, Int.reduceEq, Int.reduceNeg, reduceCtorEq, resV, resAll, ARes.ev, LV.flat, ite_true, ite_false, exists_eq_left', exists_eq_left, keyOf, implies_true, fillC, capOf]
      have : ys.drop k = [] := List.drop_eq_nil_of_le (by omega)
      rw [he, hx, this]; exact cmp_drop0 rfl
    · have hy : ys.drop k = ys.getD k 0 :: ys.drop (k + 1) := by
        rw [List.drop_eq_getElem_cons (show k < ys.length by omega)]; simp [show k < ys.length by omega]
      simp (disch := omega) only [h0, h1, h9, h10, h11, Ints.get h, Ints.get h', ↓SXd, SXu, slBounds, ↓sop, ↓aop, ↓reduceIte, LV.cells, AOp.dst, LV.I, LV.B, LV.U, LV.S, LV.nil, Nat.reduceEqDiff, Nat.reduceAdd, Nat.reduceMul, Nat.reduceSub, Nat.reduceLeDiff, Nat.reduceBEq, Nat.reduceDiv, Nat.reduceMod, Int.reduceToNat, Int.reduceLT, Int.reduceLE, Int.reduceAdd, Int.reduceSub, Int.reduceMul, Int.reduceEq, Int.reduceNeg, reduceCtorEq, resV, resAll, ARes.ev, LV.flat, ite_true, ite_false, exists_eq_left', exists_eq_left, keyOf, implies_true, fillC, capOf]
      refine callK_of g_cmp ?_
      simp (disch := omega) only [h0, h1, h9, h10, h11, ↓SXd, SXu, slBounds, ↓sop, ↓aop, ↓reduceIte, LV.cells, AOp.dst, LV.I, LV.B, LV.U, LV.S, LV.nil, Nat.reduceEqDiff, Nat.reduceAdd, Nat.reduceMul, Nat.reduceSub, Nat.reduceLeDiff, Nat.reduceBEq, Nat.reduceDiv, Nat.reduceMod, Int.reduceToNat, Int.reduceLT, Int.reduceLE, Int.reduceAdd, Int.reduceSub, Int.reduceMul, Int.reduceEq, Int.reduceNeg, reduceCtorEq, resV, resAll, ARes.ev, LV.flat, ite_true, ite_false, exists_eq_left', exists_eq_left, keyOf, implies_true, fillC, capOf]
      refine condC_dec (fun h3 => ?_) (fun h3 => ?_)
      · simp (disch := omega) only [h0, h1, h9, h10, h11, ↓SXd, SXu, slBounds, ↓sop, ↓aop, ↓reduceIte, LV.cells, AOp.dst, LV.I, LV.B, LV.U, LV.S, LV.nil, Nat.reduceEqDiff, Nat.reduceAdd, Nat.reduceMul, Nat.reduceSub, Nat.reduceLeDiff, Nat.reduceBEq, Nat.reduceDiv, Nat.reduceMod, Int.reduceToNat, Int.reduceLT, Int.reduceLE, Int.reduceAdd, Int.reduceSub, Int.reduceMul, Int.reduceEq, Int.reduceNeg, reduceCtorEq, resV, resAll, ARes.ev, LV.flat, ite_true, ite_false, exists_eq_left', exists_eq_left, keyOf, implies_true, fillC, capOf]
        exact ⟨m - 1, by omega, k + 1, by omega, rfl, by omega, h0, h1, h9, h10, eqI (natI _), by rw [he, hx, hy, cmpL, if_pos h3]⟩
      · simp (disch := omega) only [h0, h1, h9, h10, h11, ↓SXd, SXu, slBounds, ↓sop, ↓aop, ↓reduceIte, LV.cells, AOp.dst, LV.I, LV.B, LV.U, LV.S, LV.nil, Nat.reduceEqDiff, Nat.reduceAdd, Nat.reduceMul, Nat.reduceSub, Nat.reduceLeDiff, Nat.reduceBEq, Nat.reduceDiv, Nat.reduceMod, Int.reduceToNat, Int.reduceLT, Int.reduceLE, Int.reduceAdd, Int.reduceSub, Int.reduceMul, Int.reduceEq, Int.reduceNeg, reduceCtorEq, resV, resAll, ARes.ev, LV.flat, ite_true, ite_false, exists_eq_left', exists_eq_left, keyOf, implies_true, fillC, capOf]
        rw [he, hx, hy, cmpL, if_neg h3]; exact cmp_drop0 rfl
  · simp (disch := omega) only [h0, h1, h9, h10, h11, ↓SXd, SXu, slBounds, ↓sop, ↓aop, ↓reduceIte, LV.cells, AOp.dst, LV.I, LV.B, LV.U, LV.S, LV.nil, Nat.reduceEqDiff, Nat.reduceAdd, Nat.reduceMul, Nat.reduceSub, Nat.reduceLeDiff, Nat.reduceBEq, Nat.reduceDiv, Nat.reduceMod, Int.reduceToNat, Int.reduceLT, Int.reduceLE, Int.reduceAdd, Int.reduceSub, Int.reduceMul, Int.reduceEq, Int.reduceNeg, reduceCtorEq, resV, resAll, ARes.ev, LV.flat, ite_true, ite_false, exists_eq_left', exists_eq_left, keyOf, implies_true, fillC, capOf]
    have hx : xs.drop k = [] := List.drop_eq_nil_of_le (by omega)
    refine condC_dec (fun h2 => ?_) (fun h2 => ?_) <;> simp (disch := omega) only [h0, h1, h9, h10, h11, ↓SXd, SXu, slBounds, ↓sop, ↓aop, ↓reduceIte, LV.cells, AOp.dst, LV.I, LV.B, LV.U, LV.S, LV.nil, Nat.reduceEqDiff, Nat.reduceAdd, Nat.reduceMul, Nat.reduceSub, Nat.reduceLeDiff, Nat.reduceBEq, Nat.reduceDiv, Nat.reduceMod, Int.reduceToNat, Int.reduceLT, Int.reduceLE, Int.reduceAdd, Int.reduceSub, Int.reduceMul, Int.reduceEq, Int.reduceNeg, reduceCtorEq, resV, resAll, ARes.ev, LV.flat, ite_true, ite_false, exists_eq_left', exists_eq_left, keyOf, implies_true, fillC, capOf]
    · have hy : ys.drop k = ys.getD k 0 :: ys.drop (k + 1) := by
        rw [List.drop_eq_getElem_cons (show k < ys.length by omega)]; simp [show k < ys.length by omega]
      rw [he, hx, hy]; exact cmp_drop0 rfl
    · have hy : ys.drop k = [] := List.drop_eq_nil_of_le (by omega)
      rw [he, hx, hy]; exact cmp_drop0 rfl

theorem cmpL_lt {a b c a' b' c' : Int} : 0 ≤ cmpL [a, b, c] [a', b', c'] ↔ ¬ Cell.lt ⟨a, b, c⟩ ⟨a', b', c'⟩ := by
  have hc : ∀ a b : Int, cmpI a b = if a < b then -1 else if b < a then 1 else 0 := fun _ _ => rfl
  simp only [cmpL, hc, Cell.lt]
  by_cases h1 : a < a' <;> by_cases h2 : a' < a <;> by_cases h3 : b < b' <;> by_cases h4 : b' < b <;> by_cases h5 : c < c' <;> by_cases h6 : c' < c <;> simp only [h1, h2, h3, h4, h5, h6, if_true, if_false] <;> simp <;> omega

theorem g_compareCells {a b c a' b' c' : Int} {M : Mem} : CallsTo PG F.impl_compareCells [.agg [.I a, .I b, .I c], .agg [.I a', .I b', .I c']] M (.I (cmpL [a, b, c] [a', b', c'])) M := by
  refine calls_run K.impl_compareCells rfl ?_
  simp (disch := omega) only [C.impl_compareCells, slBounds, Option.isSome_some, and_self, if_true, ↓SXd, SXu, slBounds, ↓sop, ↓aop, ↓reduceIte, LV.cells, AOp.dst, LV.I, LV.B, LV.U, LV.S, LV.nil, Nat.reduceEqDiff, Nat.reduceAdd, Nat.reduceMul, Nat.reduceSub, Nat.reduceLeDiff, Nat.reduceBEq, Nat.reduceDiv, Nat.reduceMod, Int.reduceToNat, Int.reduceLT, Int.reduceLE, Int.reduceAdd, Int.reduceSub, Int.reduceMul, Int.reduceEq, Int.reduceNeg, reduceCtorEq, resV, resAll, ARes.ev, LV.flat, ite_true, ite_false, exists_eq_left', exists_eq_left, keyOf, implies_true, fillC, capOf]
  refine callK_of (g_compare (xs := [a, b, c]) (ys := [a', b', c']) (o := 0) (o' := 0) (Live.new (b := .row (intL [a, b, c]) true 0)).has (Live.newj (j := 1) (b := .row (intL [a', b', c']) true 0) rfl).has (by simp) (by simp)) ?_
  simp (disch := omega) only [↓SXd, SXu, slBounds, ↓sop, ↓aop, ↓reduceIte, LV.cells, AOp.dst, LV.I, LV.B, LV.U, LV.S, LV.nil, Nat.reduceEqDiff, Nat.reduceAdd, Nat.reduceMul, Nat.reduceSub, Nat.reduceLeDiff, Nat.reduceBEq, Nat.reduceDiv, Nat.reduceMod, Int.reduceToNat, Int.reduceLT, Int.reduceLE, Int.reduceAdd, Int.reduceSub, Int.reduceMul, Int.reduceEq, Int.reduceNeg, reduceCtorEq, resV, resAll, ARes.ev, LV.flat, ite_true, ite_false, exists_eq_left', exists_eq_left, keyOf, implies_true, fillC, capOf]
  exact cmp_drop rfl

theorem g_IsHeap {x y z : Int} {t o : Nat} {cs : List Cell} {M : Mem} (h : Tri M t o cs) (hn : cs.length ≤ 1000000000) :
    CallsTo PG F.impl_IsHeap [.agg [.I x, .I y, .I z, .ref t o cs.length]] M (.B (decide (HeapOK x y z cs))) M := by
  refine calls_run K.impl_IsHeap rfl ?_
  simp (disch := omega) only [C.impl_IsHeap, ↓SXd, SXu, slBounds, ↓sop, ↓aop, ↓reduceIte, LV.cells, AOp.dst, LV.I, LV.B, LV.U, LV.S, LV.nil, Nat.reduceEqDiff, Nat.reduceAdd, Nat.reduceMul, Nat.reduceSub, Nat.reduceLeDiff, Nat.reduceBEq, Nat.reduceDiv, Nat.reduceMod, Int.reduceToNat, Int.reduceLT, Int.reduceLE, Int.reduceAdd, Int.reduceSub, Int.reduceMul, Int.reduceEq, Int.reduceNeg, reduceCtorEq, resV, resAll, ARes.ev, LV.flat, ite_true, ite_false, exists_eq_left', exists_eq_left, keyOf, implies_true, fillC, capOf]
  refine callK_of g_box ?_
  simp (disch := omega) only [↓SXd, SXu, slBounds, ↓sop, ↓aop, ↓reduceIte, LV.cells, AOp.dst, LV.I, LV.B, LV.U, LV.S, LV.nil, Nat.reduceEqDiff, Nat.reduceAdd, Nat.reduceMul, Nat.reduceSub, Nat.reduceLeDiff, Nat.reduceBEq, Nat.reduceDiv, Nat.reduceMod, Int.reduceToNat, Int.reduceLT, Int.reduceLE, Int.reduceAdd, Int.reduceSub, Int.reduceMul, Int.reduceEq, Int.reduceNeg, reduceCtorEq, resV, resAll, ARes.ev, LV.flat, ite_true, ite_false, exists_eq_left', exists_eq_left, keyOf, implies_true, fillC, capOf]
  refine callK_of g_valid ?_
  simp (disch := omega) only [↓SXd, SXu, slBounds, ↓sop, ↓aop, ↓reduceIte, LV.cells, AOp.dst, LV.I, LV.B, LV.U, LV.S, LV.nil, Nat.reduceEqDiff, Nat.reduceAdd, Nat.reduceMul, Nat.reduceSub, Nat.reduceLeDiff, Nat.reduceBEq, Nat.reduceDiv, Nat.reduceMod, Int.reduceToNat, Int.reduceLT, Int.reduceLE, Int.reduceAdd, Int.reduceSub, Int.reduceMul, Int.reduceEq, Int.reduceNeg, reduceCtorEq, resV, resAll, ARes.ev, LV.flat, ite_true, ite_false, exists_eq_left', exists_eq_left, keyOf, implies_true, fillC, capOf]
  by_cases hS : Sides x y z
  · simp (disch := omega) only [hS, ↓SXd, SXu, slBounds, ↓sop, ↓aop, ↓reduceIte, LV.cells, AOp.dst, LV.I, LV.B, LV.U, LV.S, LV.nil, Nat.reduceEqDiff, Nat.reduceAdd, Nat.reduceMul, Nat.reduceSub, Nat.reduceLeDiff, Nat.reduceBEq, Nat.reduceDiv, Nat.reduceMod, Int.reduceToNat, Int.reduceLT, Int.reduceLE, Int.reduceAdd, Int.reduceSub, Int.reduceMul, Int.reduceEq, Int.reduceNeg, reduceCtorEq, resV, resAll, ARes.ev, LV.flat, ite_true, ite_false, exists_eq_left', exists_eq_left, keyOf, implies_true, fillC, capOf]
    refine ev_loop (fun m fr M' => ∃ k : Nat, k + m = cs.length ∧ Pre M M' ∧ Live M' M.length (.row [.I x, .I y, .I z, .ref t o cs.length] true 0) ∧ fr 1 = .ptr M.length 0 ∧ fr 10 = .ref t o cs.length ∧ fr 11 = .I (cs.length : Nat) ∧ fr 12 = .I k ∧
      ∀ j, j < k → (cs.getD j default).inBox x y z ∧ (0 < j → (cs.getD (j - 1) default).lt (cs.getD j default))) cs.length ⟨0, by omega, Pre.app _ _, Live.new, rfl, rfl, rfl, rfl, by omega⟩ ?_
    rintro m fr M' ⟨k, hk, hpre, hbox, h1, h10, h11, h12, hj⟩
    have h' : Tri M' t o cs := h.pre hpre
    have ht := h'.lt
    simp (disch := omega) only [h1, h10, h11, h12, ↓SXd, SXu, slBounds, ↓sop, ↓aop, ↓reduceIte, LV.cells, AOp.dst, LV.I, LV.B, LV.U, LV.S, LV.nil, Nat.reduceEqDiff, Nat.reduceAdd, Nat.reduceMul, Nat.reduceSub, Nat.reduceLeDiff, Nat.reduceBEq, Nat.reduceDiv, Nat.reduceMod, Int.reduceToNat, Int.reduceLT, Int.reduceLE, Int.reduceAdd, Int.reduceSub, Int.reduceMul, Int.reduceEq, Int.reduceNeg, reduceCtorEq, resV, resAll, ARes.ev, LV.flat, ite_true, ite_false, exists_eq_left', exists_eq_left, keyOf, implies_true, fillC, capOf]
    refine condC_dec (fun hlt => ?_) (fun hlt => ?_)
    · have hbox' : ∀ {L : Mem} {o n : Nat}, getCells (M' ++ L) M.length o n = _ := fun {L o n} => (hbox.app (L := L)).cells
      have hboxc : ∀ {L : Mem} {o : Nat}, getCell (M' ++ L) M.length o = _ := fun {L o} => (hbox.app (L := L)).cell
      simp (disch := omega) only [h1, h10, h11, h12, Tri.get h', Cell.row, hbox', hboxc, ↓SXd, SXu, slBounds, ↓sop, ↓aop, ↓reduceIte, LV.cells, AOp.dst, LV.I, LV.B, LV.U, LV.S, LV.nil, Nat.reduceEqDiff, Nat.reduceAdd, Nat.reduceMul, Nat.reduceSub, Nat.reduceLeDiff, Nat.reduceBEq, Nat.reduceDiv, Nat.reduceMod, Int.reduceToNat, Int.reduceLT, Int.reduceLE, Int.reduceAdd, Int.reduceSub, Int.reduceMul, Int.reduceEq, Int.reduceNeg, reduceCtorEq, resV, resAll, ARes.ev, LV.flat, ite_true, ite_false, exists_eq_left', exists_eq_left, keyOf, implies_true, fillC, capOf]
      refine callK_of g_box ?_
      simp (disch := omega) only [h1, h10, h11, h12, Tri.get h', Cell.row, hbox', hboxc, ↓SXd, SXu, slBounds, ↓sop, ↓aop, ↓reduceIte, LV.cells, AOp.dst, LV.I, LV.B, LV.U, LV.S, LV.nil, Nat.reduceEqDiff, Nat.reduceAdd, Nat.reduceMul, Nat.reduceSub, Nat.reduceLeDiff, Nat.reduceBEq, Nat.reduceDiv, Nat.reduceMod, Int.reduceToNat, Int.reduceLT, Int.reduceLE, Int.reduceAdd, Int.reduceSub, Int.reduceMul, Int.reduceEq, Int.reduceNeg, reduceCtorEq, resV, resAll, ARes.ev, LV.flat, ite_true, ite_false, exists_eq_left', exists_eq_left, keyOf, implies_true, fillC, capOf]
      refine callK_of (g_has hS) ?_
      simp (disch := omega) only [h1, h10, h11, h12, Cell.row, cell_eta, ↓SXd, SXu, slBounds, ↓sop, ↓aop, ↓reduceIte, LV.cells, AOp.dst, LV.I, LV.B, LV.U, LV.S, LV.nil, Nat.reduceEqDiff, Nat.reduceAdd, Nat.reduceMul, Nat.reduceSub, Nat.reduceLeDiff, Nat.reduceBEq, Nat.reduceDiv, Nat.reduceMod, Int.reduceToNat, Int.reduceLT, Int.reduceLE, Int.reduceAdd, Int.reduceSub, Int.reduceMul, Int.reduceEq, Int.reduceNeg, reduceCtorEq, resV, resAll, ARes.ev, LV.flat, ite_true, ite_false, exists_eq_left', exists_eq_left, keyOf, implies_true, fillC, capOf]
      by_cases hin : (cs.getD k default).inBox x y z
      · by_cases hk0 : k = 0
        · subst hk0
          simp (disch := omega) only [hin, h1, h10, h11, h12, cell_eta, Int.natCast_zero, gt_iff_lt, Int.lt_irrefl, ↓SXd, SXu, slBounds, ↓sop, ↓aop, ↓reduceIte, LV.cells, AOp.dst, LV.I, LV.B, LV.U, LV.S, LV.nil, Nat.reduceEqDiff, Nat.reduceAdd, Nat.reduceMul, Nat.reduceSub, Nat.reduceLeDiff, Nat.reduceBEq, Nat.reduceDiv, Nat.reduceMod, Int.reduceToNat, Int.reduceLT, Int.reduceLE, Int.reduceAdd, Int.reduceSub, Int.reduceMul, Int.reduceEq, Int.reduceNeg, reduceCtorEq, resV, resAll, ARes.ev, LV.flat, ite_true, ite_false, exists_eq_left', exists_eq_left, keyOf, implies_true, fillC, capOf]
          exact ⟨m - 1, by omega, 1, by omega, Pre.app' hpre, hbox.app, h1, h10, h11, rfl, fun j hj1 => by
            have : j = 0 := by omega
            subst this
            exact ⟨hin, by omega⟩⟩
        · have e1 : ((k : Int) - 1).toNat = k - 1 := by omega
          have e2 : (0 : Int) < k := by omega
          simp (disch := omega) only [hin, h1, h10, h11, h12, getCells_app, Tri.get h', Cell.row, cell_eta, hbox', hboxc, e1, e2, ↓SXd, SXu, slBounds, ↓sop, ↓aop, ↓reduceIte, LV.cells, AOp.dst, LV.I, LV.B, LV.U, LV.S, LV.nil, Nat.reduceEqDiff, Nat.reduceAdd, Nat.reduceMul, Nat.reduceSub, Nat.reduceLeDiff, Nat.reduceBEq, Nat.reduceDiv, Nat.reduceMod, Int.reduceToNat, Int.reduceLT, Int.reduceLE, Int.reduceAdd, Int.reduceSub, Int.reduceMul, Int.reduceEq, Int.reduceNeg, reduceCtorEq, resV, resAll, ARes.ev, LV.flat, ite_true, ite_false, exists_eq_left', exists_eq_left, keyOf, implies_true, fillC, capOf]
          refine callK_of g_compareCells ?_
          simp (disch := omega) only [hin, h1, h10, h11, h12, cell_eta, ↓SXd, SXu, slBounds, ↓sop, ↓aop, ↓reduceIte, LV.cells, AOp.dst, LV.I, LV.B, LV.U, LV.S, LV.nil, Nat.reduceEqDiff, Nat.reduceAdd, Nat.reduceMul, Nat.reduceSub, Nat.reduceLeDiff, Nat.reduceBEq, Nat.reduceDiv, Nat.reduceMod, Int.reduceToNat, Int.reduceLT, Int.reduceLE, Int.reduceAdd, Int.reduceSub, Int.reduceMul, Int.reduceEq, Int.reduceNeg, reduceCtorEq, resV, resAll, ARes.ev, LV.flat, ite_true, ite_false, exists_eq_left', exists_eq_left, keyOf, implies_true, fillC, capOf]
          by_cases hb : (cs.getD (k - 1) default).lt (cs.getD k default)
          · have hb' : ¬ 0 ≤ cmpL [(cs.getD (k - 1) default).a, (cs.getD (k - 1) default).b, (cs.getD (k - 1) default).c] [(cs.getD k default).a, (cs.getD k default).b, (cs.getD k default).c] := fun e => (cmpL_lt.1 e) hb
            simp (disch := omega) only [hb', h1, h10, h11, h12, ↓SXd, SXu, slBounds, ↓sop, ↓aop, ↓reduceIte, LV.cells, AOp.dst, LV.I, LV.B, LV.U, LV.S, LV.nil, Nat.reduceEqDiff, Nat.reduceAdd, Nat.reduceMul, Nat.reduceSub, Nat.reduceLeDiff, Nat.reduceBEq, Nat.reduceDiv, Nat.reduceMod, Int.reduceToNat, Int.reduceLT, Int.reduceLE, Int.reduceAdd, Int.reduceSub, Int.reduceMul, Int.reduceEq, Int.reduceNeg, reduceCtorEq, resV, resAll, ARes.ev, LV.flat, ite_true, ite_false, exists_eq_left', exists_eq_left, keyOf, implies_true, fillC, capOf]
            exact ⟨m - 1, by omega, k + 1, by omega, Pre.app' hpre, hbox.app, h1, h10, h11, eqI (natI _), fun j hj1 => by
              by_cases hjk : j = k
              · subst hjk; exact ⟨hin, fun _ => hb⟩
              · exact hj j (by omega)⟩
          · have hb' : 0 ≤ cmpL [(cs.getD (k - 1) default).a, (cs.getD (k - 1) default).b, (cs.getD (k - 1) default).c] [(cs.getD k default).a, (cs.getD k default).b, (cs.getD k default).c] := cmpL_lt.2 hb
            simp (disch := omega) only [hb', h1, h10, h11, h12, ↓SXd, SXu, slBounds, ↓sop, ↓aop, ↓reduceIte, LV.cells, AOp.dst, LV.I, LV.B, LV.U, LV.S, LV.nil, Nat.reduceEqDiff, Nat.reduceAdd, Nat.reduceMul, Nat.reduceSub, Nat.reduceLeDiff, Nat.reduceBEq, Nat.reduceDiv, Nat.reduceMod, Int.reduceToNat, Int.reduceLT, Int.reduceLE, Int.reduceAdd, Int.reduceSub, Int.reduceMul, Int.reduceEq, Int.reduceNeg, reduceCtorEq, resV, resAll, ARes.ev, LV.flat, ite_true, ite_false, exists_eq_left', exists_eq_left, keyOf, implies_true, fillC, capOf]
            rw [decide_eq_false (fun hh : HeapOK x y z cs => hb ((hh.2 k (by omega)).2 (by omega)))]
            exact cmp_pre (Pre.app' hpre) rfl
      · simp (disch := omega) only [hin, h1, h10, h11, h12, ↓SXd, SXu, slBounds, ↓sop, ↓aop, ↓reduceIte, LV.cells, AOp.dst, LV.I, LV.B, LV.U, LV.S, LV.nil, Nat.reduceEqDiff, Nat.reduceAdd, Nat.reduceMul, Nat.reduceSub, Nat.reduceLeDiff, Nat.reduceBEq, Nat.reduceDiv, Nat.reduceMod, Int.reduceToNat, Int.reduceLT, Int.reduceLE, Int.reduceAdd, Int.reduceSub, Int.reduceMul, Int.reduceEq, Int.reduceNeg, reduceCtorEq, resV, resAll, ARes.ev, LV.flat, ite_true, ite_false, exists_eq_left', exists_eq_left, keyOf, implies_true, fillC, capOf]
        rw [decide_eq_false (fun hh : HeapOK x y z cs => hin (hh.2 k (by omega)).1)]
        exact cmp_pre (Pre.app' hpre) rfl
    · simp (disch := omega) only [h1, h10, h11, h12, ↓SXd, SXu, slBounds, ↓sop, ↓aop, ↓reduceIte, LV.cells, AOp.dst, LV.I, LV.B, LV.U, LV.S, LV.nil, Nat.reduceEqDiff, Nat.reduceAdd, Nat.reduceMul, Nat.reduceSub, Nat.reduceLeDiff, Nat.reduceBEq, Nat.reduceDiv, Nat.reduceMod, Int.reduceToNat, Int.reduceLT, Int.reduceLE, Int.reduceAdd, Int.reduceSub, Int.reduceMul, Int.reduceEq, Int.reduceNeg, reduceCtorEq, resV, resAll, ARes.ev, LV.flat, ite_true, ite_false, exists_eq_left', exists_eq_left, keyOf, implies_true, fillC, capOf]
      rw [decide_eq_true (show HeapOK x y z cs from ⟨hS, fun j hj1 => hj j (by omega)⟩)]
      exact cmp_pre hpre rfl
  · simp (disch := omega) only [hS, ↓SXd, SXu, slBounds, ↓sop, ↓aop, ↓reduceIte, LV.cells, AOp.dst, LV.I, LV.B, LV.U, LV.S, LV.nil, Nat.reduceEqDiff, Nat.reduceAdd, Nat.reduceMul, Nat.reduceSub, Nat.reduceLeDiff, Nat.reduceBEq, Nat.reduceDiv, Nat.reduceMod, Int.reduceToNat, Int.reduceLT, Int.reduceLE, Int.reduceAdd, Int.reduceSub, Int.reduceMul, Int.reduceEq, Int.reduceNeg, reduceCtorEq, resV, resAll, ARes.ev, LV.flat, ite_true, ite_false, exists_eq_left', exists_eq_left, keyOf, implies_true, fillC, capOf]
    exact cmp_dropF fun hh => hS hh.1
end Go.Ab

namespace Go.Ab.C
open Go.Ab
end Go.Ab.C

namespace Go.Ab.K
open Go Go.Ab
end Go.Ab.K

namespace Go.Ab.C
open Go.Ab
def spec_l2Heap : AFn :=
 ⟨1, 46, [.tmp 2],
 .seq (.ops [(none, .box 1 (.t 0)),
 (none, .mv 2 (.c (.B false)))])
 (.seq (.seq (.ops [(none, .fieldAddr 4 (.t 1) 0),
 (none, .load1 5 (.t 4)),
 (none, .fieldAddr 6 (.t 1) 1),
 (none, .load1 7 (.t 6)),
 (none, .fieldAddr 8 (.t 1) 2),
 (none, .load1 9 (.t 8)),
 (none, .call (some 10) F.spec_l2Sides [(.t 5), (.t 7), (.t 9)]),
 (none, .un 11 .not (.t 10))])
 (.cond (.t 11) (.seq (.ops [(none, .mv 2 (.c (.B false)))])
 (.ret))
 (.skip)))
 (.seq (.seq (.ops [(none, .mv 3 (.c (.I 0)))])
 (.block 0 (.loop (.seq (.seq (.ops [(none, .mv 12 (.t 3)),
 (none, .fieldAddr 13 (.t 1) 3),
 (none, .load1 14 (.t 13)),
 (none, .len 15 (.t 14)),
 (none, .bin 16 .lss (.t 12) (.t 15))])
 (.cond (.t 16) (.skip)
 (.exit 0)))
 (.seq (.block 1 (.seq (.draw [⟨(none, .loadN 19 4 (.t 1)), [], []⟩,
 ⟨(none, .fieldAddr 20 (.t 1) 3), [], []⟩,
 ⟨(none, .load1 21 (.t 20)), [], []⟩,
 ⟨(none, .mv 22 (.t 3)), [], []⟩,
 ⟨(none, .idxS 23 3 (.t 21) (.t 22)), [], []⟩,
 ⟨(none, .loadN 24 3 (.t 23)), [], []⟩,
 ⟨(none, .call (some 25) F.spec_l2In [(.t 19), (.t 24)]), [], []⟩,
 ⟨(none, .un 26 .not (.t 25)), [], []⟩,
 ⟨(none, .mv 27 (.t 26)), [], []⟩,
 ⟨(some (27, false), .mv 28 (.t 3)), [], []⟩,
 ⟨(some (27, false), .bin 29 .gtr (.t 28) (.c (.I 0))), [], []⟩,
 ⟨(some (27, false), .mv 30 (.t 29)), [], []⟩,
 ⟨(some (30, true), .fieldAddr 31 (.t 1) 3), [], []⟩,
 ⟨(some (30, true), .load1 32 (.t 31)), [], []⟩,
 ⟨(some (30, true), .mv 33 (.t 3)), [], []⟩,
 ⟨(some (30, true), .bin 34 .sub (.t 33) (.c (.I 1))), [], []⟩,
 ⟨(some (30, true), .idxS 35 3 (.t 32) (.t 34)), [], []⟩,
 ⟨(some (30, true), .loadN 36 3 (.t 35)), [], []⟩,
 ⟨(some (30, true), .fieldAddr 37 (.t 1) 3), [], []⟩,
 ⟨(some (30, true), .load1 38 (.t 37)), [], []⟩,
 ⟨(some (30, true), .mv 39 (.t 3)), [], []⟩,
 ⟨(some (30, true), .idxS 40 3 (.t 38) (.t 39)), [], []⟩,
 ⟨(some (30, true), .loadN 41 3 (.t 40)), [], []⟩,
 ⟨(some (30, true), .call (some 42) F.spec_l2Before [(.t 36), (.t 41)]), [], []⟩,
 ⟨(some (30, true), .un 43 .not (.t 42)), [], []⟩,
 ⟨(some (27, false), .pick 44 (.t 30) (.t 43) (.c (.B false))), [], []⟩,
 ⟨(none, .pick 45 (.t 27) (.c (.B true)) (.t 44)), [], []⟩])
 (.cond (.t 45) (.seq (.ops [(none, .mv 2 (.c (.B false)))])
 (.ret))
 (.skip))))
 (.ops [(none, .mv 17 (.t 3)),
 (none, .bin 18 .add (.t 17) (.c (.I 1))),
 (none, .mv 3 (.t 18))]))))))
 (.seq (.ops [(none, .mv 2 (.c (.B true)))])
 (.ret))))⟩
end Go.Ab.C

namespace Go.Ab.K
open Go Go.Ab
theorem spec_l2Heap : prepF Go.Proofs.Tryd.prog F.spec_l2Heap = some C.spec_l2Heap := by kernel_rfl
end Go.Ab.K

namespace Go.Ab.C
open Go.Ab
def spec_l1In : AFn :=
 ⟨3, 15, [.tmp 6],
 .seq (.ops [(none, .mv 6 (.c (.B false)))])
 (.seq (.ops [(none, .mv 7 (.t 0)),
 (none, .mv 8 (.t 1)),
 (none, .bin 9 .geq (.t 7) (.t 8)),
 (none, .mv 10 (.t 9)),
 (some (10, true), .mv 11 (.t 0)),
 (some (10, true), .mv 12 (.t 2)),
 (some (10, true), .bin 13 .leq (.t 11) (.t 12)),
 (none, .pick 14 (.t 10) (.t 13) (.c (.B false))),
 (none, .mv 6 (.t 14))])
 (.ret))⟩
def spec_l2Sides : AFn :=
 ⟨3, 17, [.tmp 6],
 .seq (.ops [(none, .mv 6 (.c (.B false)))])
 (.seq (.ops [(none, .mv 7 (.t 0)),
 (none, .call (some 8) F.spec_l1In [(.t 7), (.c (.I 1)), (.c (.I 4))]),
 (none, .mv 9 (.t 8)),
 (some (9, true), .mv 10 (.t 1)),
 (some (9, true), .call (some 11) F.spec_l1In [(.t 10), (.c (.I 1)), (.c (.I 4))]),
 (none, .pick 12 (.t 9) (.t 11) (.c (.B false))),
 (none, .mv 13 (.t 12)),
 (some (13, true), .mv 14 (.t 2)),
 (some (13, true), .call (some 15) F.spec_l1In [(.t 14), (.c (.I 1)), (.c (.I 4))]),
 (none, .pick 16 (.t 13) (.t 15) (.c (.B false))),
 (none, .mv 6 (.t 16))])
 (.ret))⟩
def spec_l2Before : AFn :=
 ⟨2, 24, [.tmp 4],
 .seq (.ops [(none, .box 2 (.t 0)),
 (none, .box 3 (.t 1)),
 (none, .mv 4 (.c (.B false)))])
 (.seq (.seq (.ops [(none, .mv 5 (.c (.I 0)))])
 (.block 0 (.loop (.seq (.seq (.ops [(none, .mv 6 (.t 5)),
 (none, .bin 7 .lss (.t 6) (.c (.I 3)))])
 (.cond (.t 7) (.skip)
 (.exit 0)))
 (.seq (.block 1 (.seq (.draw [⟨(none, .mv 10 (.t 5)), [], []⟩,
 ⟨(none, .idxA 11 3 1 (.t 2) (.t 10)), [], []⟩,
 ⟨(none, .load1 12 (.t 11)), [], []⟩,
 ⟨(none, .mv 13 (.t 5)), [], []⟩,
 ⟨(none, .idxA 14 3 1 (.t 3) (.t 13)), [], []⟩,
 ⟨(none, .load1 15 (.t 14)), [], []⟩,
 ⟨(none, .bin 16 .neq (.t 12) (.t 15)), [], []⟩])
 (.cond (.t 16) (.seq (.draw [⟨(none, .mv 17 (.t 5)), [], []⟩,
 ⟨(none, .idxA 18 3 1 (.t 2) (.t 17)), [], []⟩,
 ⟨(none, .load1 19 (.t 18)), [], []⟩,
 ⟨(none, .mv 20 (.t 5)), [], []⟩,
 ⟨(none, .idxA 21 3 1 (.t 3) (.t 20)), [], []⟩,
 ⟨(none, .load1 22 (.t 21)), [], []⟩,
 ⟨(none, .bin 23 .lss (.t 19) (.t 22)), [], []⟩,
 ⟨(none, .mv 4 (.t 23)), [], []⟩])
 (.ret))
 (.skip))))
 (.ops [(none, .mv 8 (.t 5)),
 (none, .bin 9 .add (.t 8) (.c (.I 1))),
 (none, .mv 5 (.t 9))]))))))
 (.seq (.ops [(none, .mv 4 (.c (.B false)))])
 (.ret)))⟩
def spec_l2In : AFn :=
 ⟨2, 27, [.tmp 4],
 .seq (.ops [(none, .box 2 (.t 0)),
 (none, .box 3 (.t 1)),
 (none, .mv 4 (.c (.B false)))])
 (.seq (.ops [(none, .idxA 5 3 1 (.t 3) (.c (.I 0))),
 (none, .load1 6 (.t 5)),
 (none, .fieldAddr 7 (.t 2) 0),
 (none, .load1 8 (.t 7)),
 (none, .bin 9 .sub (.t 8) (.c (.I 1))),
 (none, .call (some 10) F.spec_l1In [(.t 6), (.c (.I 0)), (.t 9)]),
 (none, .mv 11 (.t 10)),
 (some (11, true), .idxA 12 3 1 (.t 3) (.c (.I 1))),
 (some (11, true), .load1 13 (.t 12)),
 (some (11, true), .fieldAddr 14 (.t 2) 1),
 (some (11, true), .load1 15 (.t 14)),
 (some (11, true), .bin 16 .sub (.t 15) (.c (.I 1))),
 (some (11, true), .call (some 17) F.spec_l1In [(.t 13), (.c (.I 0)), (.t 16)]),
 (none, .pick 18 (.t 11) (.t 17) (.c (.B false))),
 (none, .mv 19 (.t 18)),
 (some (19, true), .idxA 20 3 1 (.t 3) (.c (.I 2))),
 (some (19, true), .load1 21 (.t 20)),
 (some (19, true), .fieldAddr 22 (.t 2) 2),
 (some (19, true), .load1 23 (.t 22)),
 (some (19, true), .bin 24 .sub (.t 23) (.c (.I 1))),
 (some (19, true), .call (some 25) F.spec_l1In [(.t 21), (.c (.I 0)), (.t 24)]),
 (none, .pick 26 (.t 19) (.t 25) (.c (.B false))),
 (none, .mv 4 (.t 26))])
 (.ret))⟩
end Go.Ab.C

namespace Go.Ab.K
open Go Go.Ab
theorem spec_l1In : prepF Go.Proofs.Tryd.prog F.spec_l1In = some C.spec_l1In := by kernel_rfl
theorem spec_l2Sides : prepF Go.Proofs.Tryd.prog F.spec_l2Sides = some C.spec_l2Sides := by kernel_rfl
theorem spec_l2Before : prepF Go.Proofs.Tryd.prog F.spec_l2Before = some C.spec_l2Before := by kernel_rfl
theorem spec_l2In : prepF Go.Proofs.Tryd.prog F.spec_l2In = some C.spec_l2In := by kernel_rfl
end Go.Ab.K

namespace Go.Ab
open Go

theorem h_l1In {n lo hi : Int} {M : Mem} : CallsTo PG F.spec_l1In [.I n, .I lo, .I hi] M (.B (decide (lo ≤ n ∧ n ≤ hi))) M := by
  refine calls_run K.spec_l1In rfl ?_
  simp (disch := omega) only [C.spec_l1In, ↓SXd, SXu, slBounds, ↓sop, ↓aop, ↓reduceIte, LV.cells, AOp.dst, LV.I, LV.B, LV.U, LV.S, LV.nil, Nat.reduceEqDiff, Nat.reduceAdd, Nat.reduceMul, Nat.reduceSub, Nat.reduceLeDiff, Nat.reduceBEq, Nat.reduceDiv, Nat.reduceMod, Int.reduceToNat, Int.reduceLT, Int.reduceLE, Int.reduceAdd, Int.reduceSub, Int.reduceMul, Int.reduceEq, Int.reduceNeg, reduceCtorEq, resV, resAll, ARes.ev, LV.flat, ite_true, ite_false, exists_eq_left', exists_eq_left, keyOf, implies_true, fillC, capOf]
  by_cases h1 : lo ≤ n
  · simp (disch := omega) only [h1, ↓SXd, SXu, slBounds, ↓sop, ↓aop, ↓reduceIte, LV.cells, AOp.dst, LV.I, LV.B, LV.U, LV.S, LV.nil, Nat.reduceEqDiff, Nat.reduceAdd, Nat.reduceMul, Nat.reduceSub, Nat.reduceLeDiff, Nat.reduceBEq, Nat.reduceDiv, Nat.reduceMod, Int.reduceToNat, Int.reduceLT, Int.reduceLE, Int.reduceAdd, Int.reduceSub, Int.reduceMul, Int.reduceEq, Int.reduceNeg, reduceCtorEq, resV, resAll, ARes.ev, LV.flat, ite_true, ite_false, exists_eq_left', exists_eq_left, keyOf, implies_true, fillC, capOf]
    exact cmp_drop0 rfl
  · simp (disch := omega) only [h1, ↓SXd, SXu, slBounds, ↓sop, ↓aop, ↓reduceIte, LV.cells, AOp.dst, LV.I, LV.B, LV.U, LV.S, LV.nil, Nat.reduceEqDiff, Nat.reduceAdd, Nat.reduceMul, Nat.reduceSub, Nat.reduceLeDiff, Nat.reduceBEq, Nat.reduceDiv, Nat.reduceMod, Int.reduceToNat, Int.reduceLT, Int.reduceLE, Int.reduceAdd, Int.reduceSub, Int.reduceMul, Int.reduceEq, Int.reduceNeg, reduceCtorEq, resV, resAll, ARes.ev, LV.flat, ite_true, ite_false, exists_eq_left', exists_eq_left, keyOf, implies_true, fillC, capOf]
    exact cmp_drop0 rfl

theorem h_l2Sides {x y z : Int} {M : Mem} : CallsTo PG F.spec_l2Sides [.I x, .I y, .I z] M (.B (decide (Sides x y z))) M := by
  refine calls_run K.spec_l2Sides rfl ?_
  simp (disch := omega) only [C.spec_l2Sides, ↓SXd, SXu, slBounds, ↓sop, ↓aop, ↓reduceIte, LV.cells, AOp.dst, LV.I, LV.B, LV.U, LV.S, LV.nil, Nat.reduceEqDiff, Nat.reduceAdd, Nat.reduceMul, Nat.reduceSub, Nat.reduceLeDiff, Nat.reduceBEq, Nat.reduceDiv, Nat.reduceMod, Int.reduceToNat, Int.reduceLT, Int.reduceLE, Int.reduceAdd, Int.reduceSub, Int.reduceMul, Int.reduceEq, Int.reduceNeg, reduceCtorEq, resV, resAll, ARes.ev, LV.flat, ite_true, ite_false, exists_eq_left', exists_eq_left, keyOf, implies_true, fillC, capOf]
  refine callK_of h_l1In ?_
  simp (disch := omega) only [↓SXd, SXu, slBounds, ↓sop, ↓aop, ↓reduceIte, LV.cells, AOp.dst, LV.I, LV.B, LV.U, LV.S, LV.nil, Nat.reduceEqDiff, Nat.reduceAdd, Nat.reduceMul, Nat.reduceSub, Nat.reduceLeDiff, Nat.reduceBEq, Nat.reduceDiv, Nat.reduceMod, Int.reduceToNat, Int.reduceLT, Int.reduceLE, Int.reduceAdd, Int.reduceSub, Int.reduceMul, Int.reduceEq, Int.reduceNeg, reduceCtorEq, resV, resAll, ARes.ev, LV.flat, ite_true, ite_false, exists_eq_left', exists_eq_left, keyOf, implies_true, fillC, capOf]
  unfold Sides
  by_cases h1 : 1 ≤ x ∧ x ≤ 4
  · simp (disch := omega) only [h1, ↓SXd, SXu, slBounds, ↓sop, ↓aop, ↓reduceIte, LV.cells, AOp.dst, LV.I, LV.B, LV.U, LV.S, LV.nil, Nat.reduceEqDiff, Nat.reduceAdd, Nat.reduceMul, Nat.reduceSub, Nat.reduceLeDiff, Nat.reduceBEq, Nat.reduceDiv, Nat.reduceMod, Int.reduceToNat, Int.reduceLT, Int.reduceLE, Int.reduceAdd, Int.reduceSub, Int.reduceMul, Int.reduceEq, Int.reduceNeg, reduceCtorEq, resV, resAll, ARes.ev, LV.flat, ite_true, ite_false, exists_eq_left', exists_eq_left, keyOf, implies_true, fillC, capOf]
    refine callK_of h_l1In ?_
    simp (disch := omega) only [↓SXd, SXu, slBounds, ↓sop, ↓aop, ↓reduceIte, LV.cells, AOp.dst, LV.I, LV.B, LV.U, LV.S, LV.nil, Nat.reduceEqDiff, Nat.reduceAdd, Nat.reduceMul, Nat.reduceSub, Nat.reduceLeDiff, Nat.reduceBEq, Nat.reduceDiv, Nat.reduceMod, Int.reduceToNat, Int.reduceLT, Int.reduceLE, Int.reduceAdd, Int.reduceSub, Int.reduceMul, Int.reduceEq, Int.reduceNeg, reduceCtorEq, resV, resAll, ARes.ev, LV.flat, ite_true, ite_false, exists_eq_left', exists_eq_left, keyOf, implies_true, fillC, capOf]
    by_cases h2 : 1 ≤ y ∧ y ≤ 4
    · simp (disch := omega) only [h2, ↓SXd, SXu, slBounds, ↓sop, ↓aop, ↓reduceIte, LV.cells, AOp.dst, LV.I, LV.B, LV.U, LV.S, LV.nil, Nat.reduceEqDiff, Nat.reduceAdd, Nat.reduceMul, Nat.reduceSub, Nat.reduceLeDiff, Nat.reduceBEq, Nat.reduceDiv, Nat.reduceMod, Int.reduceToNat, Int.reduceLT, Int.reduceLE, Int.reduceAdd, Int.reduceSub, Int.reduceMul, Int.reduceEq, Int.reduceNeg, reduceCtorEq, resV, resAll, ARes.ev, LV.flat, ite_true, ite_false, exists_eq_left', exists_eq_left, keyOf, implies_true, fillC, capOf]
      refine callK_of h_l1In ?_
      simp (disch := omega) only [↓SXd, SXu, slBounds, ↓sop, ↓aop, ↓reduceIte, LV.cells, AOp.dst, LV.I, LV.B, LV.U, LV.S, LV.nil, Nat.reduceEqDiff, Nat.reduceAdd, Nat.reduceMul, Nat.reduceSub, Nat.reduceLeDiff, Nat.reduceBEq, Nat.reduceDiv, Nat.reduceMod, Int.reduceToNat, Int.reduceLT, Int.reduceLE, Int.reduceAdd, Int.reduceSub, Int.reduceMul, Int.reduceEq, Int.reduceNeg, reduceCtorEq, resV, resAll, ARes.ev, LV.flat, ite_true, ite_false, exists_eq_left', exists_eq_left, keyOf, implies_true, fillC, capOf]
      exact cmp_drop0 rfl
    · simp (disch := omega) only [h2, false_and, ↓SXd, SXu, slBounds, ↓sop, ↓aop, ↓reduceIte, LV.cells, AOp.dst, LV.I, LV.B, LV.U, LV.S, LV.nil, Nat.reduceEqDiff, Nat.reduceAdd, Nat.reduceMul, Nat.reduceSub, Nat.reduceLeDiff, Nat.reduceBEq, Nat.reduceDiv, Nat.reduceMod, Int.reduceToNat, Int.reduceLT, Int.reduceLE, Int.reduceAdd, Int.reduceSub, Int.reduceMul, Int.reduceEq, Int.reduceNeg, reduceCtorEq, resV, resAll, ARes.ev, LV.flat, ite_true, ite_false, exists_eq_left', exists_eq_left, keyOf, implies_true, fillC, capOf]
      exact cmp_drop0 rfl
  · simp (disch := omega) only [h1, false_and, ↓SXd, SXu, slBounds, ↓sop, ↓aop, ↓reduceIte, LV.cells, AOp.dst, LV.I, LV.B, LV.U, LV.S, LV.nil, Nat.reduceEqDiff, Nat.reduceAdd, Nat.reduceMul, Nat.reduceSub, Nat.reduceLeDiff, Nat.reduceBEq, Nat.reduceDiv, Nat.reduceMod, Int.reduceToNat, Int.reduceLT, Int.reduceLE, Int.reduceAdd, Int.reduceSub, Int.reduceMul, Int.reduceEq, Int.reduceNeg, reduceCtorEq, resV, resAll, ARes.ev, LV.flat, ite_true, ite_false, exists_eq_left', exists_eq_left, keyOf, implies_true, fillC, capOf]
    exact cmp_drop0 rfl

theorem h_l2Before {a b c a' b' c' : Int} {M : Mem} : CallsTo PG F.spec_l2Before [.agg [.I a, .I b, .I c], .agg [.I a', .I b', .I c']] M (.B (decide (Cell.lt ⟨a, b, c⟩ ⟨a', b', c'⟩))) M := by
  refine calls_run K.spec_l2Before rfl ?_
  simp (disch := omega) only [C.spec_l2Before, ↓SXd, SXu, slBounds, ↓sop, ↓aop, ↓reduceIte, LV.cells, AOp.dst, LV.I, LV.B, LV.U, LV.S, LV.nil, Nat.reduceEqDiff, Nat.reduceAdd, Nat.reduceMul, Nat.reduceSub, Nat.reduceLeDiff, Nat.reduceBEq, Nat.reduceDiv, Nat.reduceMod, Int.reduceToNat, Int.reduceLT, Int.reduceLE, Int.reduceAdd, Int.reduceSub, Int.reduceMul, Int.reduceEq, Int.reduceNeg, reduceCtorEq, resV, resAll, ARes.ev, LV.flat, ite_true, ite_false, exists_eq_left', exists_eq_left, keyOf, implies_true, fillC, capOf]
  refine ev_loop (fun m fr M' => ∃ k : Nat, k + m = 3 ∧ M' = M ++ [some (Blk.row [.I a, .I b, .I c] true 0), some (Blk.row [.I a', .I b', .I c'] true 0)] ∧ fr 2 = .ptr M.length 0 ∧ fr 3 = .ptr (M.length + 1) 0 ∧ fr 5 = .I k ∧
    (0 < k → a = a') ∧ (1 < k → b = b') ∧ (2 < k → c = c')) 3 ⟨0, rfl, rfl, rfl, rfl, rfl, by omega, by omega, by omega⟩ ?_
  rintro m fr M' ⟨k, hk, rfl, h2, h3, h5, ha, hb, hc⟩
  simp (disch := omega) only [h2, h3, h5, ↓SXd, SXu, slBounds, ↓sop, ↓aop, ↓reduceIte, LV.cells, AOp.dst, LV.I, LV.B, LV.U, LV.S, LV.nil, Nat.reduceEqDiff, Nat.reduceAdd, Nat.reduceMul, Nat.reduceSub, Nat.reduceLeDiff, Nat.reduceBEq, Nat.reduceDiv, Nat.reduceMod, Int.reduceToNat, Int.reduceLT, Int.reduceLE, Int.reduceAdd, Int.reduceSub, Int.reduceMul, Int.reduceEq, Int.reduceNeg, reduceCtorEq, resV, resAll, ARes.ev, LV.flat, ite_true, ite_false, exists_eq_left', exists_eq_left, keyOf, implies_true, fillC, capOf]
  refine condC_dec (fun hlt => ?_) (fun hlt => ?_)
  · have hk3 : k = 0 ∨ k = 1 ∨ k = 2 := by omega
    rcases hk3 with rfl | rfl | rfl
    all_goals
      simp (disch := omega) only [h2, h3, h5, ↓SXd, SXu, slBounds, ↓sop, ↓aop, ↓reduceIte, LV.cells, AOp.dst, LV.I, LV.B, LV.U, LV.S, LV.nil, Nat.reduceEqDiff, Nat.reduceAdd, Nat.reduceMul, Nat.reduceSub, Nat.reduceLeDiff, Nat.reduceBEq, Nat.reduceDiv, Nat.reduceMod, Int.reduceToNat, Int.reduceLT, Int.reduceLE, Int.reduceAdd, Int.reduceSub, Int.reduceMul, Int.reduceEq, Int.reduceNeg, reduceCtorEq, resV, resAll, ARes.ev, LV.flat, ite_true, ite_false, exists_eq_left', exists_eq_left, keyOf, implies_true, fillC, capOf]
      refine condC_dec (fun he => ?_) (fun he => ?_)
      · simp (disch := omega) only [h2, h3, h5, ↓SXd, SXu, slBounds, ↓sop, ↓aop, ↓reduceIte, LV.cells, AOp.dst, LV.I, LV.B, LV.U, LV.S, LV.nil, Nat.reduceEqDiff, Nat.reduceAdd, Nat.reduceMul, Nat.reduceSub, Nat.reduceLeDiff, Nat.reduceBEq, Nat.reduceDiv, Nat.reduceMod, Int.reduceToNat, Int.reduceLT, Int.reduceLE, Int.reduceAdd, Int.reduceSub, Int.reduceMul, Int.reduceEq, Int.reduceNeg, reduceCtorEq, resV, resAll, ARes.ev, LV.flat, ite_true, ite_false, exists_eq_left', exists_eq_left, keyOf, implies_true, fillC, capOf]
        exact ⟨m - 1, by omega, _, by omega, rfl, h2, h3, eqI (natI _), by omega, by omega, by omega⟩
      · simp (disch := omega) only [h2, h3, h5, ↓SXd, SXu, slBounds, ↓sop, ↓aop, ↓reduceIte, LV.cells, AOp.dst, LV.I, LV.B, LV.U, LV.S, LV.nil, Nat.reduceEqDiff, Nat.reduceAdd, Nat.reduceMul, Nat.reduceSub, Nat.reduceLeDiff, Nat.reduceBEq, Nat.reduceDiv, Nat.reduceMod, Int.reduceToNat, Int.reduceLT, Int.reduceLE, Int.reduceAdd, Int.reduceSub, Int.reduceMul, Int.reduceEq, Int.reduceNeg, reduceCtorEq, resV, resAll, ARes.ev, LV.flat, ite_true, ite_false, exists_eq_left', exists_eq_left, keyOf, implies_true, fillC, capOf]
        exact cmp_dropB (by simp only [Cell.lt]; omega)
  · simp (disch := omega) only [h2, h3, h5, ↓SXd, SXu, slBounds, ↓sop, ↓aop, ↓reduceIte, LV.cells, AOp.dst, LV.I, LV.B, LV.U, LV.S, LV.nil, Nat.reduceEqDiff, Nat.reduceAdd, Nat.reduceMul, Nat.reduceSub, Nat.reduceLeDiff, Nat.reduceBEq, Nat.reduceDiv, Nat.reduceMod, Int.reduceToNat, Int.reduceLT, Int.reduceLE, Int.reduceAdd, Int.reduceSub, Int.reduceMul, Int.reduceEq, Int.reduceNeg, reduceCtorEq, resV, resAll, ARes.ev, LV.flat, ite_true, ite_false, exists_eq_left', exists_eq_left, keyOf, implies_true, fillC, capOf]
    exact cmp_dropF (by simp only [Cell.lt]; omega)

theorem h_l2In {x y z a b c : Int} {v : LV} {M : Mem} (hS : Sides x y z) : CallsTo PG F.spec_l2In [.agg [.I x, .I y, .I z, v], .agg [.I a, .I b, .I c]] M (.B (decide (Cell.inBox x y z ⟨a, b, c⟩))) M := by
  obtain ⟨hx, hy, hz⟩ := hS
  refine calls_run K.spec_l2In rfl ?_
  simp (disch := omega) only [C.spec_l2In, ↓SXd, SXu, slBounds, ↓sop, ↓aop, ↓reduceIte, LV.cells, AOp.dst, LV.I, LV.B, LV.U, LV.S, LV.nil, Nat.reduceEqDiff, Nat.reduceAdd, Nat.reduceMul, Nat.reduceSub, Nat.reduceLeDiff, Nat.reduceBEq, Nat.reduceDiv, Nat.reduceMod, Int.reduceToNat, Int.reduceLT, Int.reduceLE, Int.reduceAdd, Int.reduceSub, Int.reduceMul, Int.reduceEq, Int.reduceNeg, reduceCtorEq, resV, resAll, ARes.ev, LV.flat, ite_true, ite_false, exists_eq_left', exists_eq_left, keyOf, implies_true, fillC, capOf]
  refine callK_of h_l1In ?_
  simp (disch := omega) only [↓SXd, SXu, slBounds, ↓sop, ↓aop, ↓reduceIte, LV.cells, AOp.dst, LV.I, LV.B, LV.U, LV.S, LV.nil, Nat.reduceEqDiff, Nat.reduceAdd, Nat.reduceMul, Nat.reduceSub, Nat.reduceLeDiff, Nat.reduceBEq, Nat.reduceDiv, Nat.reduceMod, Int.reduceToNat, Int.reduceLT, Int.reduceLE, Int.reduceAdd, Int.reduceSub, Int.reduceMul, Int.reduceEq, Int.reduceNeg, reduceCtorEq, resV, resAll, ARes.ev, LV.flat, ite_true, ite_false, exists_eq_left', exists_eq_left, keyOf, implies_true, fillC, capOf]
  unfold Cell.inBox
  by_cases h1 : 0 ≤ a ∧ a ≤ x - 1
  · simp (disch := omega) only [h1, ↓SXd, SXu, slBounds, ↓sop, ↓aop, ↓reduceIte, LV.cells, AOp.dst, LV.I, LV.B, LV.U, LV.S, LV.nil, Nat.reduceEqDiff, Nat.reduceAdd, Nat.reduceMul, Nat.reduceSub, Nat.reduceLeDiff, Nat.reduceBEq, Nat.reduceDiv, Nat.reduceMod, Int.reduceToNat, Int.reduceLT, Int.reduceLE, Int.reduceAdd, Int.reduceSub, Int.reduceMul, Int.reduceEq, Int.reduceNeg, reduceCtorEq, resV, resAll, ARes.ev, LV.flat, ite_true, ite_false, exists_eq_left', exists_eq_left, keyOf, implies_true, fillC, capOf]
    refine callK_of h_l1In ?_
    simp (disch := omega) only [↓SXd, SXu, slBounds, ↓sop, ↓aop, ↓reduceIte, LV.cells, AOp.dst, LV.I, LV.B, LV.U, LV.S, LV.nil, Nat.reduceEqDiff, Nat.reduceAdd, Nat.reduceMul, Nat.reduceSub, Nat.reduceLeDiff, Nat.reduceBEq, Nat.reduceDiv, Nat.reduceMod, Int.reduceToNat, Int.reduceLT, Int.reduceLE, Int.reduceAdd, Int.reduceSub, Int.reduceMul, Int.reduceEq, Int.reduceNeg, reduceCtorEq, resV, resAll, ARes.ev, LV.flat, ite_true, ite_false, exists_eq_left', exists_eq_left, keyOf, implies_true, fillC, capOf]
    by_cases h2 : 0 ≤ b ∧ b ≤ y - 1
    · simp (disch := omega) only [h2, ↓SXd, SXu, slBounds, ↓sop, ↓aop, ↓reduceIte, LV.cells, AOp.dst, LV.I, LV.B, LV.U, LV.S, LV.nil, Nat.reduceEqDiff, Nat.reduceAdd, Nat.reduceMul, Nat.reduceSub, Nat.reduceLeDiff, Nat.reduceBEq, Nat.reduceDiv, Nat.reduceMod, Int.reduceToNat, Int.reduceLT, Int.reduceLE, Int.reduceAdd, Int.reduceSub, Int.reduceMul, Int.reduceEq, Int.reduceNeg, reduceCtorEq, resV, resAll, ARes.ev, LV.flat, ite_true, ite_false, exists_eq_left', exists_eq_left, keyOf, implies_true, fillC, capOf]
      refine callK_of h_l1In ?_
      simp (disch := omega) only [↓SXd, SXu, slBounds, ↓sop, ↓aop, ↓reduceIte, LV.cells, AOp.dst, LV.I, LV.B, LV.U, LV.S, LV.nil, Nat.reduceEqDiff, Nat.reduceAdd, Nat.reduceMul, Nat.reduceSub, Nat.reduceLeDiff, Nat.reduceBEq, Nat.reduceDiv, Nat.reduceMod, Int.reduceToNat, Int.reduceLT, Int.reduceLE, Int.reduceAdd, Int.reduceSub, Int.reduceMul, Int.reduceEq, Int.reduceNeg, reduceCtorEq, resV, resAll, ARes.ev, LV.flat, ite_true, ite_false, exists_eq_left', exists_eq_left, keyOf, implies_true, fillC, capOf]
      exact cmp_drop rfl
    · simp (disch := omega) only [h2, false_and, ↓SXd, SXu, slBounds, ↓sop, ↓aop, ↓reduceIte, LV.cells, AOp.dst, LV.I, LV.B, LV.U, LV.S, LV.nil, Nat.reduceEqDiff, Nat.reduceAdd, Nat.reduceMul, Nat.reduceSub, Nat.reduceLeDiff, Nat.reduceBEq, Nat.reduceDiv, Nat.reduceMod, Int.reduceToNat, Int.reduceLT, Int.reduceLE, Int.reduceAdd, Int.reduceSub, Int.reduceMul, Int.reduceEq, Int.reduceNeg, reduceCtorEq, resV, resAll, ARes.ev, LV.flat, ite_true, ite_false, exists_eq_left', exists_eq_left, keyOf, implies_true, fillC, capOf]
      exact cmp_drop rfl
  · simp (disch := omega) only [h1, false_and, ↓SXd, SXu, slBounds, ↓sop, ↓aop, ↓reduceIte, LV.cells, AOp.dst, LV.I, LV.B, LV.U, LV.S, LV.nil, Nat.reduceEqDiff, Nat.reduceAdd, Nat.reduceMul, Nat.reduceSub, Nat.reduceLeDiff, Nat.reduceBEq, Nat.reduceDiv, Nat.reduceMod, Int.reduceToNat, Int.reduceLT, Int.reduceLE, Int.reduceAdd, Int.reduceSub, Int.reduceMul, Int.reduceEq, Int.reduceNeg, reduceCtorEq, resV, resAll, ARes.ev, LV.flat, ite_true, ite_false, exists_eq_left', exists_eq_left, keyOf, implies_true, fillC, capOf]
    exact cmp_drop rfl
end Go.Ab

namespace Go.Ab
open Go

theorem h_l2Heap {x y z : Int} {t o : Nat} {cs : List Cell} {M : Mem} (h : Tri M t o cs) (hn : cs.length ≤ 1000000000) :
    CallsTo PG F.spec_l2Heap [.agg [.I x, .I y, .I z, .ref t o cs.length]] M (.B (decide (HeapOK x y z cs))) M := by
  refine calls_run K.spec_l2Heap rfl ?_
  simp (disch := omega) only [C.spec_l2Heap, ↓SXd, SXu, slBounds, ↓sop, ↓aop, ↓reduceIte, LV.cells, AOp.dst, LV.I, LV.B, LV.U, LV.S, LV.nil, Nat.reduceEqDiff, Nat.reduceAdd, Nat.reduceMul, Nat.reduceSub, Nat.reduceLeDiff, Nat.reduceBEq, Nat.reduceDiv, Nat.reduceMod, Int.reduceToNat, Int.reduceLT, Int.reduceLE, Int.reduceAdd, Int.reduceSub, Int.reduceMul, Int.reduceEq, Int.reduceNeg, reduceCtorEq, resV, resAll, ARes.ev, LV.flat, ite_true, ite_false, exists_eq_left', exists_eq_left, keyOf, implies_true, fillC, capOf]
  refine callK_of h_l2Sides ?_
  simp (disch := omega) only [↓SXd, SXu, slBounds, ↓sop, ↓aop, ↓reduceIte, LV.cells, AOp.dst, LV.I, LV.B, LV.U, LV.S, LV.nil, Nat.reduceEqDiff, Nat.reduceAdd, Nat.reduceMul, Nat.reduceSub, Nat.reduceLeDiff, Nat.reduceBEq, Nat.reduceDiv, Nat.reduceMod, Int.reduceToNat, Int.reduceLT, Int.reduceLE, Int.reduceAdd, Int.reduceSub, Int.reduceMul, Int.reduceEq, Int.reduceNeg, reduceCtorEq, resV, resAll, ARes.ev, LV.flat, ite_true, ite_false, exists_eq_left', exists_eq_left, keyOf, implies_true, fillC, capOf]
  by_cases hS : Sides x y z
  · simp (disch := omega) only [hS, ↓SXd, SXu, slBounds, ↓sop, ↓aop, ↓reduceIte, LV.cells, AOp.dst, LV.I, LV.B, LV.U, LV.S, LV.nil, Nat.reduceEqDiff, Nat.reduceAdd, Nat.reduceMul, Nat.reduceSub, Nat.reduceLeDiff, Nat.reduceBEq, Nat.reduceDiv, Nat.reduceMod, Int.reduceToNat, Int.reduceLT, Int.reduceLE, Int.reduceAdd, Int.reduceSub, Int.reduceMul, Int.reduceEq, Int.reduceNeg, reduceCtorEq, resV, resAll, ARes.ev, LV.flat, ite_true, ite_false, exists_eq_left', exists_eq_left, keyOf, implies_true, fillC, capOf]
    refine ev_loop (fun m fr M' => ∃ k : Nat, k + m = cs.length ∧ M' = M ++ [some (Blk.row [.I x, .I y, .I z, .ref t o cs.length] true 0)] ∧ fr 1 = .ptr M.length 0 ∧ fr 3 = .I k ∧
      ∀ j, j < k → (cs.getD j default).inBox x y z ∧ (0 < j → (cs.getD (j - 1) default).lt (cs.getD j default))) cs.length ⟨0, by omega, rfl, rfl, rfl, by omega⟩ ?_
    rintro m fr M' ⟨k, hk, rfl, h1, h3, hj⟩
    have ht := h.lt
    simp (disch := omega) only [h1, h3, ↓SXd, SXu, slBounds, ↓sop, ↓aop, ↓reduceIte, LV.cells, AOp.dst, LV.I, LV.B, LV.U, LV.S, LV.nil, Nat.reduceEqDiff, Nat.reduceAdd, Nat.reduceMul, Nat.reduceSub, Nat.reduceLeDiff, Nat.reduceBEq, Nat.reduceDiv, Nat.reduceMod, Int.reduceToNat, Int.reduceLT, Int.reduceLE, Int.reduceAdd, Int.reduceSub, Int.reduceMul, Int.reduceEq, Int.reduceNeg, reduceCtorEq, resV, resAll, ARes.ev, LV.flat, ite_true, ite_false, exists_eq_left', exists_eq_left, keyOf, implies_true, fillC, capOf]
    refine condC_dec (fun hlt => ?_) (fun hlt => ?_)
    · simp (disch := omega) only [h1, h3, getCells_app, h.get, Cell.row, ↓SXd, SXu, slBounds, ↓sop, ↓aop, ↓reduceIte, LV.cells, AOp.dst, LV.I, LV.B, LV.U, LV.S, LV.nil, Nat.reduceEqDiff, Nat.reduceAdd, Nat.reduceMul, Nat.reduceSub, Nat.reduceLeDiff, Nat.reduceBEq, Nat.reduceDiv, Nat.reduceMod, Int.reduceToNat, Int.reduceLT, Int.reduceLE, Int.reduceAdd, Int.reduceSub, Int.reduceMul, Int.reduceEq, Int.reduceNeg, reduceCtorEq, resV, resAll, ARes.ev, LV.flat, ite_true, ite_false, exists_eq_left', exists_eq_left, keyOf, implies_true, fillC, capOf]
      refine callK_of (h_l2In hS) ?_
      simp (disch := omega) only [h1, h3, getCells_app, h.get, Cell.row, cell_eta, ↓SXd, SXu, slBounds, ↓sop, ↓aop, ↓reduceIte, LV.cells, AOp.dst, LV.I, LV.B, LV.U, LV.S, LV.nil, Nat.reduceEqDiff, Nat.reduceAdd, Nat.reduceMul, Nat.reduceSub, Nat.reduceLeDiff, Nat.reduceBEq, Nat.reduceDiv, Nat.reduceMod, Int.reduceToNat, Int.reduceLT, Int.reduceLE, Int.reduceAdd, Int.reduceSub, Int.reduceMul, Int.reduceEq, Int.reduceNeg, reduceCtorEq, resV, resAll, ARes.ev, LV.flat, ite_true, ite_false, exists_eq_left', exists_eq_left, keyOf, implies_true, fillC, capOf]
      by_cases hin : (cs.getD k default).inBox x y z
      · simp (disch := omega) only [hin, h1, h3, getCells_app, h.get, Cell.row, cell_eta, ↓SXd, SXu, slBounds, ↓sop, ↓aop, ↓reduceIte, LV.cells, AOp.dst, LV.I, LV.B, LV.U, LV.S, LV.nil, Nat.reduceEqDiff, Nat.reduceAdd, Nat.reduceMul, Nat.reduceSub, Nat.reduceLeDiff, Nat.reduceBEq, Nat.reduceDiv, Nat.reduceMod, Int.reduceToNat, Int.reduceLT, Int.reduceLE, Int.reduceAdd, Int.reduceSub, Int.reduceMul, Int.reduceEq, Int.reduceNeg, reduceCtorEq, resV, resAll, ARes.ev, LV.flat, ite_true, ite_false, exists_eq_left', exists_eq_left, keyOf, implies_true, fillC, capOf]
        by_cases hk0 : k = 0
        · subst hk0
          simp (disch := omega) only [h1, h3, getCells_app, h.get, Cell.row, cell_eta, Int.natCast_zero, gt_iff_lt, Int.lt_irrefl, ↓SXd, SXu, slBounds, ↓sop, ↓aop, ↓reduceIte, LV.cells, AOp.dst, LV.I, LV.B, LV.U, LV.S, LV.nil, Nat.reduceEqDiff, Nat.reduceAdd, Nat.reduceMul, Nat.reduceSub, Nat.reduceLeDiff, Nat.reduceBEq, Nat.reduceDiv, Nat.reduceMod, Int.reduceToNat, Int.reduceLT, Int.reduceLE, Int.reduceAdd, Int.reduceSub, Int.reduceMul, Int.reduceEq, Int.reduceNeg, reduceCtorEq, resV, resAll, ARes.ev, LV.flat, ite_true, ite_false, exists_eq_left', exists_eq_left, keyOf, implies_true, fillC, capOf]
          exact ⟨m - 1, by omega, 1, by omega, rfl, h1, rfl, fun j hj1 => by
            have : j = 0 := by omega
            subst this
            exact ⟨hin, by omega⟩⟩
        · have e1 : ((k : Int) - 1).toNat = k - 1 := by omega
          have e2 : (0 : Int) < k := by omega
          simp (disch := omega) only [h1, h3, getCells_app, h.get, Cell.row, cell_eta, e1, e2, ↓SXd, SXu, slBounds, ↓sop, ↓aop, ↓reduceIte, LV.cells, AOp.dst, LV.I, LV.B, LV.U, LV.S, LV.nil, Nat.reduceEqDiff, Nat.reduceAdd, Nat.reduceMul, Nat.reduceSub, Nat.reduceLeDiff, Nat.reduceBEq, Nat.reduceDiv, Nat.reduceMod, Int.reduceToNat, Int.reduceLT, Int.reduceLE, Int.reduceAdd, Int.reduceSub, Int.reduceMul, Int.reduceEq, Int.reduceNeg, reduceCtorEq, resV, resAll, ARes.ev, LV.flat, ite_true, ite_false, exists_eq_left', exists_eq_left, keyOf, implies_true, fillC, capOf]
          refine callK_of h_l2Before ?_
          simp (disch := omega) only [h1, h3, cell_eta, ↓SXd, SXu, slBounds, ↓sop, ↓aop, ↓reduceIte, LV.cells, AOp.dst, LV.I, LV.B, LV.U, LV.S, LV.nil, Nat.reduceEqDiff, Nat.reduceAdd, Nat.reduceMul, Nat.reduceSub, Nat.reduceLeDiff, Nat.reduceBEq, Nat.reduceDiv, Nat.reduceMod, Int.reduceToNat, Int.reduceLT, Int.reduceLE, Int.reduceAdd, Int.reduceSub, Int.reduceMul, Int.reduceEq, Int.reduceNeg, reduceCtorEq, resV, resAll, ARes.ev, LV.flat, ite_true, ite_false, exists_eq_left', exists_eq_left, keyOf, implies_true, fillC, capOf]
          by_cases hb : (cs.getD (k - 1) default).lt (cs.getD k default)
          · simp (disch := omega) only [hb, h1, h3, ↓SXd, SXu, slBounds, ↓sop, ↓aop, ↓reduceIte, LV.cells, AOp.dst, LV.I, LV.B, LV.U, LV.S, LV.nil, Nat.reduceEqDiff, Nat.reduceAdd, Nat.reduceMul, Nat.reduceSub, Nat.reduceLeDiff, Nat.reduceBEq, Nat.reduceDiv, Nat.reduceMod, Int.reduceToNat, Int.reduceLT, Int.reduceLE, Int.reduceAdd, Int.reduceSub, Int.reduceMul, Int.reduceEq, Int.reduceNeg, reduceCtorEq, resV, resAll, ARes.ev, LV.flat, ite_true, ite_false, exists_eq_left', exists_eq_left, keyOf, implies_true, fillC, capOf]
            exact ⟨m - 1, by omega, k + 1, by omega, rfl, h1, eqI (natI _), fun j hj1 => by
              by_cases hjk : j = k
              · subst hjk; exact ⟨hin, fun _ => hb⟩
              · exact hj j (by omega)⟩
          · simp (disch := omega) only [hb, h1, h3, ↓SXd, SXu, slBounds, ↓sop, ↓aop, ↓reduceIte, LV.cells, AOp.dst, LV.I, LV.B, LV.U, LV.S, LV.nil, Nat.reduceEqDiff, Nat.reduceAdd, Nat.reduceMul, Nat.reduceSub, Nat.reduceLeDiff, Nat.reduceBEq, Nat.reduceDiv, Nat.reduceMod, Int.reduceToNat, Int.reduceLT, Int.reduceLE, Int.reduceAdd, Int.reduceSub, Int.reduceMul, Int.reduceEq, Int.reduceNeg, reduceCtorEq, resV, resAll, ARes.ev, LV.flat, ite_true, ite_false, exists_eq_left', exists_eq_left, keyOf, implies_true, fillC, capOf]
            exact cmp_dropF fun hh => hb ((hh.2 k (by omega)).2 (by omega))
      · simp (disch := omega) only [hin, h1, h3, ↓SXd, SXu, slBounds, ↓sop, ↓aop, ↓reduceIte, LV.cells, AOp.dst, LV.I, LV.B, LV.U, LV.S, LV.nil, Nat.reduceEqDiff, Nat.reduceAdd, Nat.reduceMul, Nat.reduceSub, Nat.reduceLeDiff, Nat.reduceBEq, Nat.reduceDiv, Nat.reduceMod, Int.reduceToNat, Int.reduceLT, Int.reduceLE, Int.reduceAdd, Int.reduceSub, Int.reduceMul, Int.reduceEq, Int.reduceNeg, reduceCtorEq, resV, resAll, ARes.ev, LV.flat, ite_true, ite_false, exists_eq_left', exists_eq_left, keyOf, implies_true, fillC, capOf]
        exact cmp_dropF fun hh => hin (hh.2 k (by omega)).1
    · simp (disch := omega) only [h1, h3, ↓SXd, SXu, slBounds, ↓sop, ↓aop, ↓reduceIte, LV.cells, AOp.dst, LV.I, LV.B, LV.U, LV.S, LV.nil, Nat.reduceEqDiff, Nat.reduceAdd, Nat.reduceMul, Nat.reduceSub, Nat.reduceLeDiff, Nat.reduceBEq, Nat.reduceDiv, Nat.reduceMod, Int.reduceToNat, Int.reduceLT, Int.reduceLE, Int.reduceAdd, Int.reduceSub, Int.reduceMul, Int.reduceEq, Int.reduceNeg, reduceCtorEq, resV, resAll, ARes.ev, LV.flat, ite_true, ite_false, exists_eq_left', exists_eq_left, keyOf, implies_true, fillC, capOf]
      exact cmp_dropT ⟨hS, fun j hj1 => hj j (by omega)⟩
  · simp (disch := omega) only [hS, ↓SXd, SXu, slBounds, ↓sop, ↓aop, ↓reduceIte, LV.cells, AOp.dst, LV.I, LV.B, LV.U, LV.S, LV.nil, Nat.reduceEqDiff, Nat.reduceAdd, Nat.reduceMul, Nat.reduceSub, Nat.reduceLeDiff, Nat.reduceBEq, Nat.reduceDiv, Nat.reduceMod, Int.reduceToNat, Int.reduceLT, Int.reduceLE, Int.reduceAdd, Int.reduceSub, Int.reduceMul, Int.reduceEq, Int.reduceNeg, reduceCtorEq, resV, resAll, ARes.ev, LV.flat, ite_true, ite_false, exists_eq_left', exists_eq_left, keyOf, implies_true, fillC, capOf]
    exact cmp_dropF fun hh => hS hh.1

end Go.Ab

namespace Go.Ab
open Go

end Go.Ab

namespace Go.Ab.C
open Go.Ab
def spec_l2Empty : AFn :=
 ⟨3, 12, [.cellN 6 4],
 .seq (.ops [(none, .alloc 6 [(.I 0), (.I 0), (.I 0), .nil])])
 (.seq (.ops [(none, .mv 7 (.t 0)),
 (none, .mv 8 (.t 1)),
 (none, .mv 9 (.t 2)),
 (none, .buildSl 10 0 3 [] []),
 (none, .build 11 [(.I 0), (.I 0), (.I 0), .nil] [(0, 1, (.t 7)), (1, 1, (.t 8)), (2, 1, (.t 9)), (3, 1, (.t 10))]),
 (none, .store 4 (.t 6) (.t 11))])
 (.ret))⟩
end Go.Ab.C

namespace Go.Ab.K
open Go Go.Ab
theorem spec_l2Empty : prepF Go.Proofs.Tryd.prog F.spec_l2Empty = some C.spec_l2Empty := by kernel_rfl
end Go.Ab.K

namespace Go.Ab

def idx (y z : Int) (c : Cell) : Int := (c.a * y + c.b) * z + c.c
def cellAt (y z i : Int) : Cell := ⟨(i.tdiv z).tdiv y, (i.tdiv z).tmod y, i.tmod z⟩
def vol (x y z : Int) : Nat := (x * y * z).toNat
def cellsOf (x y z : Int) : List Cell := (List.range (vol x y z)).map fun (i : Nat) => cellAt y z i
def pick (x y z : Int) (p : Cell → Bool) : List Cell := (cellsOf x y z).filter p

section
variable {x y z : Int} (hS : Sides x y z)
include hS
omit hS in
theorem getD_mem' {α : Type} {l : List α} {k : Nat} {d : α} (h : k < l.length) : l.getD k d ∈ l := by simp [h]
theorem vol_bound : 1 ≤ x * y * z ∧ x * y * z ≤ 64 ∧ 1 ≤ y * z ∧ y * z ≤ 16 ∧ 1 ≤ x * y ∧ x * y ≤ 16 := by
  obtain ⟨hx, hy, hz⟩ := hS
  have h2 : y = 1 ∨ y = 2 ∨ y = 3 ∨ y = 4 := by omega
  have h3 : z = 1 ∨ z = 2 ∨ z = 3 ∨ z = 4 := by omega
  rcases h2 with rfl | rfl | rfl | rfl <;> rcases h3 with rfl | rfl | rfl | rfl <;> omega
theorem vol_cast : ((vol x y z : Nat) : Int) = x * y * z ∧ 1 ≤ vol x y z ∧ vol x y z ≤ 64 := by
  have := vol_bound hS
  unfold vol; omega
theorem idx_in {c : Cell} (hc : c.inBox x y z) : 0 ≤ idx y z c ∧ idx y z c < x * y * z ∧ cellAt y z (idx y z c) = c := by
  obtain ⟨hx, hy, hz⟩ := hS
  obtain ⟨a, b, d⟩ := c
  obtain ⟨h1, h2, h3⟩ := hc
  simp only at h1 h2 h3
  have e2 : y = 1 ∨ y = 2 ∨ y = 3 ∨ y = 4 := by omega
  have e3 : z = 1 ∨ z = 2 ∨ z = 3 ∨ z = 4 := by omega
  unfold idx cellAt
  simp only
  have hn : 0 ≤ (a * y + b) * z + d := by rcases e2 with rfl | rfl | rfl | rfl <;> rcases e3 with rfl | rfl | rfl | rfl <;> omega
  refine ⟨hn, by rcases e2 with rfl | rfl | rfl | rfl <;> rcases e3 with rfl | rfl | rfl | rfl <;> omega, ?_⟩
  rw [Int.tdiv_eq_ediv_of_nonneg hn, Int.tmod_eq_emod_of_nonneg hn]
  have hq : 0 ≤ ((a * y + b) * z + d) / z := Int.ediv_nonneg hn (by omega)
  rw [Int.tdiv_eq_ediv_of_nonneg hq, Int.tmod_eq_emod_of_nonneg hq]
  rw [cell_eq]
  rcases e2 with rfl | rfl | rfl | rfl <;> rcases e3 with rfl | rfl | rfl | rfl <;> simp only <;> omega
theorem cellAt_in {i : Int} (h0 : 0 ≤ i) (hi : i < x * y * z) : (cellAt y z i).inBox x y z ∧ idx y z (cellAt y z i) = i := by
  obtain ⟨hx, hy, hz⟩ := hS
  have e1 : x = 1 ∨ x = 2 ∨ x = 3 ∨ x = 4 := by omega
  have e2 : y = 1 ∨ y = 2 ∨ y = 3 ∨ y = 4 := by omega
  have e3 : z = 1 ∨ z = 2 ∨ z = 3 ∨ z = 4 := by omega
  unfold idx cellAt Cell.inBox
  simp only
  rw [Int.tdiv_eq_ediv_of_nonneg h0, Int.tmod_eq_emod_of_nonneg h0]
  have hq : 0 ≤ i / z := Int.ediv_nonneg h0 (by omega)
  rw [Int.tdiv_eq_ediv_of_nonneg hq, Int.tmod_eq_emod_of_nonneg hq]
  rcases e2 with rfl | rfl | rfl | rfl <;> rcases e3 with rfl | rfl | rfl | rfl <;> (refine ⟨⟨⟨?_, ?_⟩, ⟨?_, ?_⟩, ⟨?_, ?_⟩⟩, ?_⟩ <;> omega)
theorem lt_iff {c d : Cell} (hc : c.inBox x y z) (hd : d.inBox x y z) : c.lt d ↔ idx y z c < idx y z d := by
  obtain ⟨hx, hy, hz⟩ := hS
  obtain ⟨a, b, e⟩ := c
  obtain ⟨a', b', e'⟩ := d
  obtain ⟨h1, h2, h3⟩ := hc
  obtain ⟨k1, k2, k3⟩ := hd
  simp only at h1 h2 h3 k1 k2 k3
  unfold idx Cell.lt
  simp only
  have e2 : y = 1 ∨ y = 2 ∨ y = 3 ∨ y = 4 := by omega
  have e3 : z = 1 ∨ z = 2 ∨ z = 3 ∨ z = 4 := by omega
  rcases e2 with rfl | rfl | rfl | rfl <;> rcases e3 with rfl | rfl | rfl | rfl <;> omega

theorem mem_cellsOf {c : Cell} : c ∈ cellsOf x y z ↔ c.inBox x y z := by
  unfold cellsOf
  rw [List.mem_map]
  have hv := vol_cast hS
  constructor
  · rintro ⟨i, hi, rfl⟩
    exact (cellAt_in hS (by omega) (by have := List.mem_range.1 hi; omega)).1
  · intro hc
    obtain ⟨h1, h2, h3⟩ := idx_in hS hc
    refine ⟨(idx y z c).toNat, List.mem_range.2 (by omega), ?_⟩
    rw [Int.toNat_of_nonneg h1, h3]
theorem mem_pick {p : Cell → Bool} {c : Cell} : c ∈ pick x y z p ↔ c.inBox x y z ∧ p c = true := by
  unfold pick
  rw [List.mem_filter, mem_cellsOf hS]
theorem cellsOf_sorted : (cellsOf x y z).Pairwise Cell.lt := by
  unfold cellsOf
  rw [List.pairwise_map]
  have hv := vol_cast hS
  refine List.Pairwise.imp_of_mem (R := fun a b => a < b) ?_ (List.pairwise_lt_range)
  intro i j hi hj hij
  have hi := List.mem_range.1 hi
  have hj := List.mem_range.1 hj
  obtain ⟨h1, h2⟩ := cellAt_in hS (i := (i : Int)) (by omega) (by omega)
  obtain ⟨h3, h4⟩ := cellAt_in hS (i := (j : Int)) (by omega) (by omega)
  rw [lt_iff hS h1 h3, h2, h4]; omega
theorem pick_sorted (p : Cell → Bool) : (pick x y z p).Pairwise Cell.lt := (cellsOf_sorted hS).filter p
end

theorem Cell.lt_irrefl (c : Cell) : ¬ c.lt c := by unfold Cell.lt; omega
theorem Cell.lt_trans {a b c : Cell} (h : a.lt b) (k : b.lt c) : a.lt c := by unfold Cell.lt at *; omega
theorem sorted_ext : ∀ {l m : List Cell}, l.Pairwise Cell.lt → m.Pairwise Cell.lt → (∀ c, c ∈ l ↔ c ∈ m) → l = m
  | [], [], _, _, _ => rfl
  | [], b :: m, _, _, h => by have := (h b).2 (by simp); simp at this
  | a :: l, [], _, _, h => by have := (h a).1 (by simp); simp at this
  | a :: l, b :: m, hl, hm, h => by
    rw [List.pairwise_cons] at hl hm
    have hab : a = b := by
      rcases List.mem_cons.1 ((h a).1 (by simp)) with h1 | h1
      · exact h1
      · rcases List.mem_cons.1 ((h b).2 (by simp)) with h2 | h2
        · exact h2.symm
        · exact absurd (Cell.lt_trans (hm.1 a h1) (hl.1 b h2)) (Cell.lt_irrefl b)
    subst hab
    congr 1
    refine sorted_ext hl.2 hm.2 fun c => ?_
    have h1 : ∀ {c}, c ∈ l → a ≠ c := fun hc e => Cell.lt_irrefl a (by have := hl.1 _ hc; rw [← e] at this; exact this)
    have h2 : ∀ {c}, c ∈ m → a ≠ c := fun hc e => Cell.lt_irrefl a (by have := hm.1 _ hc; rw [← e] at this; exact this)
    have := h c
    simp only [List.mem_cons] at this
    constructor
    · intro hc; exact (this.1 (.inr hc)).resolve_left fun e => h1 hc e.symm
    · intro hc; exact (this.2 (.inr hc)).resolve_left fun e => h2 hc e.symm

theorem HeapOK.sorted {x y z : Int} {cs : List Cell} (h : HeapOK x y z cs) : cs.Pairwise Cell.lt := by
  rw [List.pairwise_iff_getElem]
  have key : ∀ (d i : Nat) (h1 : i < cs.length) (h2 : i + d + 1 < cs.length), (cs.getD i default).lt (cs.getD (i + d + 1) default) := by
    intro d
    induction d with
    | zero => intro i h1 h2; have := (h.2 (i + 1) h2).2 (by omega); simpa using this
    | succ d ih =>
      intro i h1 h2
      have h3 := ih i h1 (by omega)
      have h4 := (h.2 (i + (d + 1) + 1) h2).2 (by omega)
      rw [show i + (d + 1) + 1 - 1 = i + d + 1 by omega] at h4
      exact Cell.lt_trans h3 h4
  intro i j hi hj hij
  have := key (j - i - 1) i hi (by omega)
  rw [show i + (j - i - 1) + 1 = j by omega] at this
  simpa [hi, hj] using this
theorem HeapOK.mem {x y z : Int} {cs : List Cell} (h : HeapOK x y z cs) {c : Cell} (hc : c ∈ cs) : c.inBox x y z := by
  obtain ⟨i, hi, rfl⟩ := List.getElem_of_mem hc
  have := (h.2 i hi).1
  simpa [hi] using this
theorem HeapOK.of {x y z : Int} {cs : List Cell} (hS : Sides x y z) (hs : cs.Pairwise Cell.lt) (hm : ∀ c ∈ cs, c.inBox x y z) : HeapOK x y z cs := by
  refine ⟨hS, fun k hk => ⟨hm _ (by simp [hk]), fun h0 => ?_⟩⟩
  rw [List.pairwise_iff_getElem] at hs
  have := hs (k - 1) k (by omega) hk (by omega)
  have h1 : k - 1 < cs.length := by omega
  simpa [hk, h1] using this
theorem HeapOK.pick {x y z : Int} {cs : List Cell} (h : HeapOK x y z cs) : cs = pick x y z fun c => decide (c ∈ cs) := by
  refine sorted_ext h.sorted (pick_sorted h.1 _) fun c => ?_
  rw [mem_pick h.1]
  simp only [decide_eq_true_eq]
  exact ⟨fun hc => ⟨h.mem hc, hc⟩, fun hc => hc.2⟩
theorem pick_len {x y z : Int} (hS : Sides x y z) (p : Cell → Bool) : (pick x y z p).length ≤ 64 := by
  have h1 := List.length_filter_le p (cellsOf x y z)
  have h2 : (cellsOf x y z).length = vol x y z := by simp [cellsOf]
  have h3 := vol_cast hS
  unfold Go.Ab.pick
  omega
theorem HeapOK.len {x y z : Int} {cs : List Cell} (h : HeapOK x y z cs) : cs.length ≤ 64 := by rw [h.pick]; exact pick_len h.1 _
theorem HeapOK.nodup {x y z : Int} {cs : List Cell} (h : HeapOK x y z cs) : cs.Nodup := h.sorted.imp fun {a b} hab e => by subst e; exact Cell.lt_irrefl _ hab

/-! ### Bits -/
def bsN (n : Nat) (f : Nat → Bool) : BitVec 64 := (List.range n).foldl (fun s i => if f i then s ||| (1#64 <<< i) else s) 0#64
def bs (x y z : Int) (p : Cell → Bool) : BitVec 64 := bsN (vol x y z) fun i => p (cellAt y z i)

section
variable {x y z : Int} (hS : Sides x y z)
include hS
end
end Go.Ab

namespace Go.Ab
open Go

theorem h_l2Empty {x y z : Int} {M : Mem} : CallsTo PG F.spec_l2Empty [.I x, .I y, .I z] M (.agg [.I x, .I y, .I z, .ref M.length 0 0]) (M ++ [some (.row [] true 3)]) := by
  refine calls_run K.spec_l2Empty rfl ?_
  simp (disch := omega) only [C.spec_l2Empty, splice, ↓SXd, SXu, slBounds, ↓sop, ↓aop, ↓reduceIte, LV.cells, AOp.dst, LV.I, LV.B, LV.U, LV.S, LV.nil, Nat.reduceEqDiff, Nat.reduceAdd, Nat.reduceMul, Nat.reduceSub, Nat.reduceLeDiff, Nat.reduceBEq, Nat.reduceDiv, Nat.reduceMod, Int.reduceToNat, Int.reduceLT, Int.reduceLE, Int.reduceAdd, Int.reduceSub, Int.reduceMul, Int.reduceEq, Int.reduceNeg, reduceCtorEq, resV, resAll, ARes.ev, LV.flat, ite_true, ite_false, exists_eq_left', exists_eq_left, keyOf, implies_true, fillC, capOf]
  exact cmp_keep1 (j := 1) rfl rfl (by simp [rn, rn0, rn1, keepR_n])

end Go.Ab
