/- Parts of the proof of FnHolesSaid: Hk C_Jx K_Jx Jx Qg LFnHoles Re. -/
import Derived.Test.YtggnfklcgopflaaA10
import Derived.Test.YtggnfklcgopflaaA4
import Derived.Test.YtggnfklcgopflaaA6
import Derived.Test.YtggnfklcgopflaaA3
import Derived.Test.YtggnfklcgopflaaProg
import Derived.KernelRfl
import Derived.Test.YtggnfklcgopflaaA7
import Derived.Test.YtggnfklcgopflaaA8
set_option linter.all false
namespace Go.Ab
open Go
set_option maxRecDepth 20000

theorem CellsV.lenV {N : Mem} {v : LV} {l : List Cell} (h : CellsV N v l) : lenV v = some (l.length : Int) := by
  rcases h with ⟨rfl, rfl⟩ | ⟨t, o, rfl, _⟩ <;> rfl
theorem CellsV.at {N : Mem} {v : LV} {l : List Cell} {k : Nat} (h : CellsV N v l) (hk : k < l.length) : ∃ t o, v = .ref t o l.length ∧ getCells N t (o + k * 3) 3 = some (l.getD k default).row := by
  rcases h with ⟨rfl, rfl⟩ | ⟨t, o, rfl, h⟩
  · simp at hk
  · exact ⟨t, o, rfl, Tri.get h hk⟩
theorem list_ext {α : Type} {l l' : List α} {d : α} (hl : l.length = l'.length) (h : ∀ j, j < l.length → l.getD j d = l'.getD j d) : l = l' := by
  apply List.ext_getElem hl
  intro i h2 h3
  have := h i h2
  simpa [h2, h3] using this
theorem k_rCells {l l' : List Cell} {v v' : LV} {M : Mem} (h : CellsV M v l) (h' : CellsV M v' l') (hn : l.length ≤ 1000000000) (hn' : l'.length ≤ 1000000000) : CallsTo PG F.laws_rCells [v, v'] M (.B (decide (l = l'))) M := by
  refine calls_run K.laws_rCells rfl ?_
  have hv := h.lenV
  have hv' := h'.lenV
  by_cases hl : (l.length : Int) = l'.length
  rotate_left
  · rw [decide_eq_false (fun e => hl (by rw [e]))]
    simp (disch := omega) only [C.laws_rCells, hv, hv', hl, ↓SXd, SXu, slBounds, ↓sop, ↓aop, ↓reduceIte, LV.cells, AOp.dst, LV.I, LV.B, LV.U, LV.S, LV.nil, Nat.reduceEqDiff, Nat.reduceAdd, Nat.reduceMul, Nat.reduceSub, Nat.reduceLeDiff, Nat.reduceBEq, Nat.reduceDiv, Nat.reduceMod, Int.reduceToNat, Int.reduceLT, Int.reduceLE, Int.reduceAdd, Int.reduceSub, Int.reduceMul, Int.reduceEq, Int.reduceNeg, reduceCtorEq, resV, resAll, ARes.ev, LV.flat, ite_true, ite_false, exists_eq_left', exists_eq_left, keyOf, implies_true, fillC, capOf]
    exact cmp_drop0 rfl
  have hln : l.length = l'.length := by omega
  simp (disch := omega) only [C.laws_rCells, hv, hv', hl, ↓SXd, SXu, slBounds, ↓sop, ↓aop, ↓reduceIte, LV.cells, AOp.dst, LV.I, LV.B, LV.U, LV.S, LV.nil, Nat.reduceEqDiff, Nat.reduceAdd, Nat.reduceMul, Nat.reduceSub, Nat.reduceLeDiff, Nat.reduceBEq, Nat.reduceDiv, Nat.reduceMod, Int.reduceToNat, Int.reduceLT, Int.reduceLE, Int.reduceAdd, Int.reduceSub, Int.reduceMul, Int.reduceEq, Int.reduceNeg, reduceCtorEq, resV, resAll, ARes.ev, LV.flat, ite_true, ite_false, exists_eq_left', exists_eq_left, keyOf, implies_true, fillC, capOf]
  refine ev_loop (fun m fr M' => ∃ k : Nat, k + m = l.length ∧ M' = M ∧ fr 0 = v ∧ fr 1 = v' ∧ fr 5 = .I k ∧ ∀ j, j < k → l.getD j default = l'.getD j default) l.length ⟨0, by omega, rfl, rfl, rfl, rfl, by omega⟩ ?_
  rintro m fr M' ⟨k, hk, rfl, h0, h1, h5, hj⟩
  simp (disch := omega) only [h0, h1, h5, hv, ↓SXd, SXu, slBounds, ↓sop, ↓aop, ↓reduceIte, LV.cells, AOp.dst, LV.I, LV.B, LV.U, LV.S, LV.nil, Nat.reduceEqDiff, Nat.reduceAdd, Nat.reduceMul, Nat.reduceSub, Nat.reduceLeDiff, Nat.reduceBEq, Nat.reduceDiv, Nat.reduceMod, Int.reduceToNat, Int.reduceLT, Int.reduceLE, Int.reduceAdd, Int.reduceSub, Int.reduceMul, Int.reduceEq, Int.reduceNeg, reduceCtorEq, resV, resAll, ARes.ev, LV.flat, ite_true, ite_false, exists_eq_left', exists_eq_left, keyOf, implies_true, fillC, capOf]
  refine condC_dec (fun hlt => ?_) (fun hlt => ?_)
  · obtain ⟨t, o, rfl, hg⟩ := h.at (k := k) (by omega)
    obtain ⟨t', o', rfl, hg'⟩ := h'.at (k := k) (by omega)
    simp (disch := omega) only [h0, h1, h5, hg, hg', Cell.row, eqV, eqC, if_true, ite_true, Bool.and_true, ↓SXd, SXu, slBounds, ↓sop, ↓aop, ↓reduceIte, LV.cells, AOp.dst, LV.I, LV.B, LV.U, LV.S, LV.nil, Nat.reduceEqDiff, Nat.reduceAdd, Nat.reduceMul, Nat.reduceSub, Nat.reduceLeDiff, Nat.reduceBEq, Nat.reduceDiv, Nat.reduceMod, Int.reduceToNat, Int.reduceLT, Int.reduceLE, Int.reduceAdd, Int.reduceSub, Int.reduceMul, Int.reduceEq, Int.reduceNeg, reduceCtorEq, resV, resAll, ARes.ev, LV.flat, ite_true, ite_false, exists_eq_left', exists_eq_left, keyOf, implies_true, fillC, capOf]
    rw [beq3]
    by_cases he : l.getD k default = l'.getD k default
    · simp (disch := omega) only [h0, h1, h5, he, ↓SXd, SXu, slBounds, ↓sop, ↓aop, ↓reduceIte, LV.cells, AOp.dst, LV.I, LV.B, LV.U, LV.S, LV.nil, Nat.reduceEqDiff, Nat.reduceAdd, Nat.reduceMul, Nat.reduceSub, Nat.reduceLeDiff, Nat.reduceBEq, Nat.reduceDiv, Nat.reduceMod, Int.reduceToNat, Int.reduceLT, Int.reduceLE, Int.reduceAdd, Int.reduceSub, Int.reduceMul, Int.reduceEq, Int.reduceNeg, reduceCtorEq, resV, resAll, ARes.ev, LV.flat, ite_true, ite_false, exists_eq_left', exists_eq_left, keyOf, implies_true, fillC, capOf]
      exact ⟨m - 1, by omega, k + 1, by omega, rfl, h0, h1, eqI (natI _), fun j hj1 => by
        rcases Nat.lt_or_ge j k with h2 | h2
        · exact hj j h2
        · rw [show j = k by omega]; exact he⟩
    · simp (disch := omega) only [h0, h1, h5, he, ↓SXd, SXu, slBounds, ↓sop, ↓aop, ↓reduceIte, LV.cells, AOp.dst, LV.I, LV.B, LV.U, LV.S, LV.nil, Nat.reduceEqDiff, Nat.reduceAdd, Nat.reduceMul, Nat.reduceSub, Nat.reduceLeDiff, Nat.reduceBEq, Nat.reduceDiv, Nat.reduceMod, Int.reduceToNat, Int.reduceLT, Int.reduceLE, Int.reduceAdd, Int.reduceSub, Int.reduceMul, Int.reduceEq, Int.reduceNeg, reduceCtorEq, resV, resAll, ARes.ev, LV.flat, ite_true, ite_false, exists_eq_left', exists_eq_left, keyOf, implies_true, fillC, capOf]
      rw [decide_eq_false (fun e => he (by rw [e]))]
      exact cmp_drop0 rfl
  · simp (disch := omega) only [h0, h1, h5, ↓SXd, SXu, slBounds, ↓sop, ↓aop, ↓reduceIte, LV.cells, AOp.dst, LV.I, LV.B, LV.U, LV.S, LV.nil, Nat.reduceEqDiff, Nat.reduceAdd, Nat.reduceMul, Nat.reduceSub, Nat.reduceLeDiff, Nat.reduceBEq, Nat.reduceDiv, Nat.reduceMod, Int.reduceToNat, Int.reduceLT, Int.reduceLE, Int.reduceAdd, Int.reduceSub, Int.reduceMul, Int.reduceEq, Int.reduceNeg, reduceCtorEq, resV, resAll, ARes.ev, LV.flat, ite_true, ite_false, exists_eq_left', exists_eq_left, keyOf, implies_true, fillC, capOf]
    rw [decide_eq_true (list_ext hln fun j hj1 => hj j (by omega))]
    exact cmp_drop0 rfl
section
variable {x y z : Int} {t : Nat} {w : Bool} {cs : List Cell} {M : Mem} (h : Live M t (.row (triL cs) w 3)) (hH : HeapOK x y z cs)
include h hH
end
end Go.Ab

namespace Go.Ab.C
open Go.Ab
def spec_l1Cur_hollow : AFn :=
 ⟨1, 68, [.cellN 2 4],
 .seq (.ops [(none, .alloc 2 [(.I 0), (.I 0), (.I 0), .nil])])
 (.seq (.seq (.ops [(none, .mv 8 (.t 0)),
 (none, .call (some 9) F.spec_l1Cur_one [(.t 8), (.c (.I 2))])])
 (.cond (.t 9) (.seq (.ops [(none, .mv 10 (.t 0)),
 (none, .call (some 11) F.spec_l1Cur_heap [(.t 10)]),
 (none, .store 4 (.t 2) (.t 11))])
 (.ret))
 (.skip)))
 (.seq (.ops [(none, .mv 12 (.t 0)),
 (none, .buildSl 13 3 1 [(.I 0), (.I 0), (.I 0)] [(0, 1, (.c (.I 3))), (1, 1, (.c (.I 4))), (2, 1, (.c (.I 3)))]),
 (none, .call (some 14) F.spec_l1Cur_among [(.t 12), (.t 13)]),
 (none, .mv 15 (.t 0)),
 (none, .buildSl 16 3 1 [(.I 0), (.I 0), (.I 0)] [(0, 1, (.c (.I 3))), (1, 1, (.c (.I 4))), (2, 1, (.c (.I 3)))]),
 (none, .call (some 17) F.spec_l1Cur_among [(.t 15), (.t 16)]),
 (none, .mv 18 (.t 0)),
 (none, .buildSl 19 3 1 [(.I 0), (.I 0), (.I 0)] [(0, 1, (.c (.I 3))), (1, 1, (.c (.I 4))), (2, 1, (.c (.I 3)))]),
 (none, .call (some 20) F.spec_l1Cur_among [(.t 18), (.t 19)]),
 (none, .call (some 21) F.spec_l2Box [(.t 14), (.t 17), (.t 20)]),
 (none, .alloc 3 [(.I 0), (.I 0), (.I 0), .nil]),
 (none, .store 4 (.t 3) (.t 21))])
 (.seq (.seq (.ops [(none, .mv 22 (.t 0)),
 (none, .call (some 23) F.spec_l1Cur_pick [(.t 22), (.c (.I 5))]),
 (none, .mv 4 (.t 23))])
 (.block 0 (.loop (.seq (.seq (.ops [(none, .mv 24 (.t 4)),
 (none, .bin 25 .gtr (.t 24) (.c (.I 0)))])
 (.cond (.t 25) (.skip)
 (.exit 0)))
 (.seq (.block 1 (.seq (.draw [⟨(none, .mv 28 (.t 0)), [], []⟩,
 ⟨(none, .fieldAddr 29 (.t 3) 0), [], []⟩,
 ⟨(none, .load1 30 (.t 29)), [], []⟩,
 ⟨(none, .bin 31 .sub (.t 30) (.c (.I 2))), [], []⟩,
 ⟨(none, .mv 34 (.t 0)), [], []⟩,
 ⟨(none, .fieldAddr 35 (.t 3) 1), [], []⟩,
 ⟨(none, .load1 36 (.t 35)), [], []⟩,
 ⟨(none, .bin 37 .sub (.t 36) (.c (.I 2))), [], []⟩,
 ⟨(none, .mv 40 (.t 0)), [], []⟩,
 ⟨(none, .fieldAddr 41 (.t 3) 2), [], []⟩,
 ⟨(none, .load1 42 (.t 41)), [], []⟩,
 ⟨(none, .bin 43 .sub (.t 42) (.c (.I 2))), [], []⟩,
 ⟨(none, .alloc 5 [(.I 0), (.I 0), (.I 0)]), [], []⟩,
 ⟨(none, .call (some 32) F.spec_l1Cur_pick [(.t 28), (.t 31)]), [12], [4, 5, 6, 7, 8, 9, 10, 11]⟩,
 ⟨(none, .bin 33 .add (.c (.I 1)) (.t 32)), [], []⟩,
 ⟨(none, .call (some 38) F.spec_l1Cur_pick [(.t 34), (.t 37)]), [12], [8, 9, 10, 11, 14]⟩,
 ⟨(none, .bin 39 .add (.c (.I 1)) (.t 38)), [], []⟩,
 ⟨(none, .call (some 44) F.spec_l1Cur_pick [(.t 40), (.t 43)]), [12], [14, 16]⟩,
 ⟨(none, .bin 45 .add (.c (.I 1)) (.t 44)), [], []⟩,
 ⟨(none, .build 46 [(.I 0), (.I 0), (.I 0)] [(0, 1, (.t 33)), (1, 1, (.t 39)), (2, 1, (.t 45))]), [], []⟩,
 ⟨(none, .store 3 (.t 5) (.t 46)), [], []⟩])
 (.seq (.ops [(none, .loadN 47 4 (.t 3)),
 (none, .loadN 48 3 (.t 5)),
 (none, .call (some 49) F.spec_l2Without [(.t 47), (.t 48)]),
 (none, .store 4 (.t 3) (.t 49))])
 (.seq (.ops [(none, .mv 50 (.t 0)),
 (none, .call (some 51) F.spec_l1Cur_one [(.t 50), (.c (.I 3))])])
 (.cond (.t 51) (.seq (.ops [(none, .mv 52 (.t 0)),
 (none, .call (some 53) F.spec_l1Cur_pick [(.t 52), (.c (.I 3))]),
 (none, .mv 6 (.t 53))])
 (.seq (.ops [(none, .mv 7 (.c (.I 0)))])
 (.block 2 (.loop (.seq (.seq (.ops [(none, .mv 54 (.t 7)),
 (none, .loadN 55 4 (.t 3)),
 (none, .mv 56 (.t 6)),
 (none, .call (some 57) F.spec_l2Long [(.t 55), (.t 56)]),
 (none, .bin 58 .lss (.t 54) (.t 57))])
 (.cond (.t 58) (.skip)
 (.exit 2)))
 (.seq (.block 3 (.seq (.ops [(none, .mv 61 (.t 6)),
 (none, .mv 62 (.t 7)),
 (none, .idxA 63 3 1 (.t 5) (.t 61)),
 (none, .store 1 (.t 63) (.t 62))])
 (.ops [(none, .loadN 64 4 (.t 3)),
 (none, .loadN 65 3 (.t 5)),
 (none, .call (some 66) F.spec_l2Without [(.t 64), (.t 65)]),
 (none, .store 4 (.t 3) (.t 66))])))
 (.ops [(none, .mv 59 (.t 7)),
 (none, .bin 60 .add (.t 59) (.c (.I 1))),
 (none, .mv 7 (.t 60))])))))))
 (.skip))))))
 (.ops [(none, .mv 26 (.t 4)),
 (none, .bin 27 .sub (.t 26) (.c (.I 1))),
 (none, .mv 4 (.t 27))]))))))
 (.seq (.ops [(none, .loadN 67 4 (.t 3)),
 (none, .store 4 (.t 2) (.t 67))])
 (.ret)))))⟩
def spec_DrawBareFaces : AFn :=
 ⟨1, 9, [.cellN 2 4],
 .seq (.ops [(none, .alloc 2 [(.I 0), (.I 0), (.I 0), .nil])])
 (.seq (.ops [(none, .mv 4 (.t 0)),
 (none, .build 5 [.nil, (.I 0), (.U 0)] [(0, 1, (.t 4))]),
 (none, .box 6 (.t 5)),
 (none, .mv 3 (.t 6))])
 (.seq (.ops [(none, .mv 7 (.t 3)),
 (none, .call (some 8) F.spec_l1Cur_hollow [(.t 7)]),
 (none, .store 4 (.t 2) (.t 8))])
 (.ret)))⟩
end Go.Ab.C

namespace Go.Ab.K
open Go Go.Ab
theorem spec_l1Cur_hollow : prepF Go.Proofs.Try.prog F.spec_l1Cur_hollow = some C.spec_l1Cur_hollow := by kernel_rfl
theorem spec_DrawBareFaces : prepF Go.Proofs.Try.prog F.spec_DrawBareFaces = some C.spec_DrawBareFaces := by kernel_rfl
end Go.Ab.K

namespace Go.Ab
open Go
set_option maxRecDepth 20000

theorem DrawN.keepV {M N N' : Mem} {p t o a w : Nat} {bs : List Nat} (h : DrawN M p t o bs a N) (hp : p < M.length) (ht : t < M.length) (hw : M.length ≤ w) (hl : N.length ≤ N'.length) (hk : ∀ q, q ≠ w → q < N.length → N'[q]? = N[q]?) : DrawN M p t o bs a N' :=
  h.keep hp ht (Nat.le_refl _) hl fun q q1 => hk q (by omega) (by have := h.2.1; omega)
def sidesL : List Cell := [⟨1, 1, 2⟩, ⟨2, 1, 1⟩, ⟨1, 2, 1⟩, ⟨1, 1, 1⟩, ⟨1, 1, 3⟩, ⟨2, 2, 1⟩, ⟨3, 1, 1⟩]
theorem d_hollow {p t o a : Nat} {bs : List Nat} {M : Mem} (h : CurAt M p t o bs a) (ha : a ≤ 980000) : CallsR PG F.spec_l1Cur_hollow [.ptr p 0] M fun v N => HeapE M v N ∧ DrawN M p t o bs (a + 180) N := by
  obtain ⟨⟨_, _, _, hpl'⟩, hB, _⟩ := id h
  have hpl := hpl'.lt
  have htM := hB.lt
  refine callsR_run K.spec_l1Cur_hollow rfl ?_
  simp (disch := omega) only [C.spec_l1Cur_hollow, ↓SXd, SXu, slBounds, ↓sop, ↓aop, ↓reduceIte, LV.cells, AOp.dst, LV.I, LV.B, LV.U, LV.S, LV.nil, Nat.reduceEqDiff, Nat.reduceAdd, Nat.reduceMul, Nat.reduceSub, Nat.reduceLeDiff, Nat.reduceBEq, Nat.reduceDiv, Nat.reduceMod, Int.reduceToNat, Int.reduceLT, Int.reduceLE, Int.reduceAdd, Int.reduceSub, Int.reduceMul, Int.reduceEq, Int.reduceNeg, reduceCtorEq, resV, resAll, ARes.ev, LV.flat, ite_true, ite_false, exists_eq_left', exists_eq_left, keyOf, implies_true, fillC, capOf]
  refine callR_of (d_one (h.pre (Pre.app _ _)) (by omega)) ?_
  rintro _ N1 ⟨⟨b, rfl⟩, hd1⟩
  have b2 : Live N1 M.length (.row [.I 0, .I 0, .I 0, .nil] true 0) := hd1.live Live.new (by omega)
  have hD1 : DrawN M p t o bs (a + 2) N1 := DrawN.of_pre (Pre.app _ _) hd1
  cases b with
  | true =>
    simp (disch := omega) only [↓SXd, SXu, slBounds, ↓sop, ↓aop, ↓reduceIte, LV.cells, AOp.dst, LV.I, LV.B, LV.U, LV.S, LV.nil, Nat.reduceEqDiff, Nat.reduceAdd, Nat.reduceMul, Nat.reduceSub, Nat.reduceLeDiff, Nat.reduceBEq, Nat.reduceDiv, Nat.reduceMod, Int.reduceToNat, Int.reduceLT, Int.reduceLE, Int.reduceAdd, Int.reduceSub, Int.reduceMul, Int.reduceEq, Int.reduceNeg, reduceCtorEq, resV, resAll, ARes.ev, LV.flat, ite_true, ite_false, exists_eq_left', exists_eq_left, keyOf, implies_true, fillC, capOf]
    refine callR_of (d_heapE hD1.1 (by omega)) ?_
    rintro _ N2 ⟨⟨x, y, z, cs, u, rfl, hu, hul, hcl⟩, hd2⟩
    have c2 := hd2.live b2 (by omega)
    have hD2 := hD1.trans hd2
    have hN1 := hD1.2.1
    have hb2l := b2.lt
    have hN2 := hd2.2.1
    simp (disch := omega) only [↓SXd, SXu, slBounds, ↓sop, ↓aop, ↓reduceIte, LV.cells, AOp.dst, LV.I, LV.B, LV.U, LV.S, LV.nil, Nat.reduceEqDiff, Nat.reduceAdd, Nat.reduceMul, Nat.reduceSub, Nat.reduceLeDiff, Nat.reduceBEq, Nat.reduceDiv, Nat.reduceMod, Int.reduceToNat, Int.reduceLT, Int.reduceLE, Int.reduceAdd, Int.reduceSub, Int.reduceMul, Int.reduceEq, Int.reduceNeg, reduceCtorEq, resV, resAll, ARes.ev, LV.flat, ite_true, ite_false, exists_eq_left', exists_eq_left, keyOf, implies_true, fillC, capOf]
    refine memK_box c2 (by simp) fun N3 k1 k2 k3 => ?_
    simp (disch := omega) only [k2.cells, ↓SXd, SXu, slBounds, ↓sop, ↓aop, ↓reduceIte, LV.cells, AOp.dst, LV.I, LV.B, LV.U, LV.S, LV.nil, Nat.reduceEqDiff, Nat.reduceAdd, Nat.reduceMul, Nat.reduceSub, Nat.reduceLeDiff, Nat.reduceBEq, Nat.reduceDiv, Nat.reduceMod, Int.reduceToNat, Int.reduceLT, Int.reduceLE, Int.reduceAdd, Int.reduceSub, Int.reduceMul, Int.reduceEq, Int.reduceNeg, reduceCtorEq, resV, resAll, ARes.ev, LV.flat, ite_true, ite_false, exists_eq_left', exists_eq_left, keyOf, implies_true, fillC, capOf]
    refine ⟨⟨x, y, z, cs, u, rfl, live_step hu (by omega) k3, by omega, hcl⟩, ?_⟩
    exact (hD2.keep (N' := N3) hpl htM (by omega) (by omega) fun q q1 => k3 q (by omega) (by omega))
  | false =>
  simp (disch := omega) only [↓SXd, SXu, slBounds, ↓sop, ↓aop, ↓reduceIte, LV.cells, AOp.dst, LV.I, LV.B, LV.U, LV.S, LV.nil, Nat.reduceEqDiff, Nat.reduceAdd, Nat.reduceMul, Nat.reduceSub, Nat.reduceLeDiff, Nat.reduceBEq, Nat.reduceDiv, Nat.reduceMod, Int.reduceToNat, Int.reduceLT, Int.reduceLE, Int.reduceAdd, Int.reduceSub, Int.reduceMul, Int.reduceEq, Int.reduceNeg, reduceCtorEq, resV, resAll, ARes.ev, LV.flat, ite_true, ite_false, exists_eq_left', exists_eq_left, keyOf, implies_true, fillC, capOf]
  have hcb : ∀ {b : Int}, b ∈ [(3 : Int), 4, 3] → 3 ≤ b ∧ b ≤ 4 := fun {b} hb => by
    simp only [List.mem_cons, List.mem_nil_iff, or_false] at hb
    omega
  have hb2l := b2.lt
  refine callR_of (d_amongNew (xs := [3, 4, 3]) hD1.1 (by omega) (by simp) (by simp)) ?_
  rintro _ N2 ⟨⟨x, rfl, hx⟩, hd2⟩
  have c2 := hd2.live b2 (by omega)
  have hD2 := hD1.trans hd2
  have hx := hcb hx
  simp (disch := omega) only [↓SXd, SXu, slBounds, ↓sop, ↓aop, ↓reduceIte, LV.cells, AOp.dst, LV.I, LV.B, LV.U, LV.S, LV.nil, Nat.reduceEqDiff, Nat.reduceAdd, Nat.reduceMul, Nat.reduceSub, Nat.reduceLeDiff, Nat.reduceBEq, Nat.reduceDiv, Nat.reduceMod, Int.reduceToNat, Int.reduceLT, Int.reduceLE, Int.reduceAdd, Int.reduceSub, Int.reduceMul, Int.reduceEq, Int.reduceNeg, reduceCtorEq, resV, resAll, ARes.ev, LV.flat, ite_true, ite_false, exists_eq_left', exists_eq_left, keyOf, implies_true, fillC, capOf]
  refine callR_of (d_amongNew (xs := [3, 4, 3]) hD2.1 (by omega) (by simp) (by simp)) ?_
  rintro _ N3 ⟨⟨y, rfl, hy⟩, hd3⟩
  have d2 := hd3.live c2 (by omega)
  have hD3 := hD2.trans hd3
  have hy := hcb hy
  simp (disch := omega) only [↓SXd, SXu, slBounds, ↓sop, ↓aop, ↓reduceIte, LV.cells, AOp.dst, LV.I, LV.B, LV.U, LV.S, LV.nil, Nat.reduceEqDiff, Nat.reduceAdd, Nat.reduceMul, Nat.reduceSub, Nat.reduceLeDiff, Nat.reduceBEq, Nat.reduceDiv, Nat.reduceMod, Int.reduceToNat, Int.reduceLT, Int.reduceLE, Int.reduceAdd, Int.reduceSub, Int.reduceMul, Int.reduceEq, Int.reduceNeg, reduceCtorEq, resV, resAll, ARes.ev, LV.flat, ite_true, ite_false, exists_eq_left', exists_eq_left, keyOf, implies_true, fillC, capOf]
  refine callR_of (d_amongNew (xs := [3, 4, 3]) hD3.1 (by omega) (by simp) (by simp)) ?_
  rintro _ N4 ⟨⟨z, rfl, hz⟩, hd4⟩
  have e2 := hd4.live d2 (by omega)
  have hD4 := hD3.trans hd4
  have hz := hcb hz
  have hS : Sides x y z := ⟨⟨by omega, by omega⟩, ⟨by omega, by omega⟩, ⟨by omega, by omega⟩⟩
  clear b2 c2 d2 hd2 hd3 hd4 hD1 hD2 hD3 hd1 hcb
  simp (disch := omega) only [↓SXd, SXu, slBounds, ↓sop, ↓aop, ↓reduceIte, LV.cells, AOp.dst, LV.I, LV.B, LV.U, LV.S, LV.nil, Nat.reduceEqDiff, Nat.reduceAdd, Nat.reduceMul, Nat.reduceSub, Nat.reduceLeDiff, Nat.reduceBEq, Nat.reduceDiv, Nat.reduceMod, Int.reduceToNat, Int.reduceLT, Int.reduceLE, Int.reduceAdd, Int.reduceSub, Int.reduceMul, Int.reduceEq, Int.reduceNeg, reduceCtorEq, resV, resAll, ARes.ev, LV.flat, ite_true, ite_false, exists_eq_left', exists_eq_left, keyOf, implies_true, fillC, capOf]
  refine callR_of (h_l2Box hS) ?_
  rintro _ N5 ⟨⟨u, rfl, hu, hul⟩, hp5⟩
  have hcl : (cellsOf x y z).length ≤ 65 := by
    have := vol_cast hS
    have : (cellsOf x y z).length = vol x y z := by simp [cellsOf]
    omega
  generalize cellsOf x y z = cs at hu hcl ⊢
  have hN4 := hD4.2.1
  have f2 := e2.pre hp5
  have hD5 : DrawN M p t o bs (a + 8) N5 := hD4.keep hpl htM (by omega) hp5.1 fun q q1 => hp5.2 q (by omega)
  have hN5 := hp5.1
  have hu5 := hu.lt
  simp (disch := omega) only [splice, ↓SXd, SXu, slBounds, ↓sop, ↓aop, ↓reduceIte, LV.cells, AOp.dst, LV.I, LV.B, LV.U, LV.S, LV.nil, Nat.reduceEqDiff, Nat.reduceAdd, Nat.reduceMul, Nat.reduceSub, Nat.reduceLeDiff, Nat.reduceBEq, Nat.reduceDiv, Nat.reduceMod, Int.reduceToNat, Int.reduceLT, Int.reduceLE, Int.reduceAdd, Int.reduceSub, Int.reduceMul, Int.reduceEq, Int.reduceNeg, reduceCtorEq, resV, resAll, ARes.ev, LV.flat, ite_true, ite_false, exists_eq_left', exists_eq_left, keyOf, implies_true, fillC, capOf]
  have c3 : Live (N5 ++ [some (.row [.I x, .I y, .I z, .ref u 0 cs.length] true 0)]) N5.length (.row [.I x, .I y, .I z, .ref u 0 cs.length] true 0) := Live.new
  have c2 := f2.app (L := [some (.row [.I x, .I y, .I z, .ref u 0 cs.length] true 0)])
  have cu := hu.app (L := [some (.row [.I x, .I y, .I z, .ref u 0 cs.length] true 0)])
  have hD6 : DrawN M p t o bs (a + 8) (N5 ++ [some (.row [.I x, .I y, .I z, .ref u 0 cs.length] true 0)]) := hD5.keep hpl htM (Nat.le_refl _) (by simp) fun q q1 => List.getElem?_append_left (by omega)
  generalize hm3 : N5.length = m3 at c3 ⊢
  generalize N5 ++ [some (Blk.row [.I x, .I y, .I z, .ref u 0 cs.length] true 0)] = N6 at c3 c2 cu hD6 ⊢
  have hmm : M.length < m3 := by have := e2.lt; omega
  have hum : M.length < u := by have := e2.lt; omega
  have hune : u ≠ m3 := by omega
  clear f2 hu hD5 hD4 e2 hp5 hul hN4 hN5 hu5 hm3
  refine callR_of (d_pick hD6.1 (by omega)) ?_
  rintro _ N7 ⟨⟨n, rfl, hn⟩, hd7⟩
  have hn5 : n < 5 := by omega
  have e2 := hd7.live c2 (by omega)
  have e3 := hd7.live c3 (by omega)
  have eu := hd7.live cu (by omega)
  have hD7 := hD6.trans hd7
  clear c2 c3 cu hD6 hd7
  simp (disch := omega) only [↓SXd, SXu, slBounds, ↓sop, ↓aop, ↓reduceIte, LV.cells, AOp.dst, LV.I, LV.B, LV.U, LV.S, LV.nil, Nat.reduceEqDiff, Nat.reduceAdd, Nat.reduceMul, Nat.reduceSub, Nat.reduceLeDiff, Nat.reduceBEq, Nat.reduceDiv, Nat.reduceMod, Int.reduceToNat, Int.reduceLT, Int.reduceLE, Int.reduceAdd, Int.reduceSub, Int.reduceMul, Int.reduceEq, Int.reduceNeg, reduceCtorEq, resV, resAll, ARes.ev, LV.flat, ite_true, ite_false, exists_eq_left', exists_eq_left, keyOf, implies_true, fillC, capOf]
  refine ev_loop (fun m fr N => ∃ (a' u : Nat) (cs : List Cell), a' + 10 * m ≤ a + 60 ∧ DrawN M p t o bs a' N ∧ Live N M.length (.row [.I 0, .I 0, .I 0, .nil] true 0) ∧ Live N m3 (.row [.I x, .I y, .I z, .ref u 0 cs.length] true 0) ∧ Live N u (.row (triL cs) true 3) ∧ cs.length ≤ 65 ∧ M.length < u ∧ u ≠ m3 ∧
    fr 0 = .ptr p 0 ∧ fr 2 = .ptr M.length 0 ∧ fr 3 = .ptr m3 0 ∧ fr 4 = .I m) n
    ⟨a + 10, u, cs, by omega, hD7, e2, e3, eu, hcl, hum, hune, rfl, rfl, rfl, rfl⟩ ?_
  clear e2 e3 eu hcl hum hune hD7
  rintro m fr N ⟨a', u, cs, ha', hD, b2, b3, bu, hcl, hum, hune, f0, f2, f3, f4⟩
  simp (disch := omega) only [f0, f2, f3, f4, ↓SXd, SXu, slBounds, ↓sop, ↓aop, ↓reduceIte, LV.cells, AOp.dst, LV.I, LV.B, LV.U, LV.S, LV.nil, Nat.reduceEqDiff, Nat.reduceAdd, Nat.reduceMul, Nat.reduceSub, Nat.reduceLeDiff, Nat.reduceBEq, Nat.reduceDiv, Nat.reduceMod, Int.reduceToNat, Int.reduceLT, Int.reduceLE, Int.reduceAdd, Int.reduceSub, Int.reduceMul, Int.reduceEq, Int.reduceNeg, reduceCtorEq, resV, resAll, ARes.ev, LV.flat, ite_true, ite_false, exists_eq_left', exists_eq_left, keyOf, implies_true, fillC, capOf]
  refine condC_dec (fun hlt => ?_) (fun hlt => ?_)
  · obtain ⟨m, rfl⟩ : ∃ k, m = k + 1 := ⟨m - 1, by omega⟩
    have hNl := hD.2.1
    have hb2l := b2.lt
    have hb3l := b3.lt
    have hbul := bu.lt
    simp (disch := omega) only [f0, f2, f3, f4, b3.cell, ↓SXd, SXu, slBounds, ↓sop, ↓aop, ↓reduceIte, LV.cells, AOp.dst, LV.I, LV.B, LV.U, LV.S, LV.nil, Nat.reduceEqDiff, Nat.reduceAdd, Nat.reduceMul, Nat.reduceSub, Nat.reduceLeDiff, Nat.reduceBEq, Nat.reduceDiv, Nat.reduceMod, Int.reduceToNat, Int.reduceLT, Int.reduceLE, Int.reduceAdd, Int.reduceSub, Int.reduceMul, Int.reduceEq, Int.reduceNeg, reduceCtorEq, resV, resAll, ARes.ev, LV.flat, ite_true, ite_false, exists_eq_left', exists_eq_left, keyOf, implies_true, fillC, capOf]
    have hD0 : DrawN M p t o bs a' (N ++ [none]) := hD.keep hpl htM (Nat.le_refl _) (by simp) fun q q1 => List.getElem?_append_left (by omega)
    refine callR_of (d_pick hD0.1 (by omega)) ?_
    rintro _ P1 ⟨⟨i1, rfl, hi1⟩, hd1⟩
    have hP1 := hd1.2.1
    rw [List.length_append, List.length_singleton] at hP1
    have g2 := hd1.live (b2.app (L := [none])) (by omega)
    have g3 := hd1.live (b3.app (L := [none])) (by omega)
    have gu := hd1.live (bu.app (L := [none])) (by omega)
    have hDa := (hD0.trans hd1).setN (k := N.length) (v := none) hpl htM (by omega)
    simp (disch := omega) only [f0, f2, f3, f4, List.set_set, ↓SXd, SXu, slBounds, ↓sop, ↓aop, ↓reduceIte, LV.cells, AOp.dst, LV.I, LV.B, LV.U, LV.S, LV.nil, Nat.reduceEqDiff, Nat.reduceAdd, Nat.reduceMul, Nat.reduceSub, Nat.reduceLeDiff, Nat.reduceBEq, Nat.reduceDiv, Nat.reduceMod, Int.reduceToNat, Int.reduceLT, Int.reduceLE, Int.reduceAdd, Int.reduceSub, Int.reduceMul, Int.reduceEq, Int.reduceNeg, reduceCtorEq, resV, resAll, ARes.ev, LV.flat, ite_true, ite_false, exists_eq_left', exists_eq_left, keyOf, implies_true, fillC, capOf]
    refine ⟨Live.only b3.app (g3.setN (by omega)), ?_⟩
    refine callR_of (d_pick hDa.1 (by omega)) ?_
    rintro _ P2 ⟨⟨i2, rfl, hi2⟩, hd2⟩
    have hP2 := hd2.2.1
    rw [List.length_set] at hP2
    have h2 := hd2.live (g2.setN (k := N.length) (v := none) (by omega)) (by omega)
    have h3 := hd2.live (g3.setN (k := N.length) (v := none) (by omega)) (by omega)
    have hu := hd2.live (gu.setN (k := N.length) (v := none) (by omega)) (by omega)
    have hDb := (hDa.trans hd2).setN (k := N.length) (v := none) hpl htM (by omega)
    have q1 : (P1.set N.length (some (Blk.row [LV.I 0, .I 0, .I 0] true 0)))[N.length]? = some (some (Blk.row [LV.I 0, .I 0, .I 0] true 0)) := List.getElem?_set_self (by omega)
    simp (disch := omega) only [f0, f2, f3, f4, List.set_set, q1, ↓SXd, SXu, slBounds, ↓sop, ↓aop, ↓reduceIte, LV.cells, AOp.dst, LV.I, LV.B, LV.U, LV.S, LV.nil, Nat.reduceEqDiff, Nat.reduceAdd, Nat.reduceMul, Nat.reduceSub, Nat.reduceLeDiff, Nat.reduceBEq, Nat.reduceDiv, Nat.reduceMod, Int.reduceToNat, Int.reduceLT, Int.reduceLE, Int.reduceAdd, Int.reduceSub, Int.reduceMul, Int.reduceEq, Int.reduceNeg, reduceCtorEq, resV, resAll, ARes.ev, LV.flat, ite_true, ite_false, exists_eq_left', exists_eq_left, keyOf, implies_true, fillC, capOf]
    refine ⟨Live.only (g3.setN (by omega)) (h3.setN (by omega)), ?_⟩
    refine callR_of (d_pick hDb.1 (by omega)) ?_
    rintro _ P3 ⟨⟨i3, rfl, hi3⟩, hd3⟩
    have hP3 := hd3.2.1
    rw [List.length_set] at hP3
    have j2 := (hd3.live (h2.setN (k := N.length) (v := none) (by omega)) (by omega)).setN (k := N.length) (v := (some (.row [.I 0, .I 0, .I 0] true 0))) (by omega)
    have j3 := (hd3.live (h3.setN (k := N.length) (v := none) (by omega)) (by omega)).setN (k := N.length) (v := (some (.row [.I 0, .I 0, .I 0] true 0))) (by omega)
    have ju := (hd3.live (hu.setN (k := N.length) (v := none) (by omega)) (by omega)).setN (k := N.length) (v := (some (.row [.I 0, .I 0, .I 0] true 0))) (by omega)
    have j5 : Live (P3.set N.length (some (.row [.I 0, .I 0, .I 0] true 0))) N.length (.row [.I 0, .I 0, .I 0] true 0) := Live.set_at (by omega)
    have hDc := (hDb.trans hd3).setN (k := N.length) (v := (some (.row [.I 0, .I 0, .I 0] true 0))) hpl htM (by omega)
    have q2 : (P2.set N.length (some (Blk.row [LV.I 0, .I 0, .I 0] true 0)))[N.length]? = some (some (Blk.row [LV.I 0, .I 0, .I 0] true 0)) := List.getElem?_set_self (by omega)
    simp (disch := omega) only [f0, f2, f3, f4, List.set_set, q2, splice, ↓SXd, SXu, slBounds, ↓sop, ↓aop, ↓reduceIte, LV.cells, AOp.dst, LV.I, LV.B, LV.U, LV.S, LV.nil, Nat.reduceEqDiff, Nat.reduceAdd, Nat.reduceMul, Nat.reduceSub, Nat.reduceLeDiff, Nat.reduceBEq, Nat.reduceDiv, Nat.reduceMod, Int.reduceToNat, Int.reduceLT, Int.reduceLE, Int.reduceAdd, Int.reduceSub, Int.reduceMul, Int.reduceEq, Int.reduceNeg, reduceCtorEq, resV, resAll, ARes.ev, LV.flat, ite_true, ite_false, exists_eq_left', exists_eq_left, keyOf, implies_true, fillC, capOf]
    generalize P3.set N.length (some (Blk.row [.I 0, .I 0, .I 0] true 0)) = P4 at j2 j3 ju j5 hDc ⊢
    generalize 1 + (i1 : Int) = c1
    generalize 1 + (i2 : Int) = c2
    generalize 1 + (i3 : Int) = c3
    have hP4 := hDc.2.1
    have j5l := j5.lt
    refine memK_box j5 (by simp) fun P5 k1 k2 k3 => ?_
    have l2 := live_step j2 (by omega) k3
    have l3 := live_step j3 (by omega) k3
    have lu := live_step ju (by omega) k3
    have hDd := hDc.keepV (w := N.length) hpl htM (by omega) (by omega) k3
    generalize hmk : N.length = mk at k2 j5l hNl hb2l hb3l hbul
    clear hd1 hd2 hd3 hDa hDb hDc hD0 hD b2 b3 bu g2 g3 gu h2 h3 hu j2 j3 ju j5 q1 q2 hmk k3 hP1 hP2 hP3
    have hmkP : mk < P5.length := by omega
    have l3l := l3.lt
    have lul := lu.lt
    have hfl : (cs.filter fun d => !decide (d = ⟨c1, c2, c3⟩)).length ≤ cs.length := List.length_filter_le _ _
    simp (disch := omega) only [f0, f2, f3, f4, l3.cells, k2.cells, ↓SXd, SXu, slBounds, ↓sop, ↓aop, ↓reduceIte, LV.cells, AOp.dst, LV.I, LV.B, LV.U, LV.S, LV.nil, Nat.reduceEqDiff, Nat.reduceAdd, Nat.reduceMul, Nat.reduceSub, Nat.reduceLeDiff, Nat.reduceBEq, Nat.reduceDiv, Nat.reduceMod, Int.reduceToNat, Int.reduceLT, Int.reduceLE, Int.reduceAdd, Int.reduceSub, Int.reduceMul, Int.reduceEq, Int.reduceNeg, reduceCtorEq, resV, resAll, ARes.ev, LV.flat, ite_true, ite_false, exists_eq_left', exists_eq_left, keyOf, implies_true, fillC, capOf]
    refine callK_of (h_l2Without lu.has (by omega)) ?_
    generalize (cs.filter fun d => !decide (d = ⟨c1, c2, c3⟩)) = cs1 at hfl ⊢
    simp (disch := omega) only [f0, f2, f3, f4, ↓SXd, SXu, slBounds, ↓sop, ↓aop, ↓reduceIte, LV.cells, AOp.dst, LV.I, LV.B, LV.U, LV.S, LV.nil, Nat.reduceEqDiff, Nat.reduceAdd, Nat.reduceMul, Nat.reduceSub, Nat.reduceLeDiff, Nat.reduceBEq, Nat.reduceDiv, Nat.reduceMod, Int.reduceToNat, Int.reduceLT, Int.reduceLE, Int.reduceAdd, Int.reduceSub, Int.reduceMul, Int.reduceEq, Int.reduceNeg, reduceCtorEq, resV, resAll, ARes.ev, LV.flat, ite_true, ite_false, exists_eq_left', exists_eq_left, keyOf, implies_true, fillC, capOf]
    refine memK_box l3.app (by simp) fun P6 r1 r2 r3 => ?_
    rw [List.length_append, List.length_singleton] at r1
    have n2 := live_step l2.app (by omega) r3
    have n5 := live_step k2.app (by omega) r3
    have nu : Live P6 P5.length (.row (triL cs1) true 3) := live_step Live.new (by omega) r3
    have hDe : DrawN M p t o bs (a' + 2 + 2 + 2) P6 := (hDd.keep (N' := P5 ++ [some (.row (triL cs1) true 3)]) hpl htM (Nat.le_refl _) (by simp) fun q hq => List.getElem?_append_left (by have := hDd.2.1; omega)).keepV (w := m3) hpl htM (by omega) (by rw [List.length_append, List.length_singleton]; omega) r3
    have hP5l := hDd.2.1
    clear l2 l3 lu k2 r3 hDd l3l lul k1
    generalize hu1 : P5.length = u1 at r2 nu r1 hP5l hmkP
    have hu1m : M.length < u1 := by omega
    have hu1k : mk < u1 := by omega
    have hu1n : m3 < u1 := by omega
    clear hu1
    simp (disch := omega) only [f0, f2, f3, f4, ↓SXd, SXu, slBounds, ↓sop, ↓aop, ↓reduceIte, LV.cells, AOp.dst, LV.I, LV.B, LV.U, LV.S, LV.nil, Nat.reduceEqDiff, Nat.reduceAdd, Nat.reduceMul, Nat.reduceSub, Nat.reduceLeDiff, Nat.reduceBEq, Nat.reduceDiv, Nat.reduceMod, Int.reduceToNat, Int.reduceLT, Int.reduceLE, Int.reduceAdd, Int.reduceSub, Int.reduceMul, Int.reduceEq, Int.reduceNeg, reduceCtorEq, resV, resAll, ARes.ev, LV.flat, ite_true, ite_false, exists_eq_left', exists_eq_left, keyOf, implies_true, fillC, capOf]
    refine callR_of (d_one hDe.1 (by omega)) ?_
    rintro _ P7 ⟨⟨b, rfl⟩, hd7⟩
    have s2 := hd7.live n2 (by omega)
    have s3 := hd7.live r2 (by omega)
    have s5 := hd7.live n5 (by omega)
    have su := hd7.live nu (by omega)
    have hDf := hDe.trans hd7
    clear n2 r2 n5 nu hd7 hDe
    cases b with
    | false =>
      simp (disch := omega) only [f0, f2, f3, f4, ↓SXd, SXu, slBounds, ↓sop, ↓aop, ↓reduceIte, LV.cells, AOp.dst, LV.I, LV.B, LV.U, LV.S, LV.nil, Nat.reduceEqDiff, Nat.reduceAdd, Nat.reduceMul, Nat.reduceSub, Nat.reduceLeDiff, Nat.reduceBEq, Nat.reduceDiv, Nat.reduceMod, Int.reduceToNat, Int.reduceLT, Int.reduceLE, Int.reduceAdd, Int.reduceSub, Int.reduceMul, Int.reduceEq, Int.reduceNeg, reduceCtorEq, resV, resAll, ARes.ev, LV.flat, ite_true, ite_false, exists_eq_left', exists_eq_left, keyOf, implies_true, fillC, capOf]
      exact ⟨m, by omega, a' + 2 + 2 + 2 + 2, u1, cs1, by omega, hDf, s2, s3, su, by omega, hu1m, by omega, f0, f2, f3, eqI (by omega)⟩
    | true =>
    simp (disch := omega) only [f0, f2, f3, f4, ↓SXd, SXu, slBounds, ↓sop, ↓aop, ↓reduceIte, LV.cells, AOp.dst, LV.I, LV.B, LV.U, LV.S, LV.nil, Nat.reduceEqDiff, Nat.reduceAdd, Nat.reduceMul, Nat.reduceSub, Nat.reduceLeDiff, Nat.reduceBEq, Nat.reduceDiv, Nat.reduceMod, Int.reduceToNat, Int.reduceLT, Int.reduceLE, Int.reduceAdd, Int.reduceSub, Int.reduceMul, Int.reduceEq, Int.reduceNeg, reduceCtorEq, resV, resAll, ARes.ev, LV.flat, ite_true, ite_false, exists_eq_left', exists_eq_left, keyOf, implies_true, fillC, capOf]
    refine callR_of (d_pick hDf.1 (by omega)) ?_
    rintro _ P8 ⟨⟨sd, rfl, hsd⟩, hd8⟩
    have t2 := hd8.live s2 (by omega)
    have t3 := hd8.live s3 (by omega)
    have t5 := hd8.live s5 (by omega)
    have tu := hd8.live su (by omega)
    have hDg := hDf.trans hd8
    clear s2 s3 s5 su hd8 hDf
    have hsd3 : sd < 3 := by omega
    have hdir : Dir (sd : Int) := by unfold Dir; omega
    have hsid := sideOf_in hS (sd : Int)
    generalize hA : (sd : Int) = sI at hdir hsid ⊢
    simp (disch := omega) only [f0, f2, f3, f4, ↓SXd, SXu, slBounds, ↓sop, ↓aop, ↓reduceIte, LV.cells, AOp.dst, LV.I, LV.B, LV.U, LV.S, LV.nil, Nat.reduceEqDiff, Nat.reduceAdd, Nat.reduceMul, Nat.reduceSub, Nat.reduceLeDiff, Nat.reduceBEq, Nat.reduceDiv, Nat.reduceMod, Int.reduceToNat, Int.reduceLT, Int.reduceLE, Int.reduceAdd, Int.reduceSub, Int.reduceMul, Int.reduceEq, Int.reduceNeg, reduceCtorEq, resV, resAll, ARes.ev, LV.flat, ite_true, ite_false, exists_eq_left', exists_eq_left, keyOf, implies_true, fillC, capOf]
    refine ev_loop (fun m' fr N => ∃ (k u : Nat) (cs : List Cell) (e1 e2 e3 : Int), k + m' = 5 ∧ DrawN M p t o bs (a' + 2 + 2 + 2 + 2 + 2) N ∧ Live N M.length (.row [.I 0, .I 0, .I 0, .nil] true 0) ∧ Live N m3 (.row [.I x, .I y, .I z, .ref u 0 cs.length] true 0) ∧ Live N u (.row (triL cs) true 3) ∧ Live N mk (.row [.I e1, .I e2, .I e3] true 0) ∧ cs.length ≤ 65 ∧ M.length < u ∧ m3 < u ∧ mk < u ∧
      fr 0 = .ptr p 0 ∧ fr 2 = .ptr M.length 0 ∧ fr 3 = .ptr m3 0 ∧ fr 4 = .I (m + 1 : Nat) ∧ fr 5 = .ptr mk 0 ∧ fr 6 = .I sI ∧ fr 7 = .I k) 5
      ⟨0, u1, cs1, c1, c2, c3, rfl, hDg, t2, t3, tu, t5, by omega, hu1m, hu1n, hu1k, f0, f2, f3, f4, rfl, rfl, rfl⟩ ?_
    clear t2 t3 tu t5 hDg hu1m hu1n hu1k hfl f0 f2 f3 f4
    rintro m' fr Q ⟨k, u, cs, e1, e2, e3, hk, hD, b2, b3, bu, b5, hcl, hu1, hu2, hu3, f0, f2, f3, f4, f5, f6, f7⟩
    simp (disch := omega) only [f0, f2, f3, f4, f5, f6, f7, b3.cells, ↓SXd, SXu, slBounds, ↓sop, ↓aop, ↓reduceIte, LV.cells, AOp.dst, LV.I, LV.B, LV.U, LV.S, LV.nil, Nat.reduceEqDiff, Nat.reduceAdd, Nat.reduceMul, Nat.reduceSub, Nat.reduceLeDiff, Nat.reduceBEq, Nat.reduceDiv, Nat.reduceMod, Int.reduceToNat, Int.reduceLT, Int.reduceLE, Int.reduceAdd, Int.reduceSub, Int.reduceMul, Int.reduceEq, Int.reduceNeg, reduceCtorEq, resV, resAll, ARes.ev, LV.flat, ite_true, ite_false, exists_eq_left', exists_eq_left, keyOf, implies_true, fillC, capOf]
    refine callK_of (h_l2Long hdir) ?_
    simp (disch := omega) only [f0, f2, f3, f4, f5, f6, f7, ↓SXd, SXu, slBounds, ↓sop, ↓aop, ↓reduceIte, LV.cells, AOp.dst, LV.I, LV.B, LV.U, LV.S, LV.nil, Nat.reduceEqDiff, Nat.reduceAdd, Nat.reduceMul, Nat.reduceSub, Nat.reduceLeDiff, Nat.reduceBEq, Nat.reduceDiv, Nat.reduceMod, Int.reduceToNat, Int.reduceLT, Int.reduceLE, Int.reduceAdd, Int.reduceSub, Int.reduceMul, Int.reduceEq, Int.reduceNeg, reduceCtorEq, resV, resAll, ARes.ev, LV.flat, ite_true, ite_false, exists_eq_left', exists_eq_left, keyOf, implies_true, fillC, capOf]
    refine condC_dec (fun hlt2 => ?_) (fun hlt2 => ?_)
    · have hk4 : k < 4 := by omega
      have hb3l := b3.lt
      have hb5l := b5.lt
      have hbul := bu.lt
      have hQ := hD.2.1
      subst hA
      simp (disch := omega) only [f0, f2, f3, f4, f5, f6, f7, ↓SXd, SXu, slBounds, ↓sop, ↓aop, ↓reduceIte, LV.cells, AOp.dst, LV.I, LV.B, LV.U, LV.S, LV.nil, Nat.reduceEqDiff, Nat.reduceAdd, Nat.reduceMul, Nat.reduceSub, Nat.reduceLeDiff, Nat.reduceBEq, Nat.reduceDiv, Nat.reduceMod, Int.reduceToNat, Int.reduceLT, Int.reduceLE, Int.reduceAdd, Int.reduceSub, Int.reduceMul, Int.reduceEq, Int.reduceNeg, reduceCtorEq, resV, resAll, ARes.ev, LV.flat, ite_true, ite_false, exists_eq_left', exists_eq_left, keyOf, implies_true, fillC, capOf]
      refine memK_at b5 (show sd < 3 by omega) fun Q1 k1 k2 k3 => ?_
      have b2 := live_step b2 (by omega) k3
      have b3 := live_step b3 (by omega) k3
      have bu := live_step bu (by omega) k3
      have hD1 := hD.keepV (w := mk) hpl htM (by omega) (by omega) k3
      obtain ⟨g1, g2, g3, hg⟩ : ∃ g1 g2 g3 : Int, [LV.I e1, .I e2, .I e3].set sd (.I (k : Int)) = [.I g1, .I g2, .I g3] := by
        rcases (show sd = 0 ∨ sd = 1 ∨ sd = 2 by omega) with rfl | rfl | rfl
        · exact ⟨_, _, _, rfl⟩
        · exact ⟨_, _, _, rfl⟩
        · exact ⟨_, _, _, rfl⟩
      rw [hg] at k2
      clear b5 k3 hD
      have hfl : (cs.filter fun d => !decide (d = ⟨g1, g2, g3⟩)).length ≤ cs.length := List.length_filter_le _ _
      simp (disch := omega) only [f0, f2, f3, f4, f5, f6, f7, b3.cells, k2.cells, ↓SXd, SXu, slBounds, ↓sop, ↓aop, ↓reduceIte, LV.cells, AOp.dst, LV.I, LV.B, LV.U, LV.S, LV.nil, Nat.reduceEqDiff, Nat.reduceAdd, Nat.reduceMul, Nat.reduceSub, Nat.reduceLeDiff, Nat.reduceBEq, Nat.reduceDiv, Nat.reduceMod, Int.reduceToNat, Int.reduceLT, Int.reduceLE, Int.reduceAdd, Int.reduceSub, Int.reduceMul, Int.reduceEq, Int.reduceNeg, reduceCtorEq, resV, resAll, ARes.ev, LV.flat, ite_true, ite_false, exists_eq_left', exists_eq_left, keyOf, implies_true, fillC, capOf]
      refine callK_of (h_l2Without bu.has (by omega)) ?_
      generalize (cs.filter fun d => !decide (d = ⟨g1, g2, g3⟩)) = cs2 at hfl ⊢
      simp (disch := omega) only [f0, f2, f3, f4, f5, f6, f7, ↓SXd, SXu, slBounds, ↓sop, ↓aop, ↓reduceIte, LV.cells, AOp.dst, LV.I, LV.B, LV.U, LV.S, LV.nil, Nat.reduceEqDiff, Nat.reduceAdd, Nat.reduceMul, Nat.reduceSub, Nat.reduceLeDiff, Nat.reduceBEq, Nat.reduceDiv, Nat.reduceMod, Int.reduceToNat, Int.reduceLT, Int.reduceLE, Int.reduceAdd, Int.reduceSub, Int.reduceMul, Int.reduceEq, Int.reduceNeg, reduceCtorEq, resV, resAll, ARes.ev, LV.flat, ite_true, ite_false, exists_eq_left', exists_eq_left, keyOf, implies_true, fillC, capOf]
      refine memK_box b3.app (by simp) fun Q2 r1 r2 r3 => ?_
      rw [List.length_append, List.length_singleton] at r1
      have n2 := live_step b2.app (by omega) r3
      have n5 := live_step k2.app (by omega) r3
      have nu : Live Q2 Q1.length (.row (triL cs2) true 3) := live_step Live.new (by omega) r3
      have hD2 : DrawN M p t o bs (a' + 2 + 2 + 2 + 2 + 2) Q2 := (hD1.keep (N' := Q1 ++ [some (.row (triL cs2) true 3)]) hpl htM (Nat.le_refl _) (by simp) fun q hq => List.getElem?_append_left (by omega)).keepV (w := m3) hpl htM (by omega) (by rw [List.length_append, List.length_singleton]; omega) r3
      simp (disch := omega) only [f0, f2, f3, f4, f5, f6, f7, ↓SXd, SXu, slBounds, ↓sop, ↓aop, ↓reduceIte, LV.cells, AOp.dst, LV.I, LV.B, LV.U, LV.S, LV.nil, Nat.reduceEqDiff, Nat.reduceAdd, Nat.reduceMul, Nat.reduceSub, Nat.reduceLeDiff, Nat.reduceBEq, Nat.reduceDiv, Nat.reduceMod, Int.reduceToNat, Int.reduceLT, Int.reduceLE, Int.reduceAdd, Int.reduceSub, Int.reduceMul, Int.reduceEq, Int.reduceNeg, reduceCtorEq, resV, resAll, ARes.ev, LV.flat, ite_true, ite_false, exists_eq_left', exists_eq_left, keyOf, implies_true, fillC, capOf]
      exact ⟨m' - 1, by omega, k + 1, Q1.length, cs2, g1, g2, g3, by omega, hD2, n2, r2, nu, n5, by omega, by omega, by omega, by omega, f0, f2, f3, f4, f5, f6, eqI (natI _)⟩
    · simp (disch := omega) only [f0, f2, f3, f4, f5, f6, f7, ↓SXd, SXu, slBounds, ↓sop, ↓aop, ↓reduceIte, LV.cells, AOp.dst, LV.I, LV.B, LV.U, LV.S, LV.nil, Nat.reduceEqDiff, Nat.reduceAdd, Nat.reduceMul, Nat.reduceSub, Nat.reduceLeDiff, Nat.reduceBEq, Nat.reduceDiv, Nat.reduceMod, Int.reduceToNat, Int.reduceLT, Int.reduceLE, Int.reduceAdd, Int.reduceSub, Int.reduceMul, Int.reduceEq, Int.reduceNeg, reduceCtorEq, resV, resAll, ARes.ev, LV.flat, ite_true, ite_false, exists_eq_left', exists_eq_left, keyOf, implies_true, fillC, capOf]
      exact ⟨m, by omega, a' + 2 + 2 + 2 + 2 + 2, u, cs, by omega, hD, b2, b3, bu, hcl, hu1, by omega, f0, f2, f3, eqI (by omega)⟩
  · simp (disch := omega) only [f0, f2, f3, f4, b3.cells, ↓SXd, SXu, slBounds, ↓sop, ↓aop, ↓reduceIte, LV.cells, AOp.dst, LV.I, LV.B, LV.U, LV.S, LV.nil, Nat.reduceEqDiff, Nat.reduceAdd, Nat.reduceMul, Nat.reduceSub, Nat.reduceLeDiff, Nat.reduceBEq, Nat.reduceDiv, Nat.reduceMod, Int.reduceToNat, Int.reduceLT, Int.reduceLE, Int.reduceAdd, Int.reduceSub, Int.reduceMul, Int.reduceEq, Int.reduceNeg, reduceCtorEq, resV, resAll, ARes.ev, LV.flat, ite_true, ite_false, exists_eq_left', exists_eq_left, keyOf, implies_true, fillC, capOf]
    refine memK_box b2 (by simp) fun N3 k1 k2 k3 => ?_
    simp (disch := omega) only [f0, f2, f3, f4, k2.cells, ↓SXd, SXu, slBounds, ↓sop, ↓aop, ↓reduceIte, LV.cells, AOp.dst, LV.I, LV.B, LV.U, LV.S, LV.nil, Nat.reduceEqDiff, Nat.reduceAdd, Nat.reduceMul, Nat.reduceSub, Nat.reduceLeDiff, Nat.reduceBEq, Nat.reduceDiv, Nat.reduceMod, Int.reduceToNat, Int.reduceLT, Int.reduceLE, Int.reduceAdd, Int.reduceSub, Int.reduceMul, Int.reduceEq, Int.reduceNeg, reduceCtorEq, resV, resAll, ARes.ev, LV.flat, ite_true, ite_false, exists_eq_left', exists_eq_left, keyOf, implies_true, fillC, capOf]
    have hNl := hD.2.1
    refine ⟨⟨x, y, z, cs, u, rfl, live_step bu (by omega) k3, by omega, hcl⟩, ?_⟩
    exact (hD.keep (N' := N3) hpl htM (by omega) (by omega) fun q q1 => k3 q (by omega) (by omega))
section
variable {t o : Nat} {bs : List Nat} {M : Mem} (hB : Bytes M t o bs) (h255 : ∀ b ∈ bs, b ≤ 255) (hl : bs.length ≤ 1000000000)
include hB h255 hl
theorem d_DrawBareFaces : CallsR PG F.spec_DrawBareFaces [.ref t o bs.length] M fun v N => HeapE M v N ∧ Pre M N := by
  have htM := hB.lt
  refine callsR_run K.spec_DrawBareFaces rfl ?_
  simp (disch := omega) only [C.spec_DrawBareFaces, splice, ↓SXd, SXu, slBounds, ↓sop, ↓aop, ↓reduceIte, LV.cells, AOp.dst, LV.I, LV.B, LV.U, LV.S, LV.nil, Nat.reduceEqDiff, Nat.reduceAdd, Nat.reduceMul, Nat.reduceSub, Nat.reduceLeDiff, Nat.reduceBEq, Nat.reduceDiv, Nat.reduceMod, Int.reduceToNat, Int.reduceLT, Int.reduceLE, Int.reduceAdd, Int.reduceSub, Int.reduceMul, Int.reduceEq, Int.reduceNeg, reduceCtorEq, resV, resAll, ARes.ev, LV.flat, ite_true, ite_false, exists_eq_left', exists_eq_left, keyOf, implies_true, fillC, capOf]
  have hc := CurAt.new2 (b := some (.row [.I 0, .I 0, .I 0, .nil] true 0)) hB h255 hl
  refine callR_of (d_hollow hc (by omega)) ?_
  rintro _ N1 ⟨⟨x, y, z, cs, u, rfl, hu, hul, hcl⟩, hd1⟩
  rw [List.length_append] at hul
  simp only [List.length_cons, List.length_nil] at hul
  have b2 : Live N1 M.length (.row [.I 0, .I 0, .I 0, .nil] true 0) := hd1.live Live.new (by omega)
  have hP1 : Pre M N1 := hd1.pre (Pre.app _ _) (by omega)
  simp (disch := omega) only [↓SXd, SXu, slBounds, ↓sop, ↓aop, ↓reduceIte, LV.cells, AOp.dst, LV.I, LV.B, LV.U, LV.S, LV.nil, Nat.reduceEqDiff, Nat.reduceAdd, Nat.reduceMul, Nat.reduceSub, Nat.reduceLeDiff, Nat.reduceBEq, Nat.reduceDiv, Nat.reduceMod, Int.reduceToNat, Int.reduceLT, Int.reduceLE, Int.reduceAdd, Int.reduceSub, Int.reduceMul, Int.reduceEq, Int.reduceNeg, reduceCtorEq, resV, resAll, ARes.ev, LV.flat, ite_true, ite_false, exists_eq_left', exists_eq_left, keyOf, implies_true, fillC, capOf]
  refine memK_box b2 (by simp) fun N5 i1 i2 i3 => ?_
  simp (disch := omega) only [i2.cells, ↓SXd, SXu, slBounds, ↓sop, ↓aop, ↓reduceIte, LV.cells, AOp.dst, LV.I, LV.B, LV.U, LV.S, LV.nil, Nat.reduceEqDiff, Nat.reduceAdd, Nat.reduceMul, Nat.reduceSub, Nat.reduceLeDiff, Nat.reduceBEq, Nat.reduceDiv, Nat.reduceMod, Int.reduceToNat, Int.reduceLT, Int.reduceLE, Int.reduceAdd, Int.reduceSub, Int.reduceMul, Int.reduceEq, Int.reduceNeg, reduceCtorEq, resV, resAll, ARes.ev, LV.flat, ite_true, ite_false, exists_eq_left', exists_eq_left, keyOf, implies_true, fillC, capOf]
  exact ⟨⟨x, y, z, cs, u, rfl, live_step hu (by omega) i3, by omega, hcl⟩, pre_step hP1 (by omega) (j := 0) i1 i3⟩
end
end Go.Ab

namespace Go.Ab
open Go
set_option maxRecDepth 20000

noncomputable def cluOf (x y z : Int) (cs : List Cell) : Option (List (List Cell)) := by
  classical
  exact if HeapOK x y z cs then some (clus x y z 65 fun c => decide (c ∈ cs)) else none
noncomputable def bcOf (x y z : Int) (cs : List Cell) : List Int := by
  classical
  exact if HeapOK x y z cs then countsOf x y z cs else [0, 0, 0, 0]
noncomputable def eulOf (x y z : Int) (cs : List Cell) : Int := by
  classical
  exact if HeapOK x y z cs then eulerOf x y z cs else 0
noncomputable def hpB (x y z : Int) (cs : List Cell) : Bool := by
  classical
  exact decide (HeapOK x y z cs)
section
variable {x y z : Int} {t : Nat} {w : Bool} {cs : List Cell} {M : Mem} (h0 : Live M t (.row (triL cs) w 3)) (hn : cs.length ≤ 1000000000)
include h0 hn
theorem g_ClustersOf : CallsR PG F.impl_ClustersOf [.agg [.I x, .I y, .I z, .ref t 0 cs.length]] M (CssRes M (cluOf x y z cs)) := by
  have h : Tri M t 0 cs := h0.has
  refine callsR_run K.impl_ClustersOf rfl ?_
  simp (disch := omega) only [C.impl_ClustersOf, ↓SXd, SXu, slBounds, ↓sop, ↓aop, ↓reduceIte, LV.cells, AOp.dst, LV.I, LV.B, LV.U, LV.S, LV.nil, Nat.reduceEqDiff, Nat.reduceAdd, Nat.reduceMul, Nat.reduceSub, Nat.reduceLeDiff, Nat.reduceBEq, Nat.reduceDiv, Nat.reduceMod, Int.reduceToNat, Int.reduceLT, Int.reduceLE, Int.reduceAdd, Int.reduceSub, Int.reduceMul, Int.reduceEq, Int.reduceNeg, reduceCtorEq, resV, resAll, ARes.ev, LV.flat, ite_true, ite_false, exists_eq_left', exists_eq_left, keyOf, implies_true, fillC, capOf]
  refine callK_of (g_IsHeap h.app hn) ?_
  simp (disch := omega) only [↓SXd, SXu, slBounds, ↓sop, ↓aop, ↓reduceIte, LV.cells, AOp.dst, LV.I, LV.B, LV.U, LV.S, LV.nil, Nat.reduceEqDiff, Nat.reduceAdd, Nat.reduceMul, Nat.reduceSub, Nat.reduceLeDiff, Nat.reduceBEq, Nat.reduceDiv, Nat.reduceMod, Int.reduceToNat, Int.reduceLT, Int.reduceLE, Int.reduceAdd, Int.reduceSub, Int.reduceMul, Int.reduceEq, Int.reduceNeg, reduceCtorEq, resV, resAll, ARes.ev, LV.flat, ite_true, ite_false, exists_eq_left', exists_eq_left, keyOf, implies_true, fillC, capOf]
  unfold cluOf
  by_cases hH : HeapOK x y z cs
  · have hS := hH.1
    rw [if_pos hH]
    simp (disch := omega) only [hH, ↓SXd, SXu, slBounds, ↓sop, ↓aop, ↓reduceIte, LV.cells, AOp.dst, LV.I, LV.B, LV.U, LV.S, LV.nil, Nat.reduceEqDiff, Nat.reduceAdd, Nat.reduceMul, Nat.reduceSub, Nat.reduceLeDiff, Nat.reduceBEq, Nat.reduceDiv, Nat.reduceMod, Int.reduceToNat, Int.reduceLT, Int.reduceLE, Int.reduceAdd, Int.reduceSub, Int.reduceMul, Int.reduceEq, Int.reduceNeg, reduceCtorEq, resV, resAll, ARes.ev, LV.flat, ite_true, ite_false, exists_eq_left', exists_eq_left, keyOf, implies_true, fillC, capOf]
    refine callK_of (g_box) ?_
    simp (disch := omega) only [↓SXd, SXu, slBounds, ↓sop, ↓aop, ↓reduceIte, LV.cells, AOp.dst, LV.I, LV.B, LV.U, LV.S, LV.nil, Nat.reduceEqDiff, Nat.reduceAdd, Nat.reduceMul, Nat.reduceSub, Nat.reduceLeDiff, Nat.reduceBEq, Nat.reduceDiv, Nat.reduceMod, Int.reduceToNat, Int.reduceLT, Int.reduceLE, Int.reduceAdd, Int.reduceSub, Int.reduceMul, Int.reduceEq, Int.reduceNeg, reduceCtorEq, resV, resAll, ARes.ev, LV.flat, ite_true, ite_false, exists_eq_left', exists_eq_left, keyOf, implies_true, fillC, capOf]
    refine callN_of (g_clusters hS h.app hn (fun c hc => hH.mem hc)) ?_
    intro tn N2 htn hp2 hnr
    simp (disch := omega) only [↓SXd, SXu, slBounds, ↓sop, ↓aop, ↓reduceIte, LV.cells, AOp.dst, LV.I, LV.B, LV.U, LV.S, LV.nil, Nat.reduceEqDiff, Nat.reduceAdd, Nat.reduceMul, Nat.reduceSub, Nat.reduceLeDiff, Nat.reduceBEq, Nat.reduceDiv, Nat.reduceMod, Int.reduceToNat, Int.reduceLT, Int.reduceLE, Int.reduceAdd, Int.reduceSub, Int.reduceMul, Int.reduceEq, Int.reduceNeg, reduceCtorEq, resV, resAll, ARes.ev, LV.flat, ite_true, ite_false, exists_eq_left', exists_eq_left, keyOf, implies_true, fillC, capOf]
    have hl := clus_len (x := x) (y := y) (z := z) 65 fun c => decide (c ∈ cs)
    refine callR_of (g_lists hS hnr (by omega) (clus_pick hS)) ?_
    rintro v N ⟨h1, h2⟩
    have hv : (∃ a b c, v = .ref a b c) ∨ v = .nil := by
      rcases h1 with ⟨rfl, _⟩ | ⟨u, refs, rfl, _⟩
      · exact .inr rfl
      · exact .inl ⟨_, _, _, rfl⟩
    rcases hv with ⟨a, b, c, rfl⟩ | rfl
    all_goals
      simp (disch := omega) only [↓SXd, SXu, slBounds, ↓sop, ↓aop, ↓reduceIte, LV.cells, AOp.dst, LV.I, LV.B, LV.U, LV.S, LV.nil, Nat.reduceEqDiff, Nat.reduceAdd, Nat.reduceMul, Nat.reduceSub, Nat.reduceLeDiff, Nat.reduceBEq, Nat.reduceDiv, Nat.reduceMod, Int.reduceToNat, Int.reduceLT, Int.reduceLE, Int.reduceAdd, Int.reduceSub, Int.reduceMul, Int.reduceEq, Int.reduceNeg, reduceCtorEq, resV, resAll, ARes.ev, LV.flat, ite_true, ite_false, exists_eq_left', exists_eq_left, keyOf, implies_true, fillC, capOf]
      exact ⟨_, rfl, h1.mono ((Pre.app _ _).trans hp2), ((Pre.app _ _).trans hp2).trans h2⟩
  · rw [if_neg hH]
    simp (disch := omega) only [hH, ↓SXd, SXu, slBounds, ↓sop, ↓aop, ↓reduceIte, LV.cells, AOp.dst, LV.I, LV.B, LV.U, LV.S, LV.nil, Nat.reduceEqDiff, Nat.reduceAdd, Nat.reduceMul, Nat.reduceSub, Nat.reduceLeDiff, Nat.reduceBEq, Nat.reduceDiv, Nat.reduceMod, Int.reduceToNat, Int.reduceLT, Int.reduceLE, Int.reduceAdd, Int.reduceSub, Int.reduceMul, Int.reduceEq, Int.reduceNeg, reduceCtorEq, resV, resAll, ARes.ev, LV.flat, ite_true, ite_false, exists_eq_left', exists_eq_left, keyOf, implies_true, fillC, capOf]
    exact ⟨_, rfl, SlCC.nil, Pre.app _ _⟩
theorem h_sClustersOf : CallsR PG F.spec_ClustersOf [.agg [.I x, .I y, .I z, .ref t 0 cs.length]] M (CssRes M (cluOf x y z cs)) := by
  refine callsR_run K.spec_ClustersOf rfl ?_
  simp (disch := omega) only [C.spec_ClustersOf, ↓SXd, SXu, slBounds, ↓sop, ↓aop, ↓reduceIte, LV.cells, AOp.dst, LV.I, LV.B, LV.U, LV.S, LV.nil, Nat.reduceEqDiff, Nat.reduceAdd, Nat.reduceMul, Nat.reduceSub, Nat.reduceLeDiff, Nat.reduceBEq, Nat.reduceDiv, Nat.reduceMod, Int.reduceToNat, Int.reduceLT, Int.reduceLE, Int.reduceAdd, Int.reduceSub, Int.reduceMul, Int.reduceEq, Int.reduceNeg, reduceCtorEq, resV, resAll, ARes.ev, LV.flat, ite_true, ite_false, exists_eq_left', exists_eq_left, keyOf, implies_true, fillC, capOf]
  refine callK_of (h_l2Heap (Has.app h0.has) hn) ?_
  simp (disch := omega) only [↓SXd, SXu, slBounds, ↓sop, ↓aop, ↓reduceIte, LV.cells, AOp.dst, LV.I, LV.B, LV.U, LV.S, LV.nil, Nat.reduceEqDiff, Nat.reduceAdd, Nat.reduceMul, Nat.reduceSub, Nat.reduceLeDiff, Nat.reduceBEq, Nat.reduceDiv, Nat.reduceMod, Int.reduceToNat, Int.reduceLT, Int.reduceLE, Int.reduceAdd, Int.reduceSub, Int.reduceMul, Int.reduceEq, Int.reduceNeg, reduceCtorEq, resV, resAll, ARes.ev, LV.flat, ite_true, ite_false, exists_eq_left', exists_eq_left, keyOf, implies_true, fillC, capOf]
  unfold cluOf
  by_cases hH : HeapOK x y z cs
  · rw [if_pos hH]
    simp (disch := omega) only [hH, ↓SXd, SXu, slBounds, ↓sop, ↓aop, ↓reduceIte, LV.cells, AOp.dst, LV.I, LV.B, LV.U, LV.S, LV.nil, Nat.reduceEqDiff, Nat.reduceAdd, Nat.reduceMul, Nat.reduceSub, Nat.reduceLeDiff, Nat.reduceBEq, Nat.reduceDiv, Nat.reduceMod, Int.reduceToNat, Int.reduceLT, Int.reduceLE, Int.reduceAdd, Int.reduceSub, Int.reduceMul, Int.reduceEq, Int.reduceNeg, reduceCtorEq, resV, resAll, ARes.ev, LV.flat, ite_true, ite_false, exists_eq_left', exists_eq_left, keyOf, implies_true, fillC, capOf]
    refine callR_of (h_l6Clusters h0.app hH) ?_
    rintro _ N ⟨u, refs, rfl, hu, hL, hcss, hp⟩
    rw [List.length_append, List.length_singleton] at hu hcss
    simp (disch := omega) only [↓SXd, SXu, slBounds, ↓sop, ↓aop, ↓reduceIte, LV.cells, AOp.dst, LV.I, LV.B, LV.U, LV.S, LV.nil, Nat.reduceEqDiff, Nat.reduceAdd, Nat.reduceMul, Nat.reduceSub, Nat.reduceLeDiff, Nat.reduceBEq, Nat.reduceDiv, Nat.reduceMod, Int.reduceToNat, Int.reduceLT, Int.reduceLE, Int.reduceAdd, Int.reduceSub, Int.reduceMul, Int.reduceEq, Int.reduceNeg, reduceCtorEq, resV, resAll, ARes.ev, LV.flat, ite_true, ite_false, exists_eq_left', exists_eq_left, keyOf, implies_true, fillC, capOf]
    exact ⟨_, rfl, SlCC.of (by omega) (by omega) hL hcss, (Pre.app _ _).trans hp⟩
  · rw [if_neg hH]
    simp (disch := omega) only [hH, ↓SXd, SXu, slBounds, ↓sop, ↓aop, ↓reduceIte, LV.cells, AOp.dst, LV.I, LV.B, LV.U, LV.S, LV.nil, Nat.reduceEqDiff, Nat.reduceAdd, Nat.reduceMul, Nat.reduceSub, Nat.reduceLeDiff, Nat.reduceBEq, Nat.reduceDiv, Nat.reduceMod, Int.reduceToNat, Int.reduceLT, Int.reduceLE, Int.reduceAdd, Int.reduceSub, Int.reduceMul, Int.reduceEq, Int.reduceNeg, reduceCtorEq, resV, resAll, ARes.ev, LV.flat, ite_true, ite_false, exists_eq_left', exists_eq_left, keyOf, implies_true, fillC, capOf]
    exact ⟨_, rfl, SlCC.of (u := M.length + 1) (lo := M.length) (hi := M.length) (refs := []) (by omega) (Nat.le_refl _) (Live.newj (j := 1) rfl) trivial, Pre.app _ _⟩
theorem g_BodyCounts : CallsTo PG F.impl_BodyCounts [.agg [.I x, .I y, .I z, .ref t 0 cs.length]] M (.tup [.agg (intL (bcOf x y z cs)), .B (hpB x y z cs)]) M := by
  have h : Tri M t 0 cs := h0.has
  refine calls_run K.impl_BodyCounts rfl ?_
  simp (disch := omega) only [C.impl_BodyCounts, ↓SXd, SXu, slBounds, ↓sop, ↓aop, ↓reduceIte, LV.cells, AOp.dst, LV.I, LV.B, LV.U, LV.S, LV.nil, Nat.reduceEqDiff, Nat.reduceAdd, Nat.reduceMul, Nat.reduceSub, Nat.reduceLeDiff, Nat.reduceBEq, Nat.reduceDiv, Nat.reduceMod, Int.reduceToNat, Int.reduceLT, Int.reduceLE, Int.reduceAdd, Int.reduceSub, Int.reduceMul, Int.reduceEq, Int.reduceNeg, reduceCtorEq, resV, resAll, ARes.ev, LV.flat, ite_true, ite_false, exists_eq_left', exists_eq_left, keyOf, implies_true, fillC, capOf]
  refine callK_of (g_IsHeap h.app hn) ?_
  simp (disch := omega) only [↓SXd, SXu, slBounds, ↓sop, ↓aop, ↓reduceIte, LV.cells, AOp.dst, LV.I, LV.B, LV.U, LV.S, LV.nil, Nat.reduceEqDiff, Nat.reduceAdd, Nat.reduceMul, Nat.reduceSub, Nat.reduceLeDiff, Nat.reduceBEq, Nat.reduceDiv, Nat.reduceMod, Int.reduceToNat, Int.reduceLT, Int.reduceLE, Int.reduceAdd, Int.reduceSub, Int.reduceMul, Int.reduceEq, Int.reduceNeg, reduceCtorEq, resV, resAll, ARes.ev, LV.flat, ite_true, ite_false, exists_eq_left', exists_eq_left, keyOf, implies_true, fillC, capOf]
  unfold bcOf hpB
  by_cases hH : HeapOK x y z cs
  · rw [if_pos hH, decide_eq_true hH]
    have hc := counts_four (cs := cs) hH.1
    have hcall := fun {Z : Mem} (k : Pre M Z) => g_counts (h.pre k) hH
    generalize countsOf x y z cs = out at hc hcall
    obtain ⟨n0, n1, n2, n3, rfl⟩ : ∃ a b c d, out = [a, b, c, d] := by
      match out, hc.1 with
      | [a, b, c, d], _ => exact ⟨a, b, c, d, rfl⟩
    simp (disch := omega) only [hH, ↓SXd, SXu, slBounds, ↓sop, ↓aop, ↓reduceIte, LV.cells, AOp.dst, LV.I, LV.B, LV.U, LV.S, LV.nil, Nat.reduceEqDiff, Nat.reduceAdd, Nat.reduceMul, Nat.reduceSub, Nat.reduceLeDiff, Nat.reduceBEq, Nat.reduceDiv, Nat.reduceMod, Int.reduceToNat, Int.reduceLT, Int.reduceLE, Int.reduceAdd, Int.reduceSub, Int.reduceMul, Int.reduceEq, Int.reduceNeg, reduceCtorEq, resV, resAll, ARes.ev, LV.flat, ite_true, ite_false, exists_eq_left', exists_eq_left, keyOf, implies_true, fillC, capOf]
    refine callK_of (hcall (Pre.app _ _)) ?_
    change putK _ _ _ (LV.agg [.I n0, .I n1, .I n2, .I n3]) _
    simp (disch := omega) only [splice, ↓SXd, SXu, slBounds, ↓sop, ↓aop, ↓reduceIte, LV.cells, AOp.dst, LV.I, LV.B, LV.U, LV.S, LV.nil, Nat.reduceEqDiff, Nat.reduceAdd, Nat.reduceMul, Nat.reduceSub, Nat.reduceLeDiff, Nat.reduceBEq, Nat.reduceDiv, Nat.reduceMod, Int.reduceToNat, Int.reduceLT, Int.reduceLE, Int.reduceAdd, Int.reduceSub, Int.reduceMul, Int.reduceEq, Int.reduceNeg, reduceCtorEq, resV, resAll, ARes.ev, LV.flat, ite_true, ite_false, exists_eq_left', exists_eq_left, keyOf, implies_true, fillC, capOf]
    exact cmp_pre (Pre.app _ _) rfl
  · rw [if_neg hH, decide_eq_false hH]
    simp (disch := omega) only [hH, splice, fillC, ↓SXd, SXu, slBounds, ↓sop, ↓aop, ↓reduceIte, LV.cells, AOp.dst, LV.I, LV.B, LV.U, LV.S, LV.nil, Nat.reduceEqDiff, Nat.reduceAdd, Nat.reduceMul, Nat.reduceSub, Nat.reduceLeDiff, Nat.reduceBEq, Nat.reduceDiv, Nat.reduceMod, Int.reduceToNat, Int.reduceLT, Int.reduceLE, Int.reduceAdd, Int.reduceSub, Int.reduceMul, Int.reduceEq, Int.reduceNeg, reduceCtorEq, resV, resAll, ARes.ev, LV.flat, ite_true, ite_false, exists_eq_left', exists_eq_left, keyOf, implies_true, fillC, capOf]
    exact cmp_pre (Pre.app _ _) rfl
theorem h_sBodyCounts : CallsTo PG F.spec_BodyCounts [.agg [.I x, .I y, .I z, .ref t 0 cs.length]] M (.tup [.agg (intL (bcOf x y z cs)), .B (hpB x y z cs)]) M := by
  have h : Tri M t 0 cs := h0.has
  refine calls_run K.spec_BodyCounts rfl ?_
  simp (disch := omega) only [C.spec_BodyCounts, ↓SXd, SXu, slBounds, ↓sop, ↓aop, ↓reduceIte, LV.cells, AOp.dst, LV.I, LV.B, LV.U, LV.S, LV.nil, Nat.reduceEqDiff, Nat.reduceAdd, Nat.reduceMul, Nat.reduceSub, Nat.reduceLeDiff, Nat.reduceBEq, Nat.reduceDiv, Nat.reduceMod, Int.reduceToNat, Int.reduceLT, Int.reduceLE, Int.reduceAdd, Int.reduceSub, Int.reduceMul, Int.reduceEq, Int.reduceNeg, reduceCtorEq, resV, resAll, ARes.ev, LV.flat, ite_true, ite_false, exists_eq_left', exists_eq_left, keyOf, implies_true, fillC, capOf]
  refine callK_of (h_l2Heap h.app hn) ?_
  simp (disch := omega) only [↓SXd, SXu, slBounds, ↓sop, ↓aop, ↓reduceIte, LV.cells, AOp.dst, LV.I, LV.B, LV.U, LV.S, LV.nil, Nat.reduceEqDiff, Nat.reduceAdd, Nat.reduceMul, Nat.reduceSub, Nat.reduceLeDiff, Nat.reduceBEq, Nat.reduceDiv, Nat.reduceMod, Int.reduceToNat, Int.reduceLT, Int.reduceLE, Int.reduceAdd, Int.reduceSub, Int.reduceMul, Int.reduceEq, Int.reduceNeg, reduceCtorEq, resV, resAll, ARes.ev, LV.flat, ite_true, ite_false, exists_eq_left', exists_eq_left, keyOf, implies_true, fillC, capOf]
  unfold bcOf hpB
  by_cases hH : HeapOK x y z cs
  · rw [if_pos hH, decide_eq_true hH]
    have hc := counts_four (cs := cs) hH.1
    have hcall := fun {Z : Mem} (k : Pre M Z) => h_l6Counts (h.pre k) hH
    generalize countsOf x y z cs = out at hc hcall
    obtain ⟨n0, n1, n2, n3, rfl⟩ : ∃ a b c d, out = [a, b, c, d] := by
      match out, hc.1 with
      | [a, b, c, d], _ => exact ⟨a, b, c, d, rfl⟩
    simp (disch := omega) only [hH, ↓SXd, SXu, slBounds, ↓sop, ↓aop, ↓reduceIte, LV.cells, AOp.dst, LV.I, LV.B, LV.U, LV.S, LV.nil, Nat.reduceEqDiff, Nat.reduceAdd, Nat.reduceMul, Nat.reduceSub, Nat.reduceLeDiff, Nat.reduceBEq, Nat.reduceDiv, Nat.reduceMod, Int.reduceToNat, Int.reduceLT, Int.reduceLE, Int.reduceAdd, Int.reduceSub, Int.reduceMul, Int.reduceEq, Int.reduceNeg, reduceCtorEq, resV, resAll, ARes.ev, LV.flat, ite_true, ite_false, exists_eq_left', exists_eq_left, keyOf, implies_true, fillC, capOf]
    refine callK_of (hcall (Pre.app _ _)) ?_
    change putK _ _ _ (LV.agg [.I n0, .I n1, .I n2, .I n3]) _
    simp (disch := omega) only [splice, ↓SXd, SXu, slBounds, ↓sop, ↓aop, ↓reduceIte, LV.cells, AOp.dst, LV.I, LV.B, LV.U, LV.S, LV.nil, Nat.reduceEqDiff, Nat.reduceAdd, Nat.reduceMul, Nat.reduceSub, Nat.reduceLeDiff, Nat.reduceBEq, Nat.reduceDiv, Nat.reduceMod, Int.reduceToNat, Int.reduceLT, Int.reduceLE, Int.reduceAdd, Int.reduceSub, Int.reduceMul, Int.reduceEq, Int.reduceNeg, reduceCtorEq, resV, resAll, ARes.ev, LV.flat, ite_true, ite_false, exists_eq_left', exists_eq_left, keyOf, implies_true, fillC, capOf]
    exact cmp_pre (Pre.app _ _) rfl
  · rw [if_neg hH, decide_eq_false hH]
    simp (disch := omega) only [hH, splice, fillC, ↓SXd, SXu, slBounds, ↓sop, ↓aop, ↓reduceIte, LV.cells, AOp.dst, LV.I, LV.B, LV.U, LV.S, LV.nil, Nat.reduceEqDiff, Nat.reduceAdd, Nat.reduceMul, Nat.reduceSub, Nat.reduceLeDiff, Nat.reduceBEq, Nat.reduceDiv, Nat.reduceMod, Int.reduceToNat, Int.reduceLT, Int.reduceLE, Int.reduceAdd, Int.reduceSub, Int.reduceMul, Int.reduceEq, Int.reduceNeg, reduceCtorEq, resV, resAll, ARes.ev, LV.flat, ite_true, ite_false, exists_eq_left', exists_eq_left, keyOf, implies_true, fillC, capOf]
    exact cmp_pre (Pre.app _ _) rfl
theorem g_EulerNumber : CallsTo PG F.impl_EulerNumber [.agg [.I x, .I y, .I z, .ref t 0 cs.length]] M (.tup [.I (eulOf x y z cs), .B (hpB x y z cs)]) M := by
  have h : Tri M t 0 cs := h0.has
  refine calls_run K.impl_EulerNumber rfl ?_
  simp (disch := omega) only [C.impl_EulerNumber, ↓SXd, SXu, slBounds, ↓sop, ↓aop, ↓reduceIte, LV.cells, AOp.dst, LV.I, LV.B, LV.U, LV.S, LV.nil, Nat.reduceEqDiff, Nat.reduceAdd, Nat.reduceMul, Nat.reduceSub, Nat.reduceLeDiff, Nat.reduceBEq, Nat.reduceDiv, Nat.reduceMod, Int.reduceToNat, Int.reduceLT, Int.reduceLE, Int.reduceAdd, Int.reduceSub, Int.reduceMul, Int.reduceEq, Int.reduceNeg, reduceCtorEq, resV, resAll, ARes.ev, LV.flat, ite_true, ite_false, exists_eq_left', exists_eq_left, keyOf, implies_true, fillC, capOf]
  refine callK_of (g_IsHeap h.app hn) ?_
  simp (disch := omega) only [↓SXd, SXu, slBounds, ↓sop, ↓aop, ↓reduceIte, LV.cells, AOp.dst, LV.I, LV.B, LV.U, LV.S, LV.nil, Nat.reduceEqDiff, Nat.reduceAdd, Nat.reduceMul, Nat.reduceSub, Nat.reduceLeDiff, Nat.reduceBEq, Nat.reduceDiv, Nat.reduceMod, Int.reduceToNat, Int.reduceLT, Int.reduceLE, Int.reduceAdd, Int.reduceSub, Int.reduceMul, Int.reduceEq, Int.reduceNeg, reduceCtorEq, resV, resAll, ARes.ev, LV.flat, ite_true, ite_false, exists_eq_left', exists_eq_left, keyOf, implies_true, fillC, capOf]
  unfold eulOf hpB
  by_cases hH : HeapOK x y z cs
  · rw [if_pos hH, decide_eq_true hH]
    simp (disch := omega) only [hH, ↓SXd, SXu, slBounds, ↓sop, ↓aop, ↓reduceIte, LV.cells, AOp.dst, LV.I, LV.B, LV.U, LV.S, LV.nil, Nat.reduceEqDiff, Nat.reduceAdd, Nat.reduceMul, Nat.reduceSub, Nat.reduceLeDiff, Nat.reduceBEq, Nat.reduceDiv, Nat.reduceMod, Int.reduceToNat, Int.reduceLT, Int.reduceLE, Int.reduceAdd, Int.reduceSub, Int.reduceMul, Int.reduceEq, Int.reduceNeg, reduceCtorEq, resV, resAll, ARes.ev, LV.flat, ite_true, ite_false, exists_eq_left', exists_eq_left, keyOf, implies_true, fillC, capOf]
    refine callK_of (g_euler h.app hH) ?_
    simp (disch := omega) only [↓SXd, SXu, slBounds, ↓sop, ↓aop, ↓reduceIte, LV.cells, AOp.dst, LV.I, LV.B, LV.U, LV.S, LV.nil, Nat.reduceEqDiff, Nat.reduceAdd, Nat.reduceMul, Nat.reduceSub, Nat.reduceLeDiff, Nat.reduceBEq, Nat.reduceDiv, Nat.reduceMod, Int.reduceToNat, Int.reduceLT, Int.reduceLE, Int.reduceAdd, Int.reduceSub, Int.reduceMul, Int.reduceEq, Int.reduceNeg, reduceCtorEq, resV, resAll, ARes.ev, LV.flat, ite_true, ite_false, exists_eq_left', exists_eq_left, keyOf, implies_true, fillC, capOf]
    exact cmp_pre (Pre.app _ _) rfl
  · rw [if_neg hH, decide_eq_false hH]
    simp (disch := omega) only [hH, ↓SXd, SXu, slBounds, ↓sop, ↓aop, ↓reduceIte, LV.cells, AOp.dst, LV.I, LV.B, LV.U, LV.S, LV.nil, Nat.reduceEqDiff, Nat.reduceAdd, Nat.reduceMul, Nat.reduceSub, Nat.reduceLeDiff, Nat.reduceBEq, Nat.reduceDiv, Nat.reduceMod, Int.reduceToNat, Int.reduceLT, Int.reduceLE, Int.reduceAdd, Int.reduceSub, Int.reduceMul, Int.reduceEq, Int.reduceNeg, reduceCtorEq, resV, resAll, ARes.ev, LV.flat, ite_true, ite_false, exists_eq_left', exists_eq_left, keyOf, implies_true, fillC, capOf]
    exact cmp_drop rfl
theorem h_sEulerNumber : CallsTo PG F.spec_EulerNumber [.agg [.I x, .I y, .I z, .ref t 0 cs.length]] M (.tup [.I (eulOf x y z cs), .B (hpB x y z cs)]) M := by
  have h : Tri M t 0 cs := h0.has
  refine calls_run K.spec_EulerNumber rfl ?_
  simp (disch := omega) only [C.spec_EulerNumber, ↓SXd, SXu, slBounds, ↓sop, ↓aop, ↓reduceIte, LV.cells, AOp.dst, LV.I, LV.B, LV.U, LV.S, LV.nil, Nat.reduceEqDiff, Nat.reduceAdd, Nat.reduceMul, Nat.reduceSub, Nat.reduceLeDiff, Nat.reduceBEq, Nat.reduceDiv, Nat.reduceMod, Int.reduceToNat, Int.reduceLT, Int.reduceLE, Int.reduceAdd, Int.reduceSub, Int.reduceMul, Int.reduceEq, Int.reduceNeg, reduceCtorEq, resV, resAll, ARes.ev, LV.flat, ite_true, ite_false, exists_eq_left', exists_eq_left, keyOf, implies_true, fillC, capOf]
  refine callK_of (h_l2Heap h.app hn) ?_
  simp (disch := omega) only [↓SXd, SXu, slBounds, ↓sop, ↓aop, ↓reduceIte, LV.cells, AOp.dst, LV.I, LV.B, LV.U, LV.S, LV.nil, Nat.reduceEqDiff, Nat.reduceAdd, Nat.reduceMul, Nat.reduceSub, Nat.reduceLeDiff, Nat.reduceBEq, Nat.reduceDiv, Nat.reduceMod, Int.reduceToNat, Int.reduceLT, Int.reduceLE, Int.reduceAdd, Int.reduceSub, Int.reduceMul, Int.reduceEq, Int.reduceNeg, reduceCtorEq, resV, resAll, ARes.ev, LV.flat, ite_true, ite_false, exists_eq_left', exists_eq_left, keyOf, implies_true, fillC, capOf]
  unfold eulOf hpB
  by_cases hH : HeapOK x y z cs
  · rw [if_pos hH, decide_eq_true hH]
    simp (disch := omega) only [hH, ↓SXd, SXu, slBounds, ↓sop, ↓aop, ↓reduceIte, LV.cells, AOp.dst, LV.I, LV.B, LV.U, LV.S, LV.nil, Nat.reduceEqDiff, Nat.reduceAdd, Nat.reduceMul, Nat.reduceSub, Nat.reduceLeDiff, Nat.reduceBEq, Nat.reduceDiv, Nat.reduceMod, Int.reduceToNat, Int.reduceLT, Int.reduceLE, Int.reduceAdd, Int.reduceSub, Int.reduceMul, Int.reduceEq, Int.reduceNeg, reduceCtorEq, resV, resAll, ARes.ev, LV.flat, ite_true, ite_false, exists_eq_left', exists_eq_left, keyOf, implies_true, fillC, capOf]
    refine callK_of (h_l6Euler h.app hH) ?_
    simp (disch := omega) only [↓SXd, SXu, slBounds, ↓sop, ↓aop, ↓reduceIte, LV.cells, AOp.dst, LV.I, LV.B, LV.U, LV.S, LV.nil, Nat.reduceEqDiff, Nat.reduceAdd, Nat.reduceMul, Nat.reduceSub, Nat.reduceLeDiff, Nat.reduceBEq, Nat.reduceDiv, Nat.reduceMod, Int.reduceToNat, Int.reduceLT, Int.reduceLE, Int.reduceAdd, Int.reduceSub, Int.reduceMul, Int.reduceEq, Int.reduceNeg, reduceCtorEq, resV, resAll, ARes.ev, LV.flat, ite_true, ite_false, exists_eq_left', exists_eq_left, keyOf, implies_true, fillC, capOf]
    exact cmp_pre (Pre.app _ _) rfl
  · rw [if_neg hH, decide_eq_false hH]
    simp (disch := omega) only [hH, ↓SXd, SXu, slBounds, ↓sop, ↓aop, ↓reduceIte, LV.cells, AOp.dst, LV.I, LV.B, LV.U, LV.S, LV.nil, Nat.reduceEqDiff, Nat.reduceAdd, Nat.reduceMul, Nat.reduceSub, Nat.reduceLeDiff, Nat.reduceBEq, Nat.reduceDiv, Nat.reduceMod, Int.reduceToNat, Int.reduceLT, Int.reduceLE, Int.reduceAdd, Int.reduceSub, Int.reduceMul, Int.reduceEq, Int.reduceNeg, reduceCtorEq, resV, resAll, ARes.ev, LV.flat, ite_true, ite_false, exists_eq_left', exists_eq_left, keyOf, implies_true, fillC, capOf]
    exact cmp_drop rfl
theorem g_PartsOf (hH : HeapOK x y z cs) : CallsR PG F.impl_PartsOf [.agg [.I x, .I y, .I z, .ref t 0 cs.length]] M fun v N => ∃ u : Nat, v = .tup [.ref u 0 (parts x y z 65 fun c => decide (c ∈ cs)).length, .B true] ∧ Pre M N := by
  have h : Tri M t 0 cs := h0.has
  have hS := hH.1
  refine callsR_run K.impl_PartsOf rfl ?_
  simp (disch := omega) only [C.impl_PartsOf, ↓SXd, SXu, slBounds, ↓sop, ↓aop, ↓reduceIte, LV.cells, AOp.dst, LV.I, LV.B, LV.U, LV.S, LV.nil, Nat.reduceEqDiff, Nat.reduceAdd, Nat.reduceMul, Nat.reduceSub, Nat.reduceLeDiff, Nat.reduceBEq, Nat.reduceDiv, Nat.reduceMod, Int.reduceToNat, Int.reduceLT, Int.reduceLE, Int.reduceAdd, Int.reduceSub, Int.reduceMul, Int.reduceEq, Int.reduceNeg, reduceCtorEq, resV, resAll, ARes.ev, LV.flat, ite_true, ite_false, exists_eq_left', exists_eq_left, keyOf, implies_true, fillC, capOf]
  refine callK_of (g_IsHeap h.app hn) ?_
  simp (disch := omega) only [↓SXd, SXu, slBounds, ↓sop, ↓aop, ↓reduceIte, LV.cells, AOp.dst, LV.I, LV.B, LV.U, LV.S, LV.nil, Nat.reduceEqDiff, Nat.reduceAdd, Nat.reduceMul, Nat.reduceSub, Nat.reduceLeDiff, Nat.reduceBEq, Nat.reduceDiv, Nat.reduceMod, Int.reduceToNat, Int.reduceLT, Int.reduceLE, Int.reduceAdd, Int.reduceSub, Int.reduceMul, Int.reduceEq, Int.reduceNeg, reduceCtorEq, resV, resAll, ARes.ev, LV.flat, ite_true, ite_false, exists_eq_left', exists_eq_left, keyOf, implies_true, fillC, capOf]
  simp (disch := omega) only [hH, ↓SXd, SXu, slBounds, ↓sop, ↓aop, ↓reduceIte, LV.cells, AOp.dst, LV.I, LV.B, LV.U, LV.S, LV.nil, Nat.reduceEqDiff, Nat.reduceAdd, Nat.reduceMul, Nat.reduceSub, Nat.reduceLeDiff, Nat.reduceBEq, Nat.reduceDiv, Nat.reduceMod, Int.reduceToNat, Int.reduceLT, Int.reduceLE, Int.reduceAdd, Int.reduceSub, Int.reduceMul, Int.reduceEq, Int.reduceNeg, reduceCtorEq, resV, resAll, ARes.ev, LV.flat, ite_true, ite_false, exists_eq_left', exists_eq_left, keyOf, implies_true, fillC, capOf]
  refine callK_of (g_box) ?_
  simp (disch := omega) only [↓SXd, SXu, slBounds, ↓sop, ↓aop, ↓reduceIte, LV.cells, AOp.dst, LV.I, LV.B, LV.U, LV.S, LV.nil, Nat.reduceEqDiff, Nat.reduceAdd, Nat.reduceMul, Nat.reduceSub, Nat.reduceLeDiff, Nat.reduceBEq, Nat.reduceDiv, Nat.reduceMod, Int.reduceToNat, Int.reduceLT, Int.reduceLE, Int.reduceAdd, Int.reduceSub, Int.reduceMul, Int.reduceEq, Int.reduceNeg, reduceCtorEq, resV, resAll, ARes.ev, LV.flat, ite_true, ite_false, exists_eq_left', exists_eq_left, keyOf, implies_true, fillC, capOf]
  refine callK_of (g_cubes h.app hn hS (fun c hc => hH.mem hc)) ?_
  simp (disch := omega) only [↓SXd, SXu, slBounds, ↓sop, ↓aop, ↓reduceIte, LV.cells, AOp.dst, LV.I, LV.B, LV.U, LV.S, LV.nil, Nat.reduceEqDiff, Nat.reduceAdd, Nat.reduceMul, Nat.reduceSub, Nat.reduceLeDiff, Nat.reduceBEq, Nat.reduceDiv, Nat.reduceMod, Int.reduceToNat, Int.reduceLT, Int.reduceLE, Int.reduceAdd, Int.reduceSub, Int.reduceMul, Int.reduceEq, Int.reduceNeg, reduceCtorEq, resV, resAll, ARes.ev, LV.flat, ite_true, ite_false, exists_eq_left', exists_eq_left, keyOf, implies_true, fillC, capOf]
  refine callK_of (g_parts (q := fun c => decide (c ∈ cs)) hS) ?_
  have hPl := parts_len (x := x) (y := y) (z := z) 65 fun c => decide (c ∈ cs)
  have hPp := parts_pick hS (f := 65) (q := fun c => decide (c ∈ cs))
  generalize (parts x y z 65 fun c => decide (c ∈ cs)) = P at hPl hPp ⊢
  simp (disch := omega) only [↓SXd, SXu, slBounds, ↓sop, ↓aop, ↓reduceIte, LV.cells, AOp.dst, LV.I, LV.B, LV.U, LV.S, LV.nil, Nat.reduceEqDiff, Nat.reduceAdd, Nat.reduceMul, Nat.reduceSub, Nat.reduceLeDiff, Nat.reduceBEq, Nat.reduceDiv, Nat.reduceMod, Int.reduceToNat, Int.reduceLT, Int.reduceLE, Int.reduceAdd, Int.reduceSub, Int.reduceMul, Int.reduceEq, Int.reduceNeg, reduceCtorEq, resV, resAll, ARes.ev, LV.flat, ite_true, ite_false, exists_eq_left', exists_eq_left, keyOf, implies_true, fillC, capOf]
  refine ev_loop (fun m fr M' => ∃ (i u : Nat) (refs : List LV), i + m = P.length ∧ refs.length = i ∧ Pre M M' ∧ Live M' M.length (.row [.I x, .I y, .I z, .ref t 0 cs.length] true 0) ∧ Live M' (M.length + 2) (.row (setL x y z P) true 1) ∧ M.length + 1 ≤ u ∧ u ≠ M.length + 2 ∧ Live M' u (.row refs true 1) ∧
    fr 1 = .ptr M.length 0 ∧ fr 4 = .ref u 0 i ∧ fr 15 = .ref (M.length + 2) 0 P.length ∧ fr 16 = .I P.length ∧ fr 17 = .I i) P.length
    ⟨0, M.length + 1, [], by omega, rfl, Pre.app _ _, Live.new, Live.newj rfl, by omega, by omega, Live.newj rfl, rfl, rfl, rfl, rfl, rfl⟩ ?_
  rintro m fr M' ⟨i, u, refs, hi, hr, hpre, b1, b15, hu, hu2, bu, f1, f4, f15, f16, f17⟩
  simp (disch := omega) only [f1, f4, f15, f16, f17, ↓SXd, SXu, slBounds, ↓sop, ↓aop, ↓reduceIte, LV.cells, AOp.dst, LV.I, LV.B, LV.U, LV.S, LV.nil, Nat.reduceEqDiff, Nat.reduceAdd, Nat.reduceMul, Nat.reduceSub, Nat.reduceLeDiff, Nat.reduceBEq, Nat.reduceDiv, Nat.reduceMod, Int.reduceToNat, Int.reduceLT, Int.reduceLE, Int.reduceAdd, Int.reduceSub, Int.reduceMul, Int.reduceEq, Int.reduceNeg, reduceCtorEq, resV, resAll, ARes.ev, LV.flat, ite_true, ite_false, exists_eq_left', exists_eq_left, keyOf, implies_true, fillC, capOf]
  refine condC_dec (fun hlt => ?_) (fun hlt => ?_)
  rotate_left
  · have : i = P.length := by omega
    subst this
    simp (disch := omega) only [f1, f4, f15, f16, f17, ↓SXd, SXu, slBounds, ↓sop, ↓aop, ↓reduceIte, LV.cells, AOp.dst, LV.I, LV.B, LV.U, LV.S, LV.nil, Nat.reduceEqDiff, Nat.reduceAdd, Nat.reduceMul, Nat.reduceSub, Nat.reduceLeDiff, Nat.reduceBEq, Nat.reduceDiv, Nat.reduceMod, Int.reduceToNat, Int.reduceLT, Int.reduceLE, Int.reduceAdd, Int.reduceSub, Int.reduceMul, Int.reduceEq, Int.reduceNeg, reduceCtorEq, resV, resAll, ARes.ev, LV.flat, ite_true, ite_false, exists_eq_left', exists_eq_left, keyOf, implies_true, fillC, capOf]
    exact ⟨u, rfl, hpre⟩
  have hil : i < P.length := by omega
  have hg : getCell M' (M.length + 2) i = some (.W (bs x y z fun d => decide (d ∈ P.getD i []))) := by
    rw [b15.cell]
    unfold setL
    rw [List.getElem?_map, List.getElem?_eq_getElem hil]
    simp [List.getD_eq_getElem?_getD, hil]
  have hib : (i : Int) < (P.length : Nat) := by omega
  simp (disch := omega) only [f1, f4, f15, f16, f17, hg, hib, b1.cells, Nat.mul_one, Nat.zero_add, ↓SXd, SXu, slBounds, ↓sop, ↓aop, ↓reduceIte, LV.cells, AOp.dst, LV.I, LV.B, LV.U, LV.S, LV.nil, Nat.reduceEqDiff, Nat.reduceAdd, Nat.reduceMul, Nat.reduceSub, Nat.reduceLeDiff, Nat.reduceBEq, Nat.reduceDiv, Nat.reduceMod, Int.reduceToNat, Int.reduceLT, Int.reduceLE, Int.reduceAdd, Int.reduceSub, Int.reduceMul, Int.reduceEq, Int.reduceNeg, reduceCtorEq, resV, resAll, ARes.ev, LV.flat, ite_true, ite_false, exists_eq_left', exists_eq_left, keyOf, implies_true, fillC, capOf]
  refine callK_of g_box ?_
  simp (disch := omega) only [f1, f4, f15, f16, f17, ↓SXd, SXu, slBounds, ↓sop, ↓aop, ↓reduceIte, LV.cells, AOp.dst, LV.I, LV.B, LV.U, LV.S, LV.nil, Nat.reduceEqDiff, Nat.reduceAdd, Nat.reduceMul, Nat.reduceSub, Nat.reduceLeDiff, Nat.reduceBEq, Nat.reduceDiv, Nat.reduceMod, Int.reduceToNat, Int.reduceLT, Int.reduceLE, Int.reduceAdd, Int.reduceSub, Int.reduceMul, Int.reduceEq, Int.reduceNeg, reduceCtorEq, resV, resAll, ARes.ev, LV.flat, ite_true, ite_false, exists_eq_left', exists_eq_left, keyOf, implies_true, fillC, capOf]
  refine callK_of (g_list hS) ?_
  have hul := bu.lt
  have hl2 := b15.lt
  simp (disch := omega) only [f1, f4, f15, f16, f17, ↓SXd, SXu, slBounds, ↓sop, ↓aop, ↓reduceIte, LV.cells, AOp.dst, LV.I, LV.B, LV.U, LV.S, LV.nil, Nat.reduceEqDiff, Nat.reduceAdd, Nat.reduceMul, Nat.reduceSub, Nat.reduceLeDiff, Nat.reduceBEq, Nat.reduceDiv, Nat.reduceMod, Int.reduceToNat, Int.reduceLT, Int.reduceLE, Int.reduceAdd, Int.reduceSub, Int.reduceMul, Int.reduceEq, Int.reduceNeg, reduceCtorEq, resV, resAll, ARes.ev, LV.flat, ite_true, ite_false, exists_eq_left', exists_eq_left, keyOf, implies_true, fillC, capOf]
  generalize (pick x y z fun d => decide (d ∈ P.getD i [])) = l
  have f4' : fr 4 = .ref u 0 refs.length := by rw [hr]; exact f4
  have hnew := (Live.app (L := [some (.row (triL l) true 3)]) bu)
  rw [show M' ++ [some (Blk.row (triL l) true 3), some (Blk.row [LV.ref M'.length 0 l.length] true 1)] = (M' ++ [some (Blk.row (triL l) true 3)]) ++ [some (Blk.row [LV.ref M'.length 0 l.length] true 1)] by simp, show M'.length + 1 = (M' ++ [some (Blk.row (triL l) true 3)]).length by simp]
  refine appendK_1 (acc := refs) (new := [.ref M'.length 0 l.length]) hnew (by omega) rfl (by omega) (by omega) (by omega) fun N2 j1 j2 j3 => ?_
  simp only [List.length_append, List.length_singleton] at j1 j2 j3
  have hM := hpre.1
  have hk : ∀ q, q ≠ u → q < M'.length → N2[q]? = M'[q]? := fun q q1 q2 => by rw [j3 q q1 (by omega), List.getElem?_append_left q2]
  simp (disch := omega) only [f1, f4, f15, f16, f17, ↓SXd, SXu, slBounds, ↓sop, ↓aop, ↓reduceIte, LV.cells, AOp.dst, LV.I, LV.B, LV.U, LV.S, LV.nil, Nat.reduceEqDiff, Nat.reduceAdd, Nat.reduceMul, Nat.reduceSub, Nat.reduceLeDiff, Nat.reduceBEq, Nat.reduceDiv, Nat.reduceMod, Int.reduceToNat, Int.reduceLT, Int.reduceLE, Int.reduceAdd, Int.reduceSub, Int.reduceMul, Int.reduceEq, Int.reduceNeg, reduceCtorEq, resV, resAll, ARes.ev, LV.flat, ite_true, ite_false, exists_eq_left', exists_eq_left, keyOf, implies_true, fillC, capOf]
  exact ⟨m - 1, by omega, i + 1, M'.length + 1 + 1, refs ++ [.ref M'.length 0 l.length], by omega, by simp [hr], ⟨by omega, fun q hq => by rw [hk q (by omega) (by omega)]; exact hpre.2 q hq⟩, Live.at b1 (hk _ (by omega) b1.lt), Live.at b15 (hk _ (fun e => hu2 e.symm) hl2), by omega, by omega, j2, f1, rfl, f15, f16, eqI (natI _)⟩
end
theorem g_FullHeap {x y z : Int} {M : Mem} : CallsR PG F.impl_FullHeap [.I x, .I y, .I z] M fun v N => (Sides x y z ∧ ∃ u : Nat, v = .tup [.agg [.I x, .I y, .I z, .ref u 0 (cellsOf x y z).length], .B true] ∧ Live N u (.row (triL (cellsOf x y z)) true 3) ∧ Pre M N) ∨ (¬ Sides x y z ∧ v = .tup [.agg [.I 0, .I 0, .I 0, .nil], .B false] ∧ Pre M N) := by
  refine callsR_run K.impl_FullHeap rfl ?_
  simp (disch := omega) only [C.impl_FullHeap, splice, fillC, ↓SXd, SXu, slBounds, ↓sop, ↓aop, ↓reduceIte, LV.cells, AOp.dst, LV.I, LV.B, LV.U, LV.S, LV.nil, Nat.reduceEqDiff, Nat.reduceAdd, Nat.reduceMul, Nat.reduceSub, Nat.reduceLeDiff, Nat.reduceBEq, Nat.reduceDiv, Nat.reduceMod, Int.reduceToNat, Int.reduceLT, Int.reduceLE, Int.reduceAdd, Int.reduceSub, Int.reduceMul, Int.reduceEq, Int.reduceNeg, reduceCtorEq, resV, resAll, ARes.ev, LV.flat, ite_true, ite_false, exists_eq_left', exists_eq_left, keyOf, implies_true, fillC, capOf]
  refine callK_of g_valid ?_
  by_cases hS : Sides x y z
  · have hall : pick x y z (fun _ => true) = cellsOf x y z := List.filter_eq_self.2 fun _ _ => rfl
    have hh := fun {Z : Mem} => g_heap (p := fun _ => true) (M := Z) hS
    rw [hall] at hh
    rw [decide_eq_true hS]
    simp (disch := omega) only [↓SXd, SXu, slBounds, ↓sop, ↓aop, ↓reduceIte, LV.cells, AOp.dst, LV.I, LV.B, LV.U, LV.S, LV.nil, Nat.reduceEqDiff, Nat.reduceAdd, Nat.reduceMul, Nat.reduceSub, Nat.reduceLeDiff, Nat.reduceBEq, Nat.reduceDiv, Nat.reduceMod, Int.reduceToNat, Int.reduceLT, Int.reduceLE, Int.reduceAdd, Int.reduceSub, Int.reduceMul, Int.reduceEq, Int.reduceNeg, reduceCtorEq, resV, resAll, ARes.ev, LV.flat, ite_true, ite_false, exists_eq_left', exists_eq_left, keyOf, implies_true, fillC, capOf]
    refine callK_of (g_full hS) ?_
    simp (disch := omega) only [↓SXd, SXu, slBounds, ↓sop, ↓aop, ↓reduceIte, LV.cells, AOp.dst, LV.I, LV.B, LV.U, LV.S, LV.nil, Nat.reduceEqDiff, Nat.reduceAdd, Nat.reduceMul, Nat.reduceSub, Nat.reduceLeDiff, Nat.reduceBEq, Nat.reduceDiv, Nat.reduceMod, Int.reduceToNat, Int.reduceLT, Int.reduceLE, Int.reduceAdd, Int.reduceSub, Int.reduceMul, Int.reduceEq, Int.reduceNeg, reduceCtorEq, resV, resAll, ARes.ev, LV.flat, ite_true, ite_false, exists_eq_left', exists_eq_left, keyOf, implies_true, fillC, capOf]
    refine callK_of hh ?_
    simp (disch := omega) only [splice, ↓SXd, SXu, slBounds, ↓sop, ↓aop, ↓reduceIte, LV.cells, AOp.dst, LV.I, LV.B, LV.U, LV.S, LV.nil, Nat.reduceEqDiff, Nat.reduceAdd, Nat.reduceMul, Nat.reduceSub, Nat.reduceLeDiff, Nat.reduceBEq, Nat.reduceDiv, Nat.reduceMod, Int.reduceToNat, Int.reduceLT, Int.reduceLE, Int.reduceAdd, Int.reduceSub, Int.reduceMul, Int.reduceEq, Int.reduceNeg, reduceCtorEq, resV, resAll, ARes.ev, LV.flat, ite_true, ite_false, exists_eq_left', exists_eq_left, keyOf, implies_true, fillC, capOf]
    exact .inl ⟨hS, _, rfl, Live.newj rfl, Pre.app _ _⟩
  · rw [decide_eq_false hS]
    simp (disch := omega) only [splice, fillC, ↓SXd, SXu, slBounds, ↓sop, ↓aop, ↓reduceIte, LV.cells, AOp.dst, LV.I, LV.B, LV.U, LV.S, LV.nil, Nat.reduceEqDiff, Nat.reduceAdd, Nat.reduceMul, Nat.reduceSub, Nat.reduceLeDiff, Nat.reduceBEq, Nat.reduceDiv, Nat.reduceMod, Int.reduceToNat, Int.reduceLT, Int.reduceLE, Int.reduceAdd, Int.reduceSub, Int.reduceMul, Int.reduceEq, Int.reduceNeg, reduceCtorEq, resV, resAll, ARes.ev, LV.flat, ite_true, ite_false, exists_eq_left', exists_eq_left, keyOf, implies_true, fillC, capOf]
    exact .inr ⟨hS, rfl, Pre.app _ _⟩
theorem k_rLists {L L' : List (List Cell)} {v v' : LV} {M : Mem} (h : CssV M v L) (h' : CssV M v' L') (hn : L.length ≤ 1000000) (hn' : L'.length ≤ 1000000) (hl : ∀ l ∈ L, l.length ≤ 1000000000) (hl' : ∀ l ∈ L', l.length ≤ 1000000000) (he : L = L') : CallsTo PG F.laws_rLists [v, v'] M (.B true) M := by
  subst he
  have hv := h.lenV
  have hv' := h'.lenV
  refine calls_run K.laws_rLists rfl ?_
  simp (disch := omega) only [C.laws_rLists, hv, hv', ↓SXd, SXu, slBounds, ↓sop, ↓aop, ↓reduceIte, LV.cells, AOp.dst, LV.I, LV.B, LV.U, LV.S, LV.nil, Nat.reduceEqDiff, Nat.reduceAdd, Nat.reduceMul, Nat.reduceSub, Nat.reduceLeDiff, Nat.reduceBEq, Nat.reduceDiv, Nat.reduceMod, Int.reduceToNat, Int.reduceLT, Int.reduceLE, Int.reduceAdd, Int.reduceSub, Int.reduceMul, Int.reduceEq, Int.reduceNeg, reduceCtorEq, resV, resAll, ARes.ev, LV.flat, ite_true, ite_false, exists_eq_left', exists_eq_left, keyOf, implies_true, fillC, capOf]
  refine ev_loop (fun m fr M' => ∃ k : Nat, k + m = L.length ∧ M' = M ∧ fr 0 = v ∧ fr 1 = v' ∧ fr 5 = .I k) L.length ⟨0, by omega, rfl, rfl, rfl, rfl⟩ ?_
  rintro m fr M' ⟨k, hk, rfl, f0, f1, f5⟩
  simp (disch := omega) only [f0, f1, f5, hv, ↓SXd, SXu, slBounds, ↓sop, ↓aop, ↓reduceIte, LV.cells, AOp.dst, LV.I, LV.B, LV.U, LV.S, LV.nil, Nat.reduceEqDiff, Nat.reduceAdd, Nat.reduceMul, Nat.reduceSub, Nat.reduceLeDiff, Nat.reduceBEq, Nat.reduceDiv, Nat.reduceMod, Int.reduceToNat, Int.reduceLT, Int.reduceLE, Int.reduceAdd, Int.reduceSub, Int.reduceMul, Int.reduceEq, Int.reduceNeg, reduceCtorEq, resV, resAll, ARes.ev, LV.flat, ite_true, ite_false, exists_eq_left', exists_eq_left, keyOf, implies_true, fillC, capOf]
  refine condC_dec (fun hlt => ?_) (fun hlt => ?_)
  rotate_left
  · simp (disch := omega) only [f0, f1, f5, ↓SXd, SXu, slBounds, ↓sop, ↓aop, ↓reduceIte, LV.cells, AOp.dst, LV.I, LV.B, LV.U, LV.S, LV.nil, Nat.reduceEqDiff, Nat.reduceAdd, Nat.reduceMul, Nat.reduceSub, Nat.reduceLeDiff, Nat.reduceBEq, Nat.reduceDiv, Nat.reduceMod, Int.reduceToNat, Int.reduceLT, Int.reduceLE, Int.reduceAdd, Int.reduceSub, Int.reduceMul, Int.reduceEq, Int.reduceNeg, reduceCtorEq, resV, resAll, ARes.ev, LV.flat, ite_true, ite_false, exists_eq_left', exists_eq_left, keyOf, implies_true, fillC, capOf]
    exact cmp_drop0 rfl
  have hkl : k < L.length := by omega
  rcases h with ⟨_, hn0⟩ | ⟨t, refs, rfl, h1, h2, h3⟩
  · rw [hn0] at hkl; simp at hkl
  rcases h' with ⟨_, hn0⟩ | ⟨t', refs', rfl, h1', h2', h3'⟩
  · rw [hn0] at hkl; simp at hkl
  obtain ⟨r, r1, r2⟩ := h3 k hkl
  obtain ⟨r', r1', r2'⟩ := h3' k hkl
  have hg : getCell M' t k = some r := by rw [h1.cell]; exact r1
  have hg' : getCell M' t' k = some r' := by rw [h1'.cell]; exact r1'
  have hlm := hl _ (getD_mem' (d := []) hkl)
  have hkb : (k : Int) < (L.length : Nat) := by omega
  simp (disch := omega) only [f0, f1, f5, hg, hg', hkb, Nat.mul_one, Nat.zero_add, ↓SXd, SXu, slBounds, ↓sop, ↓aop, ↓reduceIte, LV.cells, AOp.dst, LV.I, LV.B, LV.U, LV.S, LV.nil, Nat.reduceEqDiff, Nat.reduceAdd, Nat.reduceMul, Nat.reduceSub, Nat.reduceLeDiff, Nat.reduceBEq, Nat.reduceDiv, Nat.reduceMod, Int.reduceToNat, Int.reduceLT, Int.reduceLE, Int.reduceAdd, Int.reduceSub, Int.reduceMul, Int.reduceEq, Int.reduceNeg, reduceCtorEq, resV, resAll, ARes.ev, LV.flat, ite_true, ite_false, exists_eq_left', exists_eq_left, keyOf, implies_true, fillC, capOf]
  refine callK_of (k_rCells r2 r2' hlm hlm) ?_
  rw [decide_eq_true rfl]
  simp (disch := omega) only [f0, f1, f5, ↓SXd, SXu, slBounds, ↓sop, ↓aop, ↓reduceIte, LV.cells, AOp.dst, LV.I, LV.B, LV.U, LV.S, LV.nil, Nat.reduceEqDiff, Nat.reduceAdd, Nat.reduceMul, Nat.reduceSub, Nat.reduceLeDiff, Nat.reduceBEq, Nat.reduceDiv, Nat.reduceMod, Int.reduceToNat, Int.reduceLT, Int.reduceLE, Int.reduceAdd, Int.reduceSub, Int.reduceMul, Int.reduceEq, Int.reduceNeg, reduceCtorEq, resV, resAll, ARes.ev, LV.flat, ite_true, ite_false, exists_eq_left', exists_eq_left, keyOf, implies_true, fillC, capOf]
  exact ⟨m - 1, by omega, k + 1, by omega, rfl, f0, f1, eqI (natI _)⟩
theorem k_rAll {L : List (List Cell)} {v : LV} {M : Mem} (h : CssV M v L) (hn : L.length ≤ 1000000) (ht : tot L ≤ 1000000000) : CallsTo PG F.laws_rAll [v] M (.I (tot L : Nat)) M := by
  have hv := h.lenV
  refine calls_run K.laws_rAll rfl ?_
  simp (disch := omega) only [C.laws_rAll, hv, ↓SXd, SXu, slBounds, ↓sop, ↓aop, ↓reduceIte, LV.cells, AOp.dst, LV.I, LV.B, LV.U, LV.S, LV.nil, Nat.reduceEqDiff, Nat.reduceAdd, Nat.reduceMul, Nat.reduceSub, Nat.reduceLeDiff, Nat.reduceBEq, Nat.reduceDiv, Nat.reduceMod, Int.reduceToNat, Int.reduceLT, Int.reduceLE, Int.reduceAdd, Int.reduceSub, Int.reduceMul, Int.reduceEq, Int.reduceNeg, reduceCtorEq, resV, resAll, ARes.ev, LV.flat, ite_true, ite_false, exists_eq_left', exists_eq_left, keyOf, implies_true, fillC, capOf]
  refine ev_loop (fun m fr M' => ∃ k : Nat, k + m = L.length ∧ M' = M ∧ fr 0 = v ∧ fr 3 = .I (tot (L.take k) : Nat) ∧ fr 4 = .I k) L.length ⟨0, by omega, rfl, rfl, rfl, rfl⟩ ?_
  rintro m fr M' ⟨k, hk, rfl, f0, f3, f4⟩
  simp (disch := omega) only [f0, f3, f4, hv, ↓SXd, SXu, slBounds, ↓sop, ↓aop, ↓reduceIte, LV.cells, AOp.dst, LV.I, LV.B, LV.U, LV.S, LV.nil, Nat.reduceEqDiff, Nat.reduceAdd, Nat.reduceMul, Nat.reduceSub, Nat.reduceLeDiff, Nat.reduceBEq, Nat.reduceDiv, Nat.reduceMod, Int.reduceToNat, Int.reduceLT, Int.reduceLE, Int.reduceAdd, Int.reduceSub, Int.reduceMul, Int.reduceEq, Int.reduceNeg, reduceCtorEq, resV, resAll, ARes.ev, LV.flat, ite_true, ite_false, exists_eq_left', exists_eq_left, keyOf, implies_true, fillC, capOf]
  refine condC_dec (fun hlt => ?_) (fun hlt => ?_)
  rotate_left
  · have : k = L.length := by omega
    subst this
    rw [List.take_length] at f3
    simp (disch := omega) only [f0, f3, f4, ↓SXd, SXu, slBounds, ↓sop, ↓aop, ↓reduceIte, LV.cells, AOp.dst, LV.I, LV.B, LV.U, LV.S, LV.nil, Nat.reduceEqDiff, Nat.reduceAdd, Nat.reduceMul, Nat.reduceSub, Nat.reduceLeDiff, Nat.reduceBEq, Nat.reduceDiv, Nat.reduceMod, Int.reduceToNat, Int.reduceLT, Int.reduceLE, Int.reduceAdd, Int.reduceSub, Int.reduceMul, Int.reduceEq, Int.reduceNeg, reduceCtorEq, resV, resAll, ARes.ev, LV.flat, ite_true, ite_false, exists_eq_left', exists_eq_left, keyOf, implies_true, fillC, capOf]
    exact cmp_drop0 rfl
  have hkl : k < L.length := by omega
  rcases h with ⟨_, hn0⟩ | ⟨t, refs, rfl, h1, h2, h3⟩
  · rw [hn0] at hkl; simp at hkl
  obtain ⟨r, r1, r2⟩ := h3 k hkl
  have hg : getCell M' t k = some r := by rw [h1.cell]; exact r1
  have hrl := r2.lenV
  have hts := tot_take_succ hkl
  have htk := tot_take_le (L := L) (i := k)
  have htg := tot_get hkl
  have hkb : (k : Int) < (L.length : Nat) := by omega
  simp (disch := omega) only [f0, f3, f4, hg, hkb, hrl, Nat.mul_one, Nat.zero_add, ↓SXd, SXu, slBounds, ↓sop, ↓aop, ↓reduceIte, LV.cells, AOp.dst, LV.I, LV.B, LV.U, LV.S, LV.nil, Nat.reduceEqDiff, Nat.reduceAdd, Nat.reduceMul, Nat.reduceSub, Nat.reduceLeDiff, Nat.reduceBEq, Nat.reduceDiv, Nat.reduceMod, Int.reduceToNat, Int.reduceLT, Int.reduceLE, Int.reduceAdd, Int.reduceSub, Int.reduceMul, Int.reduceEq, Int.reduceNeg, reduceCtorEq, resV, resAll, ARes.ev, LV.flat, ite_true, ite_false, exists_eq_left', exists_eq_left, keyOf, implies_true, fillC, capOf]
  exact ⟨m - 1, by omega, k + 1, by omega, rfl, f0, by rw [hts]; exact eqI (by simp), eqI (natI _)⟩
section
variable {t o : Nat} {bs : List Nat} {M : Mem} (hB : Bytes M t o bs) (h255 : ∀ b ∈ bs, b ≤ 255) (hl : bs.length ≤ 1000000000)
include hB h255 hl
theorem d_DrawCavitiesOf : CallsR PG F.spec_DrawCavitiesOf [.ref t o bs.length] M fun v N => HeapE M v N ∧ Pre M N := by
  refine callsR_run K.spec_DrawCavitiesOf rfl ?_
  simp (disch := omega) only [C.spec_DrawCavitiesOf, splice, ↓SXd, SXu, slBounds, ↓sop, ↓aop, ↓reduceIte, LV.cells, AOp.dst, LV.I, LV.B, LV.U, LV.S, LV.nil, Nat.reduceEqDiff, Nat.reduceAdd, Nat.reduceMul, Nat.reduceSub, Nat.reduceLeDiff, Nat.reduceBEq, Nat.reduceDiv, Nat.reduceMod, Int.reduceToNat, Int.reduceLT, Int.reduceLE, Int.reduceAdd, Int.reduceSub, Int.reduceMul, Int.reduceEq, Int.reduceNeg, reduceCtorEq, resV, resAll, ARes.ev, LV.flat, ite_true, ite_false, exists_eq_left', exists_eq_left, keyOf, implies_true, fillC, capOf]
  refine callR_of (d_DrawBareFaces (M := M ++ [some (.row [.I 0, .I 0, .I 0, .nil] true 0)]) (Has.app hB) h255 hl) ?_
  rintro _ N1 ⟨⟨x, y, z, cs, u, rfl, hu, hul, hcl⟩, hp1⟩
  rw [List.length_append] at hul
  simp only [List.length_cons, List.length_nil] at hul
  have b2 : Live N1 M.length (.row [.I 0, .I 0, .I 0, .nil] true 0) := Live.new.pre hp1
  have hP1 : Pre M N1 := (Pre.app _ _).trans hp1
  simp (disch := omega) only [↓SXd, SXu, slBounds, ↓sop, ↓aop, ↓reduceIte, LV.cells, AOp.dst, LV.I, LV.B, LV.U, LV.S, LV.nil, Nat.reduceEqDiff, Nat.reduceAdd, Nat.reduceMul, Nat.reduceSub, Nat.reduceLeDiff, Nat.reduceBEq, Nat.reduceDiv, Nat.reduceMod, Int.reduceToNat, Int.reduceLT, Int.reduceLE, Int.reduceAdd, Int.reduceSub, Int.reduceMul, Int.reduceEq, Int.reduceNeg, reduceCtorEq, resV, resAll, ARes.ev, LV.flat, ite_true, ite_false, exists_eq_left', exists_eq_left, keyOf, implies_true, fillC, capOf]
  refine memK_box b2 (by simp) fun N5 i1 i2 i3 => ?_
  simp (disch := omega) only [i2.cells, ↓SXd, SXu, slBounds, ↓sop, ↓aop, ↓reduceIte, LV.cells, AOp.dst, LV.I, LV.B, LV.U, LV.S, LV.nil, Nat.reduceEqDiff, Nat.reduceAdd, Nat.reduceMul, Nat.reduceSub, Nat.reduceLeDiff, Nat.reduceBEq, Nat.reduceDiv, Nat.reduceMod, Int.reduceToNat, Int.reduceLT, Int.reduceLE, Int.reduceAdd, Int.reduceSub, Int.reduceMul, Int.reduceEq, Int.reduceNeg, reduceCtorEq, resV, resAll, ARes.ev, LV.flat, ite_true, ite_false, exists_eq_left', exists_eq_left, keyOf, implies_true, fillC, capOf]
  exact ⟨⟨x, y, z, cs, u, rfl, live_step hu (by omega) i3, by omega, hcl⟩, pre_step hP1 (by omega) (j := 0) i1 i3⟩
theorem d_DrawFullHeap : CallsR PG F.spec_DrawFullHeap [.ref t o bs.length] M fun v N => (∃ x y z : Int, v = .tup [.I x, .I y, .I z]) ∧ Pre M N := by
  have htM := hB.lt
  have hE : CallsR PG F.spec_DrawEmptyHeap [.ref t o bs.length] M fun v N => (∃ x y z : Int, v = .tup [.I x, .I y, .I z]) ∧ Pre M N := by
    refine callsR_run K.spec_DrawEmptyHeap rfl ?_
    simp (disch := omega) only [C.spec_DrawEmptyHeap, splice, ↓SXd, SXu, slBounds, ↓sop, ↓aop, ↓reduceIte, LV.cells, AOp.dst, LV.I, LV.B, LV.U, LV.S, LV.nil, Nat.reduceEqDiff, Nat.reduceAdd, Nat.reduceMul, Nat.reduceSub, Nat.reduceLeDiff, Nat.reduceBEq, Nat.reduceDiv, Nat.reduceMod, Int.reduceToNat, Int.reduceLT, Int.reduceLE, Int.reduceAdd, Int.reduceSub, Int.reduceMul, Int.reduceEq, Int.reduceNeg, reduceCtorEq, resV, resAll, ARes.ev, LV.flat, ite_true, ite_false, exists_eq_left', exists_eq_left, keyOf, implies_true, fillC, capOf]
    have hc := CurAt.new hB h255 hl
    refine callR_of (d_sides hc (by omega)) ?_
    rintro _ N1 ⟨⟨x, y, z, rfl⟩, hd1⟩
    simp (disch := omega) only [↓SXd, SXu, slBounds, ↓sop, ↓aop, ↓reduceIte, LV.cells, AOp.dst, LV.I, LV.B, LV.U, LV.S, LV.nil, Nat.reduceEqDiff, Nat.reduceAdd, Nat.reduceMul, Nat.reduceSub, Nat.reduceLeDiff, Nat.reduceBEq, Nat.reduceDiv, Nat.reduceMod, Int.reduceToNat, Int.reduceLT, Int.reduceLE, Int.reduceAdd, Int.reduceSub, Int.reduceMul, Int.reduceEq, Int.reduceNeg, reduceCtorEq, resV, resAll, ARes.ev, LV.flat, ite_true, ite_false, exists_eq_left', exists_eq_left, keyOf, implies_true, fillC, capOf]
    exact ⟨⟨x, y, z, rfl⟩, hd1.pre (Pre.app _ _) (by omega)⟩
  refine callsR_run K.spec_DrawFullHeap rfl ?_
  simp (disch := omega) only [C.spec_DrawFullHeap, ↓SXd, SXu, slBounds, ↓sop, ↓aop, ↓reduceIte, LV.cells, AOp.dst, LV.I, LV.B, LV.U, LV.S, LV.nil, Nat.reduceEqDiff, Nat.reduceAdd, Nat.reduceMul, Nat.reduceSub, Nat.reduceLeDiff, Nat.reduceBEq, Nat.reduceDiv, Nat.reduceMod, Int.reduceToNat, Int.reduceLT, Int.reduceLE, Int.reduceAdd, Int.reduceSub, Int.reduceMul, Int.reduceEq, Int.reduceNeg, reduceCtorEq, resV, resAll, ARes.ev, LV.flat, ite_true, ite_false, exists_eq_left', exists_eq_left, keyOf, implies_true, fillC, capOf]
  refine callR_of hE ?_
  rintro _ N1 ⟨⟨x, y, z, rfl⟩, hp⟩
  simp (disch := omega) only [↓SXd, SXu, slBounds, ↓sop, ↓aop, ↓reduceIte, LV.cells, AOp.dst, LV.I, LV.B, LV.U, LV.S, LV.nil, Nat.reduceEqDiff, Nat.reduceAdd, Nat.reduceMul, Nat.reduceSub, Nat.reduceLeDiff, Nat.reduceBEq, Nat.reduceDiv, Nat.reduceMod, Int.reduceToNat, Int.reduceLT, Int.reduceLE, Int.reduceAdd, Int.reduceSub, Int.reduceMul, Int.reduceEq, Int.reduceNeg, reduceCtorEq, resV, resAll, ARes.ev, LV.flat, ite_true, ite_false, exists_eq_left', exists_eq_left, keyOf, implies_true, fillC, capOf]
  exact ⟨⟨x, y, z, rfl⟩, hp⟩
end
end Go.Ab

namespace Go.Ab
open Go
set_option maxRecDepth 20000

theorem holes_facts {x y z : Int} {cs : List Cell} (hH : HeapOK x y z cs) : ((fillOf x y z cs).getD Hp.none).cs.length = cs.length + tot (parts x y z 65 (closed x y z fun c => decide (c ∈ cs))) ∧ tot (clus x y z 65 fun c => decide (c ∈ cs)) = cs.length ∧ tot (parts x y z 65 (closed x y z fun c => decide (c ∈ cs))) ≤ 64 := by
  have hS := hH.1
  have h1 := pick_len hS (closed x y z fun c => decide (c ∈ cs))
  have h2 := pick_len hS fun c => decide (c ∈ cs)
  have hp : pick x y z (fun c => decide (c ∈ cs)) = cs := hH.pick.symm
  rw [parts_tot hS 65 (by omega), clus_tot hS 65 (by omega), hp]
  refine ⟨?_, rfl, h1⟩
  have hf : fillOf x y z cs = some ⟨x, y, z, pick x y z fun c => decide (c ∈ cs) || closed x y z (fun c => decide (c ∈ cs)) c⟩ := if_pos hH
  rw [hf]
  show (pick x y z fun c => decide (c ∈ cs) || closed x y z (fun c => decide (c ∈ cs)) c).length = _
  rw [pick_or (fun c _ ⟨a, b⟩ => by
    unfold closed at b
    simp only [Bool.and_eq_true, Bool.not_eq_true', decide_eq_false_iff_not, decide_eq_true_eq] at a b
    exact b.1 a) hS, hp]
theorem holes_ok (x y z : Int) (cs : List Cell) : ∃ (ok : Bool) (cv cl : List (List Cell)) (n0 n1 n2 n3 e tn : Int), (cavOf x y z cs).isSome = ok ∧ (cavOf x y z cs).getD [] = cv ∧ (cluOf x y z cs).isSome = ok ∧ (cluOf x y z cs).getD [] = cl ∧ bcOf x y z cs = [n0, n1, n2, n3] ∧ hpB x y z cs = ok ∧ eulOf x y z cs = e ∧ tunN x y z cs = tn ∧ tunB x y z cs = ok ∧ decide (HeapOK x y z cs) = ok ∧
    (cv.length ≤ 1000 ∧ tot cv ≤ 1000000 ∧ cl.length ≤ 1000 ∧ tot cl ≤ 1000000) ∧ 0 ≤ tn ∧ ((0 ≤ n0 ∧ n0 ≤ 729) ∧ (0 ≤ n1 ∧ n1 ≤ 729) ∧ (0 ≤ n2 ∧ n2 ≤ 729) ∧ (0 ≤ n3 ∧ n3 ≤ 729)) ∧ tn ≤ 1000000 ∧
    (ok = true → HeapOK x y z cs ∧ ((fillOf x y z cs).getD Hp.none).cs.length = cs.length + tot cv ∧ tot cl = cs.length ∧ cl.length ≤ (parts x y z 65 fun c => decide (c ∈ cs)).length ∧ n3 = cs.length ∧ e = n0 - n1 + n2 - n3 ∧ e = cl.length + cv.length - tn) := by
  by_cases hH : HeapOK x y z cs
  · have hc := counts_four (cs := cs) hH.1
    have hb := tunnels_bound hH
    have hf := holes_facts hH
    have hcp := clus_parts hH
    have hp := parts_len (x := x) (y := y) (z := z) 65 (closed x y z fun c => decide (c ∈ cs))
    have hl := clus_len (x := x) (y := y) (z := z) 65 fun c => decide (c ∈ cs)
    have hlen := hH.len
    have he : eulOf x y z cs = eulerOf x y z cs := if_pos hH
    have hbc : bcOf x y z cs = countsOf x y z cs := if_pos hH
    have ht : tunN x y z cs = ((clus x y z 65 fun c => decide (c ∈ cs)).length : Int) + (parts x y z 65 (closed x y z fun c => decide (c ∈ cs))).length - eulerOf x y z cs := if_pos (decide_eq_true hH)
    have hcv : cavOf x y z cs = some (parts x y z 65 (closed x y z fun c => decide (c ∈ cs))) := if_pos hH
    have hcl : cluOf x y z cs = some (clus x y z 65 fun c => decide (c ∈ cs)) := if_pos hH
    have hh : hpB x y z cs = true := decide_eq_true hH
    have htb : tunB x y z cs = true := decide_eq_true hH
    unfold eulerOf at he ht hb
    generalize countsOf x y z cs = out at hc hb he hbc ht
    obtain ⟨n0, n1, n2, n3, rfl⟩ : ∃ a b c d, out = [a, b, c, d] := by
      match out, hc.1 with
      | [a, b, c, d], _ => exact ⟨a, b, c, d, rfl⟩
    have q0 : 0 ≤ n0 ∧ n0 ≤ 729 := hc.2 0 (by omega)
    have q1 : 0 ≤ n1 ∧ n1 ≤ 729 := hc.2 1 (by omega)
    have q2 : 0 ≤ n2 ∧ n2 ≤ 729 := hc.2 2 (by omega)
    have q3 : 0 ≤ n3 ∧ n3 ≤ 729 := hc.2 3 (by omega)
    simp only [List.getD_cons_zero, List.getD_cons_succ] at hb he ht
    refine ⟨true, _, _, n0, n1, n2, n3, _, _, by rw [hcv]; rfl, by rw [hcv]; rfl, by rw [hcl]; rfl, by rw [hcl]; rfl, hbc, hh, he, ht, htb, decide_eq_true hH, ⟨by omega, by omega, by omega, by omega⟩, by omega, ⟨q0, q1, q2, q3⟩, by omega, fun _ => ⟨hH, hf.1, hf.2.1, hcp, by omega, rfl, by omega⟩⟩
  · have he : eulOf x y z cs = 0 := if_neg hH
    have hbc : bcOf x y z cs = [0, 0, 0, 0] := if_neg hH
    have hh : hpB x y z cs = false := decide_eq_false hH
    have htb : tunB x y z cs = false := decide_eq_false hH
    have ht : tunN x y z cs = 0 := if_neg (by rw [htb]; simp)
    have hcv : cavOf x y z cs = none := if_neg hH
    have hcl : cluOf x y z cs = none := if_neg hH
    exact ⟨false, [], [], 0, 0, 0, 0, 0, 0, by rw [hcv]; rfl, by rw [hcv]; rfl, by rw [hcl]; rfl, by rw [hcl]; rfl, hbc, hh, he, ht, htb, decide_eq_false hH, by simp [tot], by omega, by omega, by omega, fun h => by cases h⟩
theorem tot_mem : ∀ {L : List (List Cell)} {l : List Cell}, l ∈ L → l.length ≤ tot L
  | [], _, h => by simp at h
  | m :: L, l, h => by
    unfold tot
    rcases List.mem_cons.1 h with rfl | h
    · omega
    · have := tot_mem h; omega
theorem k_fullR {x y z : Int} {M : Mem} : CallsR PG F.impl_FullHeap [.I x, .I y, .I z] M fun v N => ∃ (X Y Z : Int) (w : LV) (b : Bool), v = .tup [.agg [.I X, .I Y, .I Z, w], .B b] ∧ w.one = true ∧ w.cells = some [w] ∧ (b = true → Sides X Y Z ∧ ∃ u : Nat, w = .ref u 0 (cellsOf X Y Z).length ∧ Live N u (.row (triL (cellsOf X Y Z)) true 3)) ∧ Pre M N :=
  g_FullHeap.mono fun v N hv => by
    rcases hv with ⟨hS, u, rfl, hU, hp⟩ | ⟨hS, rfl, hp⟩
    · exact ⟨x, y, z, _, true, rfl, rfl, rfl, fun _ => ⟨hS, u, rfl, hU⟩, hp⟩
    · exact ⟨0, 0, 0, .nil, false, rfl, rfl, rfl, fun h => (by cases h), hp⟩
set_option maxHeartbeats 4000000 in
theorem l_FnHoles {t : Nat} {bs : List Nat} {M : Mem} (h : Bytes M t 0 bs) (hn : bs.length ≤ 9223372036854775807 ∧ ∀ b ∈ bs, b ≤ 255) :
    CallsR PG F.laws_FnHoles [.ref t 0 bs.length] M fun v _ => v = .B true := by
  have htM := h.lt
  refine callsR_run K.laws_FnHoles rfl ?_
  simp (disch := omega) only [C.laws_FnHoles, ↓SXd, SXu, slBounds, ↓sop, ↓aop, ↓reduceIte, LV.cells, AOp.dst, LV.I, LV.B, LV.U, LV.S, LV.nil, Nat.reduceEqDiff, Nat.reduceAdd, Nat.reduceMul, Nat.reduceSub, Nat.reduceLeDiff, Nat.reduceBEq, Nat.reduceDiv, Nat.reduceMod, Int.reduceToNat, Int.reduceLT, Int.reduceLE, Int.reduceAdd, Int.reduceSub, Int.reduceMul, Int.reduceEq, Int.reduceNeg, reduceCtorEq, resV, resAll, ARes.ev, LV.flat, ite_true, ite_false, exists_eq_left', exists_eq_left, keyOf, implies_true, fillC, capOf]
  refine callK_of (k_rBig hn.1) ?_
  simp (disch := omega) only [↓SXd, SXu, slBounds, ↓sop, ↓aop, ↓reduceIte, LV.cells, AOp.dst, LV.I, LV.B, LV.U, LV.S, LV.nil, Nat.reduceEqDiff, Nat.reduceAdd, Nat.reduceMul, Nat.reduceSub, Nat.reduceLeDiff, Nat.reduceBEq, Nat.reduceDiv, Nat.reduceMod, Int.reduceToNat, Int.reduceLT, Int.reduceLE, Int.reduceAdd, Int.reduceSub, Int.reduceMul, Int.reduceEq, Int.reduceNeg, reduceCtorEq, resV, resAll, ARes.ev, LV.flat, ite_true, ite_false, exists_eq_left', exists_eq_left, keyOf, implies_true, fillC, capOf]
  by_cases hbig : (65536 : Int) < (bs.length : Nat)
  · simp (disch := omega) only [hbig, ↓SXd, SXu, slBounds, ↓sop, ↓aop, ↓reduceIte, LV.cells, AOp.dst, LV.I, LV.B, LV.U, LV.S, LV.nil, Nat.reduceEqDiff, Nat.reduceAdd, Nat.reduceMul, Nat.reduceSub, Nat.reduceLeDiff, Nat.reduceBEq, Nat.reduceDiv, Nat.reduceMod, Int.reduceToNat, Int.reduceLT, Int.reduceLE, Int.reduceAdd, Int.reduceSub, Int.reduceMul, Int.reduceEq, Int.reduceNeg, reduceCtorEq, resV, resAll, ARes.ev, LV.flat, ite_true, ite_false, exists_eq_left', exists_eq_left, keyOf, implies_true, fillC, capOf]
    rfl
  have hl : bs.length ≤ 1000000000 := by omega
  simp (disch := omega) only [hbig, ↓SXd, SXu, slBounds, ↓sop, ↓aop, ↓reduceIte, LV.cells, AOp.dst, LV.I, LV.B, LV.U, LV.S, LV.nil, Nat.reduceEqDiff, Nat.reduceAdd, Nat.reduceMul, Nat.reduceSub, Nat.reduceLeDiff, Nat.reduceBEq, Nat.reduceDiv, Nat.reduceMod, Int.reduceToNat, Int.reduceLT, Int.reduceLE, Int.reduceAdd, Int.reduceSub, Int.reduceMul, Int.reduceEq, Int.reduceNeg, reduceCtorEq, resV, resAll, ARes.ev, LV.flat, ite_true, ite_false, exists_eq_left', exists_eq_left, keyOf, implies_true, fillC, capOf]
  refine callR_of (d_DrawCavitiesOf h hn.2 hl) ?_
  rintro _ N1 ⟨⟨x, y, z, cs, u, rfl, hu, hul, hcl⟩, hp1⟩
  simp (disch := omega) only [splice, ↓SXd, SXu, slBounds, ↓sop, ↓aop, ↓reduceIte, LV.cells, AOp.dst, LV.I, LV.B, LV.U, LV.S, LV.nil, Nat.reduceEqDiff, Nat.reduceAdd, Nat.reduceMul, Nat.reduceSub, Nat.reduceLeDiff, Nat.reduceBEq, Nat.reduceDiv, Nat.reduceMod, Int.reduceToNat, Int.reduceLT, Int.reduceLE, Int.reduceAdd, Int.reduceSub, Int.reduceMul, Int.reduceEq, Int.reduceNeg, reduceCtorEq, resV, resAll, ARes.ev, LV.flat, ite_true, ite_false, exists_eq_left', exists_eq_left, keyOf, implies_true, fillC, capOf]
  have B3 : Live (N1 ++ [some (.row [.I x, .I y, .I z, .ref u 0 cs.length] true 0)]) N1.length (.row [.I x, .I y, .I z, .ref u 0 cs.length] true 0) := Live.new
  have U := hu.app (L := [some (.row [.I x, .I y, .I z, .ref u 0 cs.length] true 0)])
  have hP : Pre M (N1 ++ [some (.row [.I x, .I y, .I z, .ref u 0 cs.length] true 0)]) := hp1.app'
  generalize hm3 : N1.length = m3 at B3 ⊢
  generalize N1 ++ [some (Blk.row [.I x, .I y, .I z, .ref u 0 cs.length] true 0)] = W1 at B3 U hP ⊢
  clear hu hul hp1 hm3
  obtain ⟨ok, cv, cl, n0, n1, n2, n3, e, tn, a1, a2, a3, a4, a5, a6, a7, a8, a9, a10, a11, a12, a13, a14, hok⟩ := holes_ok x y z cs
  refine callR_of (g_CavitiesOf U (by omega)) ?_
  rintro _ W2 ⟨v1, rfl, S1, hp2⟩
  rw [a1]
  rw [a2] at S1
  replace B3 := B3.pre hp2
  replace U := U.pre hp2
  replace hP := hP.trans hp2
  simp (disch := omega) only [B3.cells, ↓SXd, SXu, slBounds, ↓sop, ↓aop, ↓reduceIte, LV.cells, AOp.dst, LV.I, LV.B, LV.U, LV.S, LV.nil, Nat.reduceEqDiff, Nat.reduceAdd, Nat.reduceMul, Nat.reduceSub, Nat.reduceLeDiff, Nat.reduceBEq, Nat.reduceDiv, Nat.reduceMod, Int.reduceToNat, Int.reduceLT, Int.reduceLE, Int.reduceAdd, Int.reduceSub, Int.reduceMul, Int.reduceEq, Int.reduceNeg, reduceCtorEq, resV, resAll, ARes.ev, LV.flat, ite_true, ite_false, exists_eq_left', exists_eq_left, keyOf, implies_true, fillC, capOf]
  refine callR_of (h_sCavitiesOf U (by omega)) ?_
  rintro _ W3 ⟨v2, rfl, S2, hp3⟩
  rw [a1]
  rw [a2] at S2
  replace B3 := B3.pre hp3
  replace U := U.pre hp3
  replace hP := hP.trans hp3
  replace S1 := S1.pre hp3
  simp (disch := omega) only [B3.cells, beq_self_eq_true, Bool.not_true, ↓SXd, SXu, slBounds, ↓sop, ↓aop, ↓reduceIte, LV.cells, AOp.dst, LV.I, LV.B, LV.U, LV.S, LV.nil, Nat.reduceEqDiff, Nat.reduceAdd, Nat.reduceMul, Nat.reduceSub, Nat.reduceLeDiff, Nat.reduceBEq, Nat.reduceDiv, Nat.reduceMod, Int.reduceToNat, Int.reduceLT, Int.reduceLE, Int.reduceAdd, Int.reduceSub, Int.reduceMul, Int.reduceEq, Int.reduceNeg, reduceCtorEq, resV, resAll, ARes.ev, LV.flat, ite_true, ite_false, exists_eq_left', exists_eq_left, keyOf, implies_true, fillC, capOf]
  have hih := g_IsHeap (x := x) (y := y) (z := z) U.has (show cs.length ≤ 1000000000 by omega)
  rw [show decide (HeapOK x y z cs) = ok from a10] at hih
  refine callK_of hih ?_
  simp (disch := omega) only [beq_self_eq_true, Bool.not_true, ↓SXd, SXu, slBounds, ↓sop, ↓aop, ↓reduceIte, LV.cells, AOp.dst, LV.I, LV.B, LV.U, LV.S, LV.nil, Nat.reduceEqDiff, Nat.reduceAdd, Nat.reduceMul, Nat.reduceSub, Nat.reduceLeDiff, Nat.reduceBEq, Nat.reduceDiv, Nat.reduceMod, Int.reduceToNat, Int.reduceLT, Int.reduceLE, Int.reduceAdd, Int.reduceSub, Int.reduceMul, Int.reduceEq, Int.reduceNeg, reduceCtorEq, resV, resAll, ARes.ev, LV.flat, ite_true, ite_false, exists_eq_left', exists_eq_left, keyOf, implies_true, fillC, capOf]
  refine callK_of (k_rLists S1.v S2.v (by omega) (by omega) (fun l hl => by have := tot_mem hl; omega) (fun l hl => by have := tot_mem hl; omega) rfl) ?_
  clear S2 hp2 hp3 hih
  simp (disch := omega) only [B3.cells, ↓SXd, SXu, slBounds, ↓sop, ↓aop, ↓reduceIte, LV.cells, AOp.dst, LV.I, LV.B, LV.U, LV.S, LV.nil, Nat.reduceEqDiff, Nat.reduceAdd, Nat.reduceMul, Nat.reduceSub, Nat.reduceLeDiff, Nat.reduceBEq, Nat.reduceDiv, Nat.reduceMod, Int.reduceToNat, Int.reduceLT, Int.reduceLE, Int.reduceAdd, Int.reduceSub, Int.reduceMul, Int.reduceEq, Int.reduceNeg, reduceCtorEq, resV, resAll, ARes.ev, LV.flat, ite_true, ite_false, exists_eq_left', exists_eq_left, keyOf, implies_true, fillC, capOf]
  refine callR_of (g_ClustersOf U (by omega)) ?_
  rintro _ W4 ⟨v3, rfl, S3, hp4⟩
  rw [a3]
  rw [a4] at S3
  replace B3 := B3.pre hp4
  replace U := U.pre hp4
  replace hP := hP.trans hp4
  replace S1 := S1.pre hp4
  simp (disch := omega) only [B3.cells, ↓SXd, SXu, slBounds, ↓sop, ↓aop, ↓reduceIte, LV.cells, AOp.dst, LV.I, LV.B, LV.U, LV.S, LV.nil, Nat.reduceEqDiff, Nat.reduceAdd, Nat.reduceMul, Nat.reduceSub, Nat.reduceLeDiff, Nat.reduceBEq, Nat.reduceDiv, Nat.reduceMod, Int.reduceToNat, Int.reduceLT, Int.reduceLE, Int.reduceAdd, Int.reduceSub, Int.reduceMul, Int.reduceEq, Int.reduceNeg, reduceCtorEq, resV, resAll, ARes.ev, LV.flat, ite_true, ite_false, exists_eq_left', exists_eq_left, keyOf, implies_true, fillC, capOf]
  refine callR_of (h_sClustersOf U (by omega)) ?_
  rintro _ W5 ⟨v4, rfl, S4, hp5⟩
  rw [a3]
  rw [a4] at S4
  replace B3 := B3.pre hp5
  replace U := U.pre hp5
  replace hP := hP.trans hp5
  replace S1 := S1.pre hp5
  replace S3 := S3.pre hp5
  simp (disch := omega) only [B3.cells, beq_self_eq_true, Bool.not_true, ↓SXd, SXu, slBounds, ↓sop, ↓aop, ↓reduceIte, LV.cells, AOp.dst, LV.I, LV.B, LV.U, LV.S, LV.nil, Nat.reduceEqDiff, Nat.reduceAdd, Nat.reduceMul, Nat.reduceSub, Nat.reduceLeDiff, Nat.reduceBEq, Nat.reduceDiv, Nat.reduceMod, Int.reduceToNat, Int.reduceLT, Int.reduceLE, Int.reduceAdd, Int.reduceSub, Int.reduceMul, Int.reduceEq, Int.reduceNeg, reduceCtorEq, resV, resAll, ARes.ev, LV.flat, ite_true, ite_false, exists_eq_left', exists_eq_left, keyOf, implies_true, fillC, capOf]
  refine callK_of (k_rLists S3.v S4.v (by omega) (by omega) (fun l hl => by have := tot_mem hl; omega) (fun l hl => by have := tot_mem hl; omega) rfl) ?_
  clear S4 hp4 hp5
  have hbc := fun {Z : Mem} (k : Live Z u (.row (triL cs) true 3)) => g_BodyCounts (x := x) (y := y) (z := z) k (by omega)
  have hsb := fun {Z : Mem} (k : Live Z u (.row (triL cs) true 3)) => h_sBodyCounts (x := x) (y := y) (z := z) k (by omega)
  have hge := fun {Z : Mem} (k : Live Z u (.row (triL cs) true 3)) => g_EulerNumber (x := x) (y := y) (z := z) k (by omega)
  have hse := fun {Z : Mem} (k : Live Z u (.row (triL cs) true 3)) => h_sEulerNumber (x := x) (y := y) (z := z) k (by omega)
  have hgt := fun {Z : Mem} (k : Live Z u (.row (triL cs) true 3)) => g_TunnelsOfL (x := x) (y := y) (z := z) k (by omega)
  have hst := fun {Z : Mem} (k : Live Z u (.row (triL cs) true 3)) => h_sTunnelsOf (x := x) (y := y) (z := z) k (by omega)
  rw [a5, a6] at hbc hsb
  rw [a7, a6] at hge hse
  rw [a8, a9] at hgt hst
  change ∀ {Z : Mem}, _ → CallsTo PG _ _ Z (.tup [.agg [.I n0, .I n1, .I n2, .I n3], .B ok]) Z at hbc hsb
  simp (disch := omega) only [B3.cells, ↓SXd, SXu, slBounds, ↓sop, ↓aop, ↓reduceIte, LV.cells, AOp.dst, LV.I, LV.B, LV.U, LV.S, LV.nil, Nat.reduceEqDiff, Nat.reduceAdd, Nat.reduceMul, Nat.reduceSub, Nat.reduceLeDiff, Nat.reduceBEq, Nat.reduceDiv, Nat.reduceMod, Int.reduceToNat, Int.reduceLT, Int.reduceLE, Int.reduceAdd, Int.reduceSub, Int.reduceMul, Int.reduceEq, Int.reduceNeg, reduceCtorEq, resV, resAll, ARes.ev, LV.flat, ite_true, ite_false, exists_eq_left', exists_eq_left, keyOf, implies_true, fillC, capOf]
  refine callK_of (hbc U) ?_
  simp (disch := omega) only [splice, ↓SXd, SXu, slBounds, ↓sop, ↓aop, ↓reduceIte, LV.cells, AOp.dst, LV.I, LV.B, LV.U, LV.S, LV.nil, Nat.reduceEqDiff, Nat.reduceAdd, Nat.reduceMul, Nat.reduceSub, Nat.reduceLeDiff, Nat.reduceBEq, Nat.reduceDiv, Nat.reduceMod, Int.reduceToNat, Int.reduceLT, Int.reduceLE, Int.reduceAdd, Int.reduceSub, Int.reduceMul, Int.reduceEq, Int.reduceNeg, reduceCtorEq, resV, resAll, ARes.ev, LV.flat, ite_true, ite_false, exists_eq_left', exists_eq_left, keyOf, implies_true, fillC, capOf]
  have B12 : Live (W5 ++ [some (.row [.I n0, .I n1, .I n2, .I n3] true 0)]) W5.length (.row [.I n0, .I n1, .I n2, .I n3] true 0) := Live.new
  have q5 : Pre W5 (W5 ++ [some (.row [.I n0, .I n1, .I n2, .I n3] true 0)]) := Pre.app _ _
  generalize hm12 : W5.length = m12 at B12 ⊢
  generalize W5 ++ [some (Blk.row [.I n0, .I n1, .I n2, .I n3] true 0)] = W6 at B12 q5 ⊢
  replace B3 := B3.pre q5
  replace U := U.pre q5
  replace hP := hP.trans q5
  replace S1 := S1.pre q5
  replace S3 := S3.pre q5
  clear q5 hm12
  simp (disch := omega) only [B3.cells, ↓SXd, SXu, slBounds, ↓sop, ↓aop, ↓reduceIte, LV.cells, AOp.dst, LV.I, LV.B, LV.U, LV.S, LV.nil, Nat.reduceEqDiff, Nat.reduceAdd, Nat.reduceMul, Nat.reduceSub, Nat.reduceLeDiff, Nat.reduceBEq, Nat.reduceDiv, Nat.reduceMod, Int.reduceToNat, Int.reduceLT, Int.reduceLE, Int.reduceAdd, Int.reduceSub, Int.reduceMul, Int.reduceEq, Int.reduceNeg, reduceCtorEq, resV, resAll, ARes.ev, LV.flat, ite_true, ite_false, exists_eq_left', exists_eq_left, keyOf, implies_true, fillC, capOf]
  refine callK_of (hsb U) ?_
  simp (disch := omega) only [splice, ↓SXd, SXu, slBounds, ↓sop, ↓aop, ↓reduceIte, LV.cells, AOp.dst, LV.I, LV.B, LV.U, LV.S, LV.nil, Nat.reduceEqDiff, Nat.reduceAdd, Nat.reduceMul, Nat.reduceSub, Nat.reduceLeDiff, Nat.reduceBEq, Nat.reduceDiv, Nat.reduceMod, Int.reduceToNat, Int.reduceLT, Int.reduceLE, Int.reduceAdd, Int.reduceSub, Int.reduceMul, Int.reduceEq, Int.reduceNeg, reduceCtorEq, resV, resAll, ARes.ev, LV.flat, ite_true, ite_false, exists_eq_left', exists_eq_left, keyOf, implies_true, fillC, capOf]
  have B14 : Live (W6 ++ [some (.row [.I n0, .I n1, .I n2, .I n3] true 0)]) W6.length (.row [.I n0, .I n1, .I n2, .I n3] true 0) := Live.new
  have q6 : Pre W6 (W6 ++ [some (.row [.I n0, .I n1, .I n2, .I n3] true 0)]) := Pre.app _ _
  generalize hm14 : W6.length = m14 at B14 ⊢
  generalize W6 ++ [some (Blk.row [.I n0, .I n1, .I n2, .I n3] true 0)] = W7 at B14 q6 ⊢
  replace B3 := B3.pre q6
  replace U := U.pre q6
  replace hP := hP.trans q6
  replace S1 := S1.pre q6
  replace S3 := S3.pre q6
  replace B12 := B12.pre q6
  clear q6 hm14
  simp (disch := omega) only [B12.cells, B14.cells, eqV, eqC, if_true, ite_true, Bool.and_true, beq_self_eq_true, Bool.not_true, B3.cells, Bool.and_self, ↓SXd, SXu, slBounds, ↓sop, ↓aop, ↓reduceIte, LV.cells, AOp.dst, LV.I, LV.B, LV.U, LV.S, LV.nil, Nat.reduceEqDiff, Nat.reduceAdd, Nat.reduceMul, Nat.reduceSub, Nat.reduceLeDiff, Nat.reduceBEq, Nat.reduceDiv, Nat.reduceMod, Int.reduceToNat, Int.reduceLT, Int.reduceLE, Int.reduceAdd, Int.reduceSub, Int.reduceMul, Int.reduceEq, Int.reduceNeg, reduceCtorEq, resV, resAll, ARes.ev, LV.flat, ite_true, ite_false, exists_eq_left', exists_eq_left, keyOf, implies_true, fillC, capOf]
  refine callK_of (hge U) ?_
  simp (disch := omega) only [B3.cells, ↓SXd, SXu, slBounds, ↓sop, ↓aop, ↓reduceIte, LV.cells, AOp.dst, LV.I, LV.B, LV.U, LV.S, LV.nil, Nat.reduceEqDiff, Nat.reduceAdd, Nat.reduceMul, Nat.reduceSub, Nat.reduceLeDiff, Nat.reduceBEq, Nat.reduceDiv, Nat.reduceMod, Int.reduceToNat, Int.reduceLT, Int.reduceLE, Int.reduceAdd, Int.reduceSub, Int.reduceMul, Int.reduceEq, Int.reduceNeg, reduceCtorEq, resV, resAll, ARes.ev, LV.flat, ite_true, ite_false, exists_eq_left', exists_eq_left, keyOf, implies_true, fillC, capOf]
  refine callK_of (hse U) ?_
  simp (disch := omega) only [beq_self_eq_true, Bool.not_true, B3.cells, ↓SXd, SXu, slBounds, ↓sop, ↓aop, ↓reduceIte, LV.cells, AOp.dst, LV.I, LV.B, LV.U, LV.S, LV.nil, Nat.reduceEqDiff, Nat.reduceAdd, Nat.reduceMul, Nat.reduceSub, Nat.reduceLeDiff, Nat.reduceBEq, Nat.reduceDiv, Nat.reduceMod, Int.reduceToNat, Int.reduceLT, Int.reduceLE, Int.reduceAdd, Int.reduceSub, Int.reduceMul, Int.reduceEq, Int.reduceNeg, reduceCtorEq, resV, resAll, ARes.ev, LV.flat, ite_true, ite_false, exists_eq_left', exists_eq_left, keyOf, implies_true, fillC, capOf]
  refine callK_of (hgt U) ?_
  simp (disch := omega) only [B3.cells, ↓SXd, SXu, slBounds, ↓sop, ↓aop, ↓reduceIte, LV.cells, AOp.dst, LV.I, LV.B, LV.U, LV.S, LV.nil, Nat.reduceEqDiff, Nat.reduceAdd, Nat.reduceMul, Nat.reduceSub, Nat.reduceLeDiff, Nat.reduceBEq, Nat.reduceDiv, Nat.reduceMod, Int.reduceToNat, Int.reduceLT, Int.reduceLE, Int.reduceAdd, Int.reduceSub, Int.reduceMul, Int.reduceEq, Int.reduceNeg, reduceCtorEq, resV, resAll, ARes.ev, LV.flat, ite_true, ite_false, exists_eq_left', exists_eq_left, keyOf, implies_true, fillC, capOf]
  refine callK_of (hst U) ?_
  have ht0 : ¬ tn < 0 := by omega
  simp (disch := omega) only [beq_self_eq_true, Bool.not_true, ht0, ↓SXd, SXu, slBounds, ↓sop, ↓aop, ↓reduceIte, LV.cells, AOp.dst, LV.I, LV.B, LV.U, LV.S, LV.nil, Nat.reduceEqDiff, Nat.reduceAdd, Nat.reduceMul, Nat.reduceSub, Nat.reduceLeDiff, Nat.reduceBEq, Nat.reduceDiv, Nat.reduceMod, Int.reduceToNat, Int.reduceLT, Int.reduceLE, Int.reduceAdd, Int.reduceSub, Int.reduceMul, Int.reduceEq, Int.reduceNeg, reduceCtorEq, resV, resAll, ARes.ev, LV.flat, ite_true, ite_false, exists_eq_left', exists_eq_left, keyOf, implies_true, fillC, capOf]
  refine callR_of (d_DrawFullHeap (h.pre hP) hn.2 hl) ?_
  rintro _ W8 ⟨⟨X, Y, Z, rfl⟩, hp8⟩
  simp (disch := omega) only [↓SXd, SXu, slBounds, ↓sop, ↓aop, ↓reduceIte, LV.cells, AOp.dst, LV.I, LV.B, LV.U, LV.S, LV.nil, Nat.reduceEqDiff, Nat.reduceAdd, Nat.reduceMul, Nat.reduceSub, Nat.reduceLeDiff, Nat.reduceBEq, Nat.reduceDiv, Nat.reduceMod, Int.reduceToNat, Int.reduceLT, Int.reduceLE, Int.reduceAdd, Int.reduceSub, Int.reduceMul, Int.reduceEq, Int.reduceNeg, reduceCtorEq, resV, resAll, ARes.ev, LV.flat, ite_true, ite_false, exists_eq_left', exists_eq_left, keyOf, implies_true, fillC, capOf]
  refine callR_of k_fullR ?_
  rintro _ W9 ⟨X', Y', Z', w, b, rfl, hw1, hw2, hfull, hp9⟩
  have p9 := hp8.trans hp9
  replace B3 := B3.pre p9
  replace U := U.pre p9
  replace S1 := S1.pre p9
  replace S3 := S3.pre p9
  replace B12 := B12.pre p9
  clear hp8 hp9 p9 B14
  simp (disch := omega) only [hw1, hw2, splice, ↓SXd, SXu, slBounds, ↓sop, ↓aop, ↓reduceIte, LV.cells, AOp.dst, LV.I, LV.B, LV.U, LV.S, LV.nil, Nat.reduceEqDiff, Nat.reduceAdd, Nat.reduceMul, Nat.reduceSub, Nat.reduceLeDiff, Nat.reduceBEq, Nat.reduceDiv, Nat.reduceMod, Int.reduceToNat, Int.reduceLT, Int.reduceLE, Int.reduceAdd, Int.reduceSub, Int.reduceMul, Int.reduceEq, Int.reduceNeg, reduceCtorEq, resV, resAll, ARes.ev, LV.flat, ite_true, ite_false, exists_eq_left', exists_eq_left, keyOf, implies_true, fillC, capOf]
  refine cond_cut (fun fr' M' => Pre W9 M' ∧ fr' 3 = .ptr m3 0 ∧ fr' 4 = v1 ∧ fr' 5 = .B ok ∧ fr' 8 = v3 ∧ fr' 12 = .ptr m12 0 ∧ fr' 16 = .I e ∧ fr' 20 = .I tn) ?_ ?_
  · cases b with
    | false =>
      simp (disch := omega) only [↓SXd, SXu, slBounds, ↓sop, ↓aop, ↓reduceIte, LV.cells, AOp.dst, LV.I, LV.B, LV.U, LV.S, LV.nil, Nat.reduceEqDiff, Nat.reduceAdd, Nat.reduceMul, Nat.reduceSub, Nat.reduceLeDiff, Nat.reduceBEq, Nat.reduceDiv, Nat.reduceMod, Int.reduceToNat, Int.reduceLT, Int.reduceLE, Int.reduceAdd, Int.reduceSub, Int.reduceMul, Int.reduceEq, Int.reduceNeg, reduceCtorEq, resV, resAll, ARes.ev, LV.flat, ite_true, ite_false, exists_eq_left', exists_eq_left, keyOf, implies_true, fillC, capOf]
      exact Pre.app _ _
    | true =>
      obtain ⟨hSS, u2, rfl, U2⟩ := hfull rfl
      have hf1 := g_EulerNumber (x := X') (y := Y') (z := Z') (U2.app (L := [some (.row [.I X', .I Y', .I Z', .ref u2 0 (cellsOf X' Y' Z').length] true 0)])) (by have := vol_cast hSS; simp [cellsOf]; omega)
      have hHf : HeapOK X' Y' Z' (cellsOf X' Y' Z') := by
        have := pick_ok hSS fun _ => true
        unfold pick at this
        rwa [List.filter_eq_self.2 fun _ _ => rfl] at this
      rw [show eulOf X' Y' Z' (cellsOf X' Y' Z') = 1 from (if_pos hHf).trans (euler_full hSS), show hpB X' Y' Z' (cellsOf X' Y' Z') = true from decide_eq_true hHf] at hf1
      simp (disch := omega) only [↓SXd, SXu, slBounds, ↓sop, ↓aop, ↓reduceIte, LV.cells, AOp.dst, LV.I, LV.B, LV.U, LV.S, LV.nil, Nat.reduceEqDiff, Nat.reduceAdd, Nat.reduceMul, Nat.reduceSub, Nat.reduceLeDiff, Nat.reduceBEq, Nat.reduceDiv, Nat.reduceMod, Int.reduceToNat, Int.reduceLT, Int.reduceLE, Int.reduceAdd, Int.reduceSub, Int.reduceMul, Int.reduceEq, Int.reduceNeg, reduceCtorEq, resV, resAll, ARes.ev, LV.flat, ite_true, ite_false, exists_eq_left', exists_eq_left, keyOf, implies_true, fillC, capOf]
      refine callK_of hf1 ?_
      simp (disch := omega) only [beq_self_eq_true, Bool.not_true, ↓SXd, SXu, slBounds, ↓sop, ↓aop, ↓reduceIte, LV.cells, AOp.dst, LV.I, LV.B, LV.U, LV.S, LV.nil, Nat.reduceEqDiff, Nat.reduceAdd, Nat.reduceMul, Nat.reduceSub, Nat.reduceLeDiff, Nat.reduceBEq, Nat.reduceDiv, Nat.reduceMod, Int.reduceToNat, Int.reduceLT, Int.reduceLE, Int.reduceAdd, Int.reduceSub, Int.reduceMul, Int.reduceEq, Int.reduceNeg, reduceCtorEq, resV, resAll, ARes.ev, LV.flat, ite_true, ite_false, exists_eq_left', exists_eq_left, keyOf, implies_true, fillC, capOf]
      exact Pre.app _ _
  rintro fr W10 ⟨p10, f3, f4, f5, f8, f12, f16, f20⟩
  replace B3 := B3.pre p10
  replace U := U.pre p10
  replace S1 := S1.pre p10
  replace S3 := S3.pre p10
  replace B12 := B12.pre p10
  clear hfull hw1 hw2 p10
  cases ok with
  | false =>
    simp (disch := omega) only [f3, f4, f5, f8, f12, f16, f20, ↓SXd, SXu, slBounds, ↓sop, ↓aop, ↓reduceIte, LV.cells, AOp.dst, LV.I, LV.B, LV.U, LV.S, LV.nil, Nat.reduceEqDiff, Nat.reduceAdd, Nat.reduceMul, Nat.reduceSub, Nat.reduceLeDiff, Nat.reduceBEq, Nat.reduceDiv, Nat.reduceMod, Int.reduceToNat, Int.reduceLT, Int.reduceLE, Int.reduceAdd, Int.reduceSub, Int.reduceMul, Int.reduceEq, Int.reduceNeg, reduceCtorEq, resV, resAll, ARes.ev, LV.flat, ite_true, ite_false, exists_eq_left', exists_eq_left, keyOf, implies_true, fillC, capOf]
    rfl
  | true =>
    obtain ⟨hH, h1, h2, h3, h4, h5, h6⟩ := hok rfl
    simp (disch := omega) only [f3, f4, f5, f8, f12, f16, f20, B3.cells, ↓SXd, SXu, slBounds, ↓sop, ↓aop, ↓reduceIte, LV.cells, AOp.dst, LV.I, LV.B, LV.U, LV.S, LV.nil, Nat.reduceEqDiff, Nat.reduceAdd, Nat.reduceMul, Nat.reduceSub, Nat.reduceLeDiff, Nat.reduceBEq, Nat.reduceDiv, Nat.reduceMod, Int.reduceToNat, Int.reduceLT, Int.reduceLE, Int.reduceAdd, Int.reduceSub, Int.reduceMul, Int.reduceEq, Int.reduceNeg, reduceCtorEq, resV, resAll, ARes.ev, LV.flat, ite_true, ite_false, exists_eq_left', exists_eq_left, keyOf, implies_true, fillC, capOf]
    refine callR_of (g_FillCavities U (by omega)) ?_
    rintro _ W11 ⟨wf, rfl, hwf, _, p11⟩
    replace B3 := B3.pre p11
    replace U := U.pre p11
    replace S1 := S1.pre p11
    replace S3 := S3.pre p11
    replace B12 := B12.pre p11
    have hwl := hwf.v.lenV
    have hfs : (fillOf x y z cs).isSome = true := by
      have : fillOf x y z cs = some ⟨x, y, z, pick x y z fun c => decide (c ∈ cs) || closed x y z (fun c => decide (c ∈ cs)) c⟩ := if_pos hH
      rw [this]; rfl
    rw [hfs]
    rw [h1] at hwl
    generalize ((fillOf x y z cs).getD Hp.none).x = fx
    generalize ((fillOf x y z cs).getD Hp.none).y = fy
    generalize ((fillOf x y z cs).getD Hp.none).z = fz
    have hwc : wf.one = true ∧ wf.cells = some [wf] := by
      rcases hwf.v with ⟨rfl, _⟩ | ⟨_, _, rfl, _⟩ <;> exact ⟨rfl, rfl⟩
    obtain ⟨hw1, hw2⟩ := hwc
    clear hwf hfs
    simp (disch := omega) only [f3, f4, f5, f8, f12, f16, f20, hw1, hw2, splice, ↓SXd, SXu, slBounds, ↓sop, ↓aop, ↓reduceIte, LV.cells, AOp.dst, LV.I, LV.B, LV.U, LV.S, LV.nil, Nat.reduceEqDiff, Nat.reduceAdd, Nat.reduceMul, Nat.reduceSub, Nat.reduceLeDiff, Nat.reduceBEq, Nat.reduceDiv, Nat.reduceMod, Int.reduceToNat, Int.reduceLT, Int.reduceLE, Int.reduceAdd, Int.reduceSub, Int.reduceMul, Int.reduceEq, Int.reduceNeg, reduceCtorEq, resV, resAll, ARes.ev, LV.flat, ite_true, ite_false, exists_eq_left', exists_eq_left, keyOf, implies_true, fillC, capOf]
    have B31 : Live (W11 ++ [some (.row [.I fx, .I fy, .I fz, wf] true 0)]) W11.length (.row [.I fx, .I fy, .I fz, wf] true 0) := Live.new
    have q11 : Pre W11 (W11 ++ [some (.row [.I fx, .I fy, .I fz, wf] true 0)]) := Pre.app _ _
    generalize hm31 : W11.length = m31 at B31 ⊢
    generalize W11 ++ [some (Blk.row [.I fx, .I fy, .I fz, wf] true 0)] = W12 at B31 q11 ⊢
    replace B3 := B3.pre q11
    replace U := U.pre q11
    replace S1 := S1.pre q11
    replace S3 := S3.pre q11
    replace B12 := B12.pre q11
    clear q11 hm31
    simp (disch := omega) only [f3, f4, f5, f8, f12, f16, f20, B3.cells, ↓SXd, SXu, slBounds, ↓sop, ↓aop, ↓reduceIte, LV.cells, AOp.dst, LV.I, LV.B, LV.U, LV.S, LV.nil, Nat.reduceEqDiff, Nat.reduceAdd, Nat.reduceMul, Nat.reduceSub, Nat.reduceLeDiff, Nat.reduceBEq, Nat.reduceDiv, Nat.reduceMod, Int.reduceToNat, Int.reduceLT, Int.reduceLE, Int.reduceAdd, Int.reduceSub, Int.reduceMul, Int.reduceEq, Int.reduceNeg, reduceCtorEq, resV, resAll, ARes.ev, LV.flat, ite_true, ite_false, exists_eq_left', exists_eq_left, keyOf, implies_true, fillC, capOf]
    refine callR_of (g_PartsOf U (by omega) hH) ?_
    rintro _ W13 ⟨u5, rfl, p13⟩
    replace B3 := B3.pre p13
    replace S1 := S1.pre p13
    replace S3 := S3.pre p13
    replace B12 := B12.pre p13
    replace B31 := B31.pre p13
    have hra := k_rAll S1.v (by omega) (by omega)
    have hra3 := k_rAll S3.v (by omega) (by omega)
    rw [h2] at hra3
    have hl1 := S1.v.lenV
    have hl3 := S3.v.lenV
    have hwl' : ((cs.length + tot cv : Nat) : Int) = (cs.length : Nat) + ((tot cv : Nat) : Int) := by omega
    rw [hwl'] at hwl
    have hpl := parts_len (x := x) (y := y) (z := z) 65 fun c => decide (c ∈ cs)
    generalize (parts x y z 65 fun c => decide (c ∈ cs)).length = np at h3 hpl ⊢
    have hnp : ¬ ((np : Nat) : Int) < (cl.length : Nat) := by omega
    simp (disch := omega) only [f3, f4, f5, f8, f12, f16, f20, B31.cell, B3.cell, hwl, hl1, hl3, ↓SXd, SXu, slBounds, ↓sop, ↓aop, ↓reduceIte, LV.cells, AOp.dst, LV.I, LV.B, LV.U, LV.S, LV.nil, Nat.reduceEqDiff, Nat.reduceAdd, Nat.reduceMul, Nat.reduceSub, Nat.reduceLeDiff, Nat.reduceBEq, Nat.reduceDiv, Nat.reduceMod, Int.reduceToNat, Int.reduceLT, Int.reduceLE, Int.reduceAdd, Int.reduceSub, Int.reduceMul, Int.reduceEq, Int.reduceNeg, reduceCtorEq, resV, resAll, ARes.ev, LV.flat, ite_true, ite_false, exists_eq_left', exists_eq_left, keyOf, implies_true, fillC, capOf]
    refine callK_of hra ?_
    simp (disch := omega) only [f3, f4, f5, f8, f12, f16, f20, B31.cell, B3.cell, hwl, hl1, hl3, hnp, beq_self_eq_true, Bool.not_true, ↓SXd, SXu, slBounds, ↓sop, ↓aop, ↓reduceIte, LV.cells, AOp.dst, LV.I, LV.B, LV.U, LV.S, LV.nil, Nat.reduceEqDiff, Nat.reduceAdd, Nat.reduceMul, Nat.reduceSub, Nat.reduceLeDiff, Nat.reduceBEq, Nat.reduceDiv, Nat.reduceMod, Int.reduceToNat, Int.reduceLT, Int.reduceLE, Int.reduceAdd, Int.reduceSub, Int.reduceMul, Int.reduceEq, Int.reduceNeg, reduceCtorEq, resV, resAll, ARes.ev, LV.flat, ite_true, ite_false, exists_eq_left', exists_eq_left, keyOf, implies_true, fillC, capOf]
    refine callK_of hra3 ?_
    subst h4
    simp (disch := omega) only [f3, f4, f5, f8, f12, f16, f20, B3.cell, B12.cell, hl1, hl3, ↓SXd, SXu, slBounds, ↓sop, ↓aop, ↓reduceIte, LV.cells, AOp.dst, LV.I, LV.B, LV.U, LV.S, LV.nil, Nat.reduceEqDiff, Nat.reduceAdd, Nat.reduceMul, Nat.reduceSub, Nat.reduceLeDiff, Nat.reduceBEq, Nat.reduceDiv, Nat.reduceMod, Int.reduceToNat, Int.reduceLT, Int.reduceLE, Int.reduceAdd, Int.reduceSub, Int.reduceMul, Int.reduceEq, Int.reduceNeg, reduceCtorEq, resV, resAll, ARes.ev, LV.flat, ite_true, ite_false, exists_eq_left', exists_eq_left, keyOf, implies_true, fillC, capOf]
    show LV.B (decide (e = (cl.length : Nat) + (cv.length : Nat) - tn)) = .B true
    exact eqB (decide_eq_true h6)
end Go.Ab

namespace Go.Ab
open Go Go.RowKit Go.Joins Go.ChangeShapes Go.WideShapes Go.Deep Go.WideElems Go.Maps

def RowOfB (w : World) (a : Option Addr) (len cap : Nat) (xs : List Nat) : Prop :=
  xs.length = len ∧ len ≤ cap ∧ cap ≤ maxLen ∧ (∀ b ∈ xs, b ≤ 255) ∧ (cap = 0 ∨ ∃ b o c e fz, a = some ⟨b, o, none⟩ ∧ w.heap[b]? = some (.cells c e fz) ∧ ∀ i, i < len → c[o + i]? = some (.int .u8 ((xs.getD i 0 : Nat) : Int)))

section
variable {H : Type} {enc : TypeId × Value → H} {P : Program} {w : World} {held : Bool}
theorem open_bytesB {ts ti : TypeId} {fuel : Nat} {cs : List Value} {x : DataW H × List MemPlace} (hts : P.underlying ts = some (.slice ti)) (hti : P.underlying ti = some (.int .u8)) (hci : P.cellsOf ti = 1)
    (h : DataW.trod enc P w 0 (fun _ => true) held fuel ts cs = some x) : ∃ a len cap xs, cs = [.slice a len cap] ∧ RowOfB w a len cap xs := by
  rcases Go.ChangeShapes.open_ints hts hti hci h with ⟨rfl, _⟩ | ⟨a, len, cap, zs, rfl, _, hl, hm, hz, _, hel, hwf⟩
  · exact ⟨none, 0, 0, [], rfl, rfl, Nat.le_refl _, Nat.zero_le _, by simp, .inl rfl⟩
  · have hzl : zs.length = cap := by simpa using hz
    have hby : ∀ n ∈ zs, 0 ≤ n ∧ n ≤ 255 := fun n hn => by
      have h1 := hwf n hn
      unfold Lit.wf at h1
      rw [Bool.and_eq_true, decide_eq_true_iff, decide_eq_true_iff] at h1
      exact h1
    refine ⟨some a, len, cap, (zs.take len).map Int.toNat, rfl, by simp; omega, hl, hm, fun b hb => ?_, ?_⟩
    · obtain ⟨n, hn, rfl⟩ := List.mem_map.1 hb
      have := hby n (List.mem_of_mem_take hn)
      omega
    rcases Nat.eq_zero_or_pos cap with h0 | h0
    · exact .inl h0
    · refine .inr ?_
      have hc0 := hel 0 (by omega)
      obtain ⟨b, o, c, e, fz, ha, hh, _⟩ := cell_heap hc0
      have ha' : a = ⟨b, o, none⟩ := by simpa [Addr.add] using ha
      subst ha'
      refine ⟨b, o, c, e, fz, rfl, hh, fun i hi => ?_⟩
      have hcell := hel i (by omega)
      have hadd : (⟨b, o, none⟩ : Addr).add i = ⟨b, o + i, none⟩ := addr_add _ _ _
      rw [hadd] at hcell
      unfold World.cell? at hcell
      simp only [hh] at hcell
      have hil : i < zs.length := by omega
      have hbi := hby _ (getD_mem' (d := 0) hil)
      have hg : ((((zs.take len).map Int.toNat).getD i 0 : Nat) : Int) = zs.getD i 0 := by
        have e1 : ((zs.take len).map Int.toNat).getD i 0 = (zs.getD i 0).toNat := by simp [hi, hil]
        rw [e1]; omega
      rw [hg]
      simpa using hcell
end
theorem byL_get {bs : List Nat} {i : Nat} (h : i < bs.length) : (byL bs)[i]? = some (.val (.int .u8 ((bs.getD i 0 : Nat) : Int))) := by simp [byL, h]
theorem Inv.addBytes' {G : Gh} {M : Mem} {w : World} (hi : Inv G M w) (hno : NoOwn M) {a : Option Addr} {len cap : Nat} {xs : List Nat} (h : RowOfB w a len cap xs) :
    ∃ (G' : Gh) (N : Mem) (t : Nat), Ext G G' ∧ Inv G' N w ∧ NoOwn N ∧ Pre M N ∧ VR1 G' (.ref t 0 len) (.slice a len cap) ∧ Bytes N t 0 xs := by
  obtain ⟨h1, h2, h3, _, h4⟩ := h
  have key : ∃ G', Ext G G' ∧ Inv G' (M ++ [some (.row (byL xs) false 1)]) w ∧ NoOwn (M ++ [some (.row (byL xs) false 1)]) ∧ VR1 G' (.ref M.length 0 len) (.slice a len cap) := by
    refine hi.addRow hno h2 (by rw [byL_len]; omega) ?_
    rcases h4 with h0 | ⟨b, o, c, e, fz, ha, hh, hc⟩
    · refine .inl ⟨h0, ?_⟩
      have : xs = [] := List.eq_nil_of_length_eq_zero (by omega)
      rw [this]; rfl
    · refine .inr ⟨b, o, c, e, fz, ha, hh, fun j l hj => ?_⟩
      have hjl : j < xs.length := by
        rw [← byL_len]
        rcases Nat.lt_or_ge j (byL xs).length with h | h
        · exact h
        · rw [List.getElem?_eq_none h] at hj; cases hj
      rw [byL_get hjl] at hj
      cases hj
      exact ⟨_, hc j (by omega), rfl, rfl⟩
  obtain ⟨G', k1, k2, k3, k4⟩ := key
  exact ⟨G', _, _, k1, k2, k3, Pre.app _ _, k4, Has.new⟩
def BytesZ (M : Mem) (t o : Nat) (bs : List Nat) : Prop := Bytes M t o bs ∧ getEsz M t = some 1
theorem RowOfB.le {w : World} {a : Option Addr} {len cap : Nat} {xs : List Nat} (h : RowOfB w a len cap xs) : xs.length ≤ 9223372036854775807 ∧ ∀ b ∈ xs, b ≤ 255 := by
  obtain ⟨h0, h1, h2, h3, _⟩ := h
  have := max63
  exact ⟨by omega, h3⟩
end Go.Ab
