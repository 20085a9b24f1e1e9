/- Parts of the proof of FnViewsSaid: Hk C_Vd K_Vd C_Vc K_Vc C_Um K_Um C_Ul K_Ul Ul Um Pw Vc Vd Ve Jo Jt C_Jy K_Jy Jy C_Ba K_Ba C_Jw K_Jw C_Jv K_Jv C_Ju K_Ju Tx Js Ju C_Ty K_Ty Ty C_Pf K_Pf Pf Jv Jw C_Bf K_Bf Bf C_Jp K_Jp C_Jb K_Jb C_Ja K_Ja C_Zd K_Zd C_Zc K_Zc C_Zb K_Zb C_Za K_Za Za C_Yh K_Yh C_Yf K_Yf Yf C_Gf K_Gf C_Gc K_Gc Gc Gf Yg Yh Zb C_Yi K_Yi Yi Zc Zd Ja Jb Jc Jf C_Jg K_Jg Jg Jp C_El K_El C_Ej K_Ej C_Ed2 K_Ed2 C_Ec2 K_Ec2 C_Eg K_Eg C_Ef K_Ef C_Ee K_Ee C_Ed K_Ed C_Ec K_Ec C_Eb3 K_Eb3 C_Eb2 K_Eb2 Eb2 Eb3 Mb Mc Md Ec Ed Ee Ef C_Dh K_Dh C_Dg K_Dg C_Df K_Df Df Dg Dh Eg Me Mf Ec2 Ed2 Mh Ej Mg Mi C_Ek K_Ek Ek. -/
import Derived.Test.YtphbahobldclbaaA6
import Derived.Test.YtphbahobldclbaaA4
import Derived.Test.YtphbahobldclbaaA7
import Derived.Test.YtphbahobldclbaaA3
import Derived.Test.YtphbahobldclbaaProg
import Derived.KernelRfl
import Derived.Test.YtphbahobldclbaaA5
import Derived.Laws.Bits64
set_option linter.all false
/- Contracts: the laws' helpers that compare cells and heaps; the program's turned, mirrored, cropped heaps and forms, exactly. -/
namespace Go.Ab
open Go
set_option linter.unusedSimpArgs false
set_option linter.unusedVariables false
set_option maxRecDepth 20000

theorem CellsV.lenV {N : Mem} {v : LV} {l : List Cell} (h : CellsV N v l) : lenV v = some (l.length : Int) := by
  rcases h with ⟨rfl, rfl⟩ | ⟨t, o, rfl, _⟩ <;> rfl
theorem CellsV.at {N : Mem} {v : LV} {l : List Cell} {k : Nat} (h : CellsV N v l) (hk : k < l.length) : ∃ t o, v = .ref t o l.length ∧ getCells N t (o + k * 3) 3 = some (l.getD k default).row := by
  rcases h with ⟨rfl, rfl⟩ | ⟨t, o, rfl, h⟩
  · simp at hk
  · exact ⟨t, o, rfl, Tri.get h hk⟩
theorem list_ext {α : Type} {l l' : List α} {d : α} (hl : l.length = l'.length) (h : ∀ j, j < l.length → l.getD j d = l'.getD j d) : l = l' := by
  apply List.ext_getElem hl
  intro i h2 h3
  have := h i h2
  simpa [h2, h3] using this
theorem k_rCells {l l' : List Cell} {v v' : LV} {M : Mem} (h : CellsV M v l) (h' : CellsV M v' l') (hn : l.length ≤ 1000000000) (hn' : l'.length ≤ 1000000000) : CallsTo PG F.laws_rCells [v, v'] M (.B (decide (l = l'))) M := by
  refine calls_run K.laws_rCells rfl ?_
  have hv := h.lenV
  have hv' := h'.lenV
  by_cases hl : (l.length : Int) = l'.length
  rotate_left
  · rw [decide_eq_false (fun e => hl (by rw [e]))]
    simp (disch := omega) only [C.laws_rCells, hv, hv', hl, ↓SXd, SXu, slBounds, ↓sop, ↓aop, ↓reduceIte, LV.cells, AOp.dst, LV.I, LV.B, LV.U, LV.S, LV.nil, Nat.reduceEqDiff, Nat.reduceAdd, Nat.reduceMul, Nat.reduceSub, Nat.reduceLeDiff, Nat.reduceBEq, Nat.reduceDiv, Nat.reduceMod, Int.reduceToNat, Int.reduceLT, Int.reduceLE, Int.reduceAdd, Int.reduceSub, Int.reduceMul, Int.reduceEq, Int.reduceNeg, reduceCtorEq, resV, resAll, ARes.ev, LV.flat, ite_true, ite_false, exists_eq_left', exists_eq_left, keyOf, implies_true, fillC, capOf]
    exact cmp_drop0 rfl
  have hln : l.length = l'.length := by omega
  simp (disch := omega) only [C.laws_rCells, hv, hv', hl, ↓SXd, SXu, slBounds, ↓sop, ↓aop, ↓reduceIte, LV.cells, AOp.dst, LV.I, LV.B, LV.U, LV.S, LV.nil, Nat.reduceEqDiff, Nat.reduceAdd, Nat.reduceMul, Nat.reduceSub, Nat.reduceLeDiff, Nat.reduceBEq, Nat.reduceDiv, Nat.reduceMod, Int.reduceToNat, Int.reduceLT, Int.reduceLE, Int.reduceAdd, Int.reduceSub, Int.reduceMul, Int.reduceEq, Int.reduceNeg, reduceCtorEq, resV, resAll, ARes.ev, LV.flat, ite_true, ite_false, exists_eq_left', exists_eq_left, keyOf, implies_true, fillC, capOf]
  refine ev_loop (fun m fr M' => ∃ k : Nat, k + m = l.length ∧ M' = M ∧ fr 0 = v ∧ fr 1 = v' ∧ fr 5 = .I k ∧ ∀ j, j < k → l.getD j default = l'.getD j default) l.length ⟨0, by omega, rfl, rfl, rfl, rfl, by omega⟩ ?_
  rintro m fr M' ⟨k, hk, rfl, h0, h1, h5, hj⟩
  simp (disch := omega) only [h0, h1, h5, hv, ↓SXd, SXu, slBounds, ↓sop, ↓aop, ↓reduceIte, LV.cells, AOp.dst, LV.I, LV.B, LV.U, LV.S, LV.nil, Nat.reduceEqDiff, Nat.reduceAdd, Nat.reduceMul, Nat.reduceSub, Nat.reduceLeDiff, Nat.reduceBEq, Nat.reduceDiv, Nat.reduceMod, Int.reduceToNat, Int.reduceLT, Int.reduceLE, Int.reduceAdd, Int.reduceSub, Int.reduceMul, Int.reduceEq, Int.reduceNeg, reduceCtorEq, resV, resAll, ARes.ev, LV.flat, ite_true, ite_false, exists_eq_left', exists_eq_left, keyOf, implies_true, fillC, capOf]
  refine condC_dec (fun hlt => ?_) (fun hlt => ?_)
  · obtain ⟨t, o, rfl, hg⟩ := h.at (k := k) (by omega)
    obtain ⟨t', o', rfl, hg'⟩ := h'.at (k := k) (by omega)
    simp (disch := omega) only [h0, h1, h5, hg, hg', Cell.row, eqV, eqC, if_true, ite_true, Bool.and_true, ↓SXd, SXu, slBounds, ↓sop, ↓aop, ↓reduceIte, LV.cells, AOp.dst, LV.I, LV.B, LV.U, LV.S, LV.nil, Nat.reduceEqDiff, Nat.reduceAdd, Nat.reduceMul, Nat.reduceSub, Nat.reduceLeDiff, Nat.reduceBEq, Nat.reduceDiv, Nat.reduceMod, Int.reduceToNat, Int.reduceLT, Int.reduceLE, Int.reduceAdd, Int.reduceSub, Int.reduceMul, Int.reduceEq, Int.reduceNeg, reduceCtorEq, resV, resAll, ARes.ev, LV.flat, ite_true, ite_false, exists_eq_left', exists_eq_left, keyOf, implies_true, fillC, capOf]
    rw [beq3]
    by_cases he : l.getD k default = l'.getD k default
    · simp (disch := omega) only [h0, h1, h5, he, ↓SXd, SXu, slBounds, ↓sop, ↓aop, ↓reduceIte, LV.cells, AOp.dst, LV.I, LV.B, LV.U, LV.S, LV.nil, Nat.reduceEqDiff, Nat.reduceAdd, Nat.reduceMul, Nat.reduceSub, Nat.reduceLeDiff, Nat.reduceBEq, Nat.reduceDiv, Nat.reduceMod, Int.reduceToNat, Int.reduceLT, Int.reduceLE, Int.reduceAdd, Int.reduceSub, Int.reduceMul, Int.reduceEq, Int.reduceNeg, reduceCtorEq, resV, resAll, ARes.ev, LV.flat, ite_true, ite_false, exists_eq_left', exists_eq_left, keyOf, implies_true, fillC, capOf]
      exact ⟨m - 1, by omega, k + 1, by omega, rfl, h0, h1, eqI (natI _), fun j hj1 => by
        rcases Nat.lt_or_ge j k with h2 | h2
        · exact hj j h2
        · rw [show j = k by omega]; exact he⟩
    · simp (disch := omega) only [h0, h1, h5, he, ↓SXd, SXu, slBounds, ↓sop, ↓aop, ↓reduceIte, LV.cells, AOp.dst, LV.I, LV.B, LV.U, LV.S, LV.nil, Nat.reduceEqDiff, Nat.reduceAdd, Nat.reduceMul, Nat.reduceSub, Nat.reduceLeDiff, Nat.reduceBEq, Nat.reduceDiv, Nat.reduceMod, Int.reduceToNat, Int.reduceLT, Int.reduceLE, Int.reduceAdd, Int.reduceSub, Int.reduceMul, Int.reduceEq, Int.reduceNeg, reduceCtorEq, resV, resAll, ARes.ev, LV.flat, ite_true, ite_false, exists_eq_left', exists_eq_left, keyOf, implies_true, fillC, capOf]
      rw [decide_eq_false (fun e => he (by rw [e]))]
      exact cmp_drop0 rfl
  · simp (disch := omega) only [h0, h1, h5, ↓SXd, SXu, slBounds, ↓sop, ↓aop, ↓reduceIte, LV.cells, AOp.dst, LV.I, LV.B, LV.U, LV.S, LV.nil, Nat.reduceEqDiff, Nat.reduceAdd, Nat.reduceMul, Nat.reduceSub, Nat.reduceLeDiff, Nat.reduceBEq, Nat.reduceDiv, Nat.reduceMod, Int.reduceToNat, Int.reduceLT, Int.reduceLE, Int.reduceAdd, Int.reduceSub, Int.reduceMul, Int.reduceEq, Int.reduceNeg, reduceCtorEq, resV, resAll, ARes.ev, LV.flat, ite_true, ite_false, exists_eq_left', exists_eq_left, keyOf, implies_true, fillC, capOf]
    rw [decide_eq_true (list_ext hln fun j hj1 => hj j (by omega))]
    exact cmp_drop0 rfl
theorem k_rHeap {g h : Hp} {v v' : LV} {M : Mem} (hg : CellsV M v g.cs) (hh : CellsV M v' h.cs) (hn : g.cs.length ≤ 1000000000) (hn' : h.cs.length ≤ 1000000000) :
    CallsTo PG F.laws_rHeap [.agg [.I g.x, .I g.y, .I g.z, v], .agg [.I h.x, .I h.y, .I h.z, v']] M (.B (decide (g.dims = h.dims ∧ g.cs = h.cs))) M := by
  refine calls_run K.laws_rHeap rfl ?_
  by_cases h1 : g.x = h.x
  rotate_left
  · rw [decide_eq_false (fun e => h1 (congrArg Cell.a e.1))]
    simp (disch := omega) only [C.laws_rHeap, h1, ↓SXd, SXu, slBounds, ↓sop, ↓aop, ↓reduceIte, LV.cells, AOp.dst, LV.I, LV.B, LV.U, LV.S, LV.nil, Nat.reduceEqDiff, Nat.reduceAdd, Nat.reduceMul, Nat.reduceSub, Nat.reduceLeDiff, Nat.reduceBEq, Nat.reduceDiv, Nat.reduceMod, Int.reduceToNat, Int.reduceLT, Int.reduceLE, Int.reduceAdd, Int.reduceSub, Int.reduceMul, Int.reduceEq, Int.reduceNeg, reduceCtorEq, resV, resAll, ARes.ev, LV.flat, ite_true, ite_false, exists_eq_left', exists_eq_left, keyOf, implies_true, fillC, capOf]
    exact cmp_drop rfl
  by_cases h2 : g.y = h.y
  rotate_left
  · rw [decide_eq_false (fun e => h2 (congrArg Cell.b e.1))]
    simp (disch := omega) only [C.laws_rHeap, h1, h2, ↓SXd, SXu, slBounds, ↓sop, ↓aop, ↓reduceIte, LV.cells, AOp.dst, LV.I, LV.B, LV.U, LV.S, LV.nil, Nat.reduceEqDiff, Nat.reduceAdd, Nat.reduceMul, Nat.reduceSub, Nat.reduceLeDiff, Nat.reduceBEq, Nat.reduceDiv, Nat.reduceMod, Int.reduceToNat, Int.reduceLT, Int.reduceLE, Int.reduceAdd, Int.reduceSub, Int.reduceMul, Int.reduceEq, Int.reduceNeg, reduceCtorEq, resV, resAll, ARes.ev, LV.flat, ite_true, ite_false, exists_eq_left', exists_eq_left, keyOf, implies_true, fillC, capOf]
    exact cmp_drop rfl
  by_cases h3 : g.z = h.z
  rotate_left
  · rw [decide_eq_false (fun e => h3 (congrArg Cell.c e.1))]
    simp (disch := omega) only [C.laws_rHeap, h1, h2, h3, ↓SXd, SXu, slBounds, ↓sop, ↓aop, ↓reduceIte, LV.cells, AOp.dst, LV.I, LV.B, LV.U, LV.S, LV.nil, Nat.reduceEqDiff, Nat.reduceAdd, Nat.reduceMul, Nat.reduceSub, Nat.reduceLeDiff, Nat.reduceBEq, Nat.reduceDiv, Nat.reduceMod, Int.reduceToNat, Int.reduceLT, Int.reduceLE, Int.reduceAdd, Int.reduceSub, Int.reduceMul, Int.reduceEq, Int.reduceNeg, reduceCtorEq, resV, resAll, ARes.ev, LV.flat, ite_true, ite_false, exists_eq_left', exists_eq_left, keyOf, implies_true, fillC, capOf]
    exact cmp_drop rfl
  have hd : g.dims = h.dims := by unfold Hp.dims; rw [h1, h2, h3]
  simp (disch := omega) only [C.laws_rHeap, h1, h2, h3, ↓SXd, SXu, slBounds, ↓sop, ↓aop, ↓reduceIte, LV.cells, AOp.dst, LV.I, LV.B, LV.U, LV.S, LV.nil, Nat.reduceEqDiff, Nat.reduceAdd, Nat.reduceMul, Nat.reduceSub, Nat.reduceLeDiff, Nat.reduceBEq, Nat.reduceDiv, Nat.reduceMod, Int.reduceToNat, Int.reduceLT, Int.reduceLE, Int.reduceAdd, Int.reduceSub, Int.reduceMul, Int.reduceEq, Int.reduceNeg, reduceCtorEq, resV, resAll, ARes.ev, LV.flat, ite_true, ite_false, exists_eq_left', exists_eq_left, keyOf, implies_true, fillC, capOf]
  refine callK_of (k_rCells (hg.pre (Pre.app _ _)) (hh.pre (Pre.app _ _)) hn hn') ?_
  simp (disch := omega) only [↓SXd, SXu, slBounds, ↓sop, ↓aop, ↓reduceIte, LV.cells, AOp.dst, LV.I, LV.B, LV.U, LV.S, LV.nil, Nat.reduceEqDiff, Nat.reduceAdd, Nat.reduceMul, Nat.reduceSub, Nat.reduceLeDiff, Nat.reduceBEq, Nat.reduceDiv, Nat.reduceMod, Int.reduceToNat, Int.reduceLT, Int.reduceLE, Int.reduceAdd, Int.reduceSub, Int.reduceMul, Int.reduceEq, Int.reduceNeg, reduceCtorEq, resV, resAll, ARes.ev, LV.flat, ite_true, ite_false, exists_eq_left', exists_eq_left, keyOf, implies_true, fillC, capOf]
  rw [show decide (g.dims = h.dims ∧ g.cs = h.cs) = decide (g.cs = h.cs) from decide_eq_decide.2 ⟨fun e => e.2, fun e => ⟨hd, e⟩⟩]
  exact cmp_drop rfl
section
variable {x y z : Int} {t : Nat} {w : Bool} {cs : List Cell} {M : Mem} (h : Live M t (.row (triL cs) w 3)) (hH : HeapOK x y z cs)
include h hH
end
end Go.Ab

/- The abstract code of some functions (written by a program of mine from the translation, by way of prepF). -/
namespace Go.Ab.C
open Go.Ab
end Go.Ab.C

/- That the program has this code. -/
namespace Go.Ab.K
open Go Go.Ab
end Go.Ab.K

/- The abstract code of some functions (written by a program of mine from the translation, by way of prepF). -/
namespace Go.Ab.C
open Go.Ab
end Go.Ab.C

/- That the program has this code. -/
namespace Go.Ab.K
open Go Go.Ab
end Go.Ab.K

/- The abstract code of some functions (written by a program of mine from the translation, by way of prepF). -/
namespace Go.Ab.C
open Go.Ab
end Go.Ab.C

/- That the program has this code. -/
namespace Go.Ab.K
open Go Go.Ab
end Go.Ab.K

/- The abstract code of some functions (written by a program of mine from the translation, by way of prepF). -/
namespace Go.Ab.C
open Go.Ab
def impl_box_shadow : AFn :=
 ⟨2, 50, [.cellN 4 6],
 .seq (.ops [(none, .box 2 (.t 0)),
 (none, .alloc 4 [(.I 0), (.I 0), (.I 0), .nil, .nil, .nil])])
 (.seq (.ops [(none, .build 9 [.nil, .nil, .nil] []),
 (none, .alloc 5 [.nil, .nil, .nil]),
 (none, .store 3 (.t 5) (.t 9))])
 (.seq (.seq (.ops [(none, .mv 10 (.c (.I 0)))])
 (.block 0 (.loop (.seq (.ops [(none, .bin 11 .lss (.t 10) (.c (.I 3)))])
 (.seq (.cond (.t 11) (.skip)
 (.exit 0))
 (.seq (.block 1 (.seq (.ops [(none, .mv 12 (.t 10)),
 (none, .mv 6 (.t 12))])
 (.seq (.ops [(none, .mv 13 (.t 6)),
 (none, .loadN 14 3 (.t 2)),
 (none, .mv 15 (.t 1)),
 (none, .mv 16 (.t 6)),
 (none, .call (some 17) F.impl_box_view [(.t 14), (.t 15), (.t 16)]),
 (none, .idxA 18 3 1 (.t 5) (.t 13)),
 (none, .store 1 (.t 18) (.t 17))])
 (.seq (.ops [(none, .mv 19 (.t 6)),
 (none, .idxA 20 3 1 (.t 5) (.t 19)),
 (none, .load1 21 (.t 20)),
 (none, .len 22 (.t 21)),
 (none, .mv 23 (.c (.I 0)))])
 (.block 2 (.loop (.seq (.ops [(none, .bin 24 .lss (.t 23) (.t 22))])
 (.seq (.cond (.t 24) (.skip)
 (.exit 2))
 (.seq (.block 3 (.seq (.ops [(none, .mv 25 (.t 23)),
 (none, .idxS 26 1 (.t 21) (.t 23)),
 (none, .load1 27 (.t 26)),
 (none, .mv 7 (.t 25)),
 (none, .mv 8 (.t 27))])
 (.ops [(none, .mv 28 (.t 6)),
 (none, .idxA 29 3 1 (.t 5) (.t 28)),
 (none, .load1 30 (.t 29)),
 (none, .mv 31 (.t 7)),
 (none, .mv 32 (.t 8)),
 (none, .mm 33 false [(.t 32), (.c (.I 1))]),
 (none, .idxS 34 1 (.t 30) (.t 31)),
 (none, .store 1 (.t 34) (.t 33))])))
 (.ops [(none, .bin 35 .add (.t 23) (.c (.I 1))),
 (none, .mv 23 (.t 35))]))))))))))
 (.ops [(none, .bin 36 .add (.t 10) (.c (.I 1))),
 (none, .mv 10 (.t 36))])))))))
 (.seq (.ops [(none, .idxA 37 3 1 (.t 2) (.c (.I 0))),
 (none, .load1 38 (.t 37)),
 (none, .idxA 39 3 1 (.t 2) (.c (.I 1))),
 (none, .load1 40 (.t 39)),
 (none, .idxA 41 3 1 (.t 2) (.c (.I 2))),
 (none, .load1 42 (.t 41)),
 (none, .idxA 43 3 1 (.t 5) (.c (.I 2))),
 (none, .load1 44 (.t 43)),
 (none, .idxA 45 3 1 (.t 5) (.c (.I 1))),
 (none, .load1 46 (.t 45)),
 (none, .idxA 47 3 1 (.t 5) (.c (.I 0))),
 (none, .load1 48 (.t 47)),
 (none, .build 49 [(.I 0), (.I 0), (.I 0), .nil, .nil, .nil] [(0, 1, (.t 38)), (1, 1, (.t 40)), (2, 1, (.t 42)), (3, 1, (.t 44)), (4, 1, (.t 46)), (5, 1, (.t 48))]),
 (none, .store 6 (.t 4) (.t 49))])
 (.ret))))⟩
end Go.Ab.C

/- That the program has this code. -/
namespace Go.Ab.K
open Go Go.Ab
theorem impl_box_shadow : prepF Go.Proofs.Try.prog F.impl_box_shadow = some C.impl_box_shadow := by kernel_rfl
end Go.Ab.K

/- Contracts: shadows of sets, the program's side. -/
namespace Go.Ab
open Go
set_option linter.unusedSimpArgs false
set_option linter.unusedVariables false
set_option maxRecDepth 20000

def onesTo (k : Nat) (v : List Int) : List Int := onesL (v.take k) ++ v.drop k
theorem onesTo_step {v : List Int} {k : Nat} (h : k < v.length) : (onesTo k v).set k (min (v.getD k 0) 1) = onesTo (k + 1) v := by
  have hl : (onesL (v.take k)).length = k := by rw [onesL_len]; simp; omega
  unfold onesTo
  have e : v.getD k 0 = v[k] := by simp [h]
  rw [List.set_append_right _ _ (by omega), hl, Nat.sub_self, List.drop_eq_getElem_cons h, List.set_cons_zero, List.take_succ, List.getElem?_eq_getElem h, e]
  simp only [onesL, List.map_append, Option.toList_some, List.map_cons, List.map_nil, List.append_assoc, List.cons_append, List.nil_append]
theorem onesTo_get {v : List Int} {k : Nat} (h : k < v.length) : (onesTo k v).getD k 0 = v.getD k 0 := by
  have hl : (onesL (v.take k)).length = k := by rw [onesL_len]; simp; omega
  unfold onesTo
  rw [List.getD_eq_getElem?_getD, List.getElem?_append_right (by omega), hl, Nat.sub_self, List.getElem?_drop]
  simp [h]
theorem onesTo_len {v : List Int} {k : Nat} : (onesTo k v).length = v.length := by
  unfold onesTo; rw [List.length_append, onesL_len, ← List.length_append, List.take_append_drop]

theorem g_shadow {x y z : Int} {p : Cell → Bool} {M : Mem} (hS : Sides x y z) : CallsR PG F.impl_box_shadow [.agg [.I x, .I y, .I z], .W (bs x y z p)] M
    (ShdRes M x y z (shdOf x y z 2 (pick x y z p)) (shdOf x y z 1 (pick x y z p)) (shdOf x y z 0 (pick x y z p))) := by
  refine callsR_run K.impl_box_shadow rfl ?_
  simp (disch := omega) only [C.impl_box_shadow, ↓SXd, SXu, slBounds, ↓sop, ↓aop, ↓reduceIte, LV.cells, AOp.dst, LV.I, LV.B, LV.U, LV.S, LV.nil, Nat.reduceEqDiff, Nat.reduceAdd, Nat.reduceMul, Nat.reduceSub, Nat.reduceLeDiff, Nat.reduceBEq, Nat.reduceDiv, Nat.reduceMod, Int.reduceToNat, Int.reduceLT, Int.reduceLE, Int.reduceAdd, Int.reduceSub, Int.reduceMul, Int.reduceEq, Int.reduceNeg, reduceCtorEq, resV, resAll, ARes.ev, LV.flat, ite_true, ite_false, exists_eq_left', exists_eq_left, keyOf, implies_true, fillC, capOf]
  refine ev_loop (fun m fr M' => ∃ (d : Nat) (vs : List LV), d + m = 3 ∧ Pre M M' ∧ Live M' M.length (.row [.I x, .I y, .I z] true 0) ∧ Live M' (M.length + 1) (.row [.I 0, .I 0, .I 0, .nil, .nil, .nil] true 0) ∧ Live M' (M.length + 2) (.row vs true 0) ∧ vs.length = 3 ∧
    fr 1 = .W (bs x y z p) ∧ fr 2 = .ptr M.length 0 ∧ fr 4 = .ptr (M.length + 1) 0 ∧ fr 5 = .ptr (M.length + 2) 0 ∧ fr 10 = .I d ∧ (∀ j, j < d → ∃ a, vs[j]? = some (.ref a 0 (shdOf x y z j (pick x y z p)).length) ∧ M.length + 2 < a ∧ Live M' a (.row (intL (shdOf x y z j (pick x y z p))) true 1)) ∧
    (∀ i j a b n m, i < d → j < d → i ≠ j → vs[i]? = some (.ref a 0 n) → vs[j]? = some (.ref b 0 m) → a ≠ b)) 3
    ⟨0, [.nil, .nil, .nil], rfl, Pre.app _ _, Live.new, Live.newj rfl, Live.newj rfl, rfl, rfl, rfl, rfl, rfl, rfl, by omega, by omega⟩ ?_
  rintro m fr M' ⟨d, vs, hd, hpre, b2, b4, b5, hvl, f1, f2, f4, f5, f10, hj, hne⟩
  simp (disch := omega) only [f1, f2, f4, f5, f10, ↓SXd, SXu, slBounds, ↓sop, ↓aop, ↓reduceIte, LV.cells, AOp.dst, LV.I, LV.B, LV.U, LV.S, LV.nil, Nat.reduceEqDiff, Nat.reduceAdd, Nat.reduceMul, Nat.reduceSub, Nat.reduceLeDiff, Nat.reduceBEq, Nat.reduceDiv, Nat.reduceMod, Int.reduceToNat, Int.reduceLT, Int.reduceLE, Int.reduceAdd, Int.reduceSub, Int.reduceMul, Int.reduceEq, Int.reduceNeg, reduceCtorEq, resV, resAll, ARes.ev, LV.flat, ite_true, ite_false, exists_eq_left', exists_eq_left, keyOf, implies_true, fillC, capOf]
  refine condC_dec (fun hlt => ?_) (fun hlt => ?_)
  · have hd3 : d < 3 := by omega
    have hll := lines_le hS hd3
    have hvw := viewL_len (x := x) (y := y) (z := z) (d := d) (cs := pick x y z p)
    simp (disch := omega) only [f1, f2, f4, f5, f10, b2.cells, ↓SXd, SXu, slBounds, ↓sop, ↓aop, ↓reduceIte, LV.cells, AOp.dst, LV.I, LV.B, LV.U, LV.S, LV.nil, Nat.reduceEqDiff, Nat.reduceAdd, Nat.reduceMul, Nat.reduceSub, Nat.reduceLeDiff, Nat.reduceBEq, Nat.reduceDiv, Nat.reduceMod, Int.reduceToNat, Int.reduceLT, Int.reduceLE, Int.reduceAdd, Int.reduceSub, Int.reduceMul, Int.reduceEq, Int.reduceNeg, reduceCtorEq, resV, resAll, ARes.ev, LV.flat, ite_true, ite_false, exists_eq_left', exists_eq_left, keyOf, implies_true, fillC, capOf]
    refine callN_of (g_view hS hd3) ?_
    intro t N ht hp2 hn
    have b52 := b5.pre hp2
    simp (disch := omega) only [f1, f2, f4, f5, f10, ↓SXd, SXu, slBounds, ↓sop, ↓aop, ↓reduceIte, LV.cells, AOp.dst, LV.I, LV.B, LV.U, LV.S, LV.nil, Nat.reduceEqDiff, Nat.reduceAdd, Nat.reduceMul, Nat.reduceSub, Nat.reduceLeDiff, Nat.reduceBEq, Nat.reduceDiv, Nat.reduceMod, Int.reduceToNat, Int.reduceLT, Int.reduceLE, Int.reduceAdd, Int.reduceSub, Int.reduceMul, Int.reduceEq, Int.reduceNeg, reduceCtorEq, resV, resAll, ARes.ev, LV.flat, ite_true, ite_false, exists_eq_left', exists_eq_left, keyOf, implies_true, fillC, capOf]
    refine memK_one b52 (by omega) fun N2 k1 k2 k3 => ?_
    have hb5 := b5.lt
    have hn2 := live_step hn (by omega) k3
    have hset : (vs.set d (.ref t 0 (viewL x y z d (pick x y z p)).length))[d]? = some (.ref t 0 (viewL x y z d (pick x y z p)).length) := by rw [List.getElem?_set_self (by omega)]
    simp (disch := omega) only [f1, f2, f4, f5, f10, k2.cell, hset, ↓SXd, SXu, slBounds, ↓sop, ↓aop, ↓reduceIte, LV.cells, AOp.dst, LV.I, LV.B, LV.U, LV.S, LV.nil, Nat.reduceEqDiff, Nat.reduceAdd, Nat.reduceMul, Nat.reduceSub, Nat.reduceLeDiff, Nat.reduceBEq, Nat.reduceDiv, Nat.reduceMod, Int.reduceToNat, Int.reduceLT, Int.reduceLE, Int.reduceAdd, Int.reduceSub, Int.reduceMul, Int.reduceEq, Int.reduceNeg, reduceCtorEq, resV, resAll, ARes.ev, LV.flat, ite_true, ite_false, exists_eq_left', exists_eq_left, keyOf, implies_true, fillC, capOf]
    have hpre2 : Pre M N2 := pre_step (hpre.trans hp2) (by omega) (j := 0) k1 k3
    have hk2 := live_step (b2.pre hp2) (by omega) k3
    have hk4 := live_step (b4.pre hp2) (by omega) k3
    have hj2 : ∀ j, j < d → ∃ a, (vs.set d (.ref t 0 (viewL x y z d (pick x y z p)).length))[j]? = some (.ref a 0 (shdOf x y z j (pick x y z p)).length) ∧ M.length + 2 < a ∧ a ≠ t ∧ Live N2 a (.row (intL (shdOf x y z j (pick x y z p))) true 1) := fun j hjd => by
      obtain ⟨a, h1, h2, h3⟩ := hj j hjd
      have := h3.lt
      exact ⟨a, by rw [List.getElem?_set_ne (by omega)]; exact h1, h2, by omega, live_step (h3.pre hp2) (by omega) k3⟩
    generalize hV : vs.set d (.ref t 0 (viewL x y z d (pick x y z p)).length) = V at k2 hset hj2
    have hVl : V.length = 3 := by rw [← hV]; simpa using hvl
    refine ev_loop (fun m2 fr2 M2 => ∃ i : Nat, i + m2 = (viewL x y z d (pick x y z p)).length ∧ Pre M M2 ∧ Live M2 M.length (.row [.I x, .I y, .I z] true 0) ∧ Live M2 (M.length + 1) (.row [.I 0, .I 0, .I 0, .nil, .nil, .nil] true 0) ∧ Live M2 (M.length + 2) (.row V true 0) ∧
      Live M2 t (.row (intL (onesTo i (viewL x y z d (pick x y z p)))) true 1) ∧ (∀ j, j < d → ∃ a, V[j]? = some (.ref a 0 (shdOf x y z j (pick x y z p)).length) ∧ M.length + 2 < a ∧ a ≠ t ∧ Live M2 a (.row (intL (shdOf x y z j (pick x y z p))) true 1)) ∧
      fr2 1 = .W (bs x y z p) ∧ fr2 2 = .ptr M.length 0 ∧ fr2 4 = .ptr (M.length + 1) 0 ∧ fr2 5 = .ptr (M.length + 2) 0 ∧ fr2 6 = .I d ∧ fr2 10 = .I d ∧ fr2 21 = .ref t 0 (viewL x y z d (pick x y z p)).length ∧ fr2 22 = .I (viewL x y z d (pick x y z p)).length ∧ fr2 23 = .I i) (viewL x y z d (pick x y z p)).length
      ⟨0, by omega, hpre2, hk2, hk4, k2, hn2, hj2, f1, f2, f4, f5, rfl, f10, rfl, rfl, rfl⟩ ?_
    rintro m2 fr2 M2 ⟨i, hi, p2, c2, c4, c5, ct, cj, g1, g2, g4, g5, g6, g10, g21, g22, g23⟩
    simp (disch := omega) only [g1, g2, g4, g5, g6, g10, g21, g22, g23, ↓SXd, SXu, slBounds, ↓sop, ↓aop, ↓reduceIte, LV.cells, AOp.dst, LV.I, LV.B, LV.U, LV.S, LV.nil, Nat.reduceEqDiff, Nat.reduceAdd, Nat.reduceMul, Nat.reduceSub, Nat.reduceLeDiff, Nat.reduceBEq, Nat.reduceDiv, Nat.reduceMod, Int.reduceToNat, Int.reduceLT, Int.reduceLE, Int.reduceAdd, Int.reduceSub, Int.reduceMul, Int.reduceEq, Int.reduceNeg, reduceCtorEq, resV, resAll, ARes.ev, LV.flat, ite_true, ite_false, exists_eq_left', exists_eq_left, keyOf, implies_true, fillC, capOf]
    refine condC_dec (fun hlt2 => ?_) (fun hlt2 => ?_)
    · have hil : i < (viewL x y z d (pick x y z p)).length := by omega
      have hol := onesTo_len (v := viewL x y z d (pick x y z p)) (k := i)
      have hg := Ints.get ct.has (k := i) (by omega)
      rw [onesTo_get hil, Nat.zero_add] at hg
      have hst := onesTo_step hil
      simp (disch := omega) only [g1, g2, g4, g5, g6, g10, g21, g22, g23, hg, Nat.mul_one, c5.cell, hset, maxV, if_true, ite_true, ↓SXd, SXu, slBounds, ↓sop, ↓aop, ↓reduceIte, LV.cells, AOp.dst, LV.I, LV.B, LV.U, LV.S, LV.nil, Nat.reduceEqDiff, Nat.reduceAdd, Nat.reduceMul, Nat.reduceSub, Nat.reduceLeDiff, Nat.reduceBEq, Nat.reduceDiv, Nat.reduceMod, Int.reduceToNat, Int.reduceLT, Int.reduceLE, Int.reduceAdd, Int.reduceSub, Int.reduceMul, Int.reduceEq, Int.reduceNeg, reduceCtorEq, resV, resAll, ARes.ev, LV.flat, ite_true, ite_false, exists_eq_left', exists_eq_left, keyOf, implies_true, fillC, capOf]
      refine memK_int (k := i) ct (by omega) fun N3 q1 q2 q3 => ?_
      simp (disch := omega) only [g1, g2, g4, g5, g6, g10, g21, g22, g23, ↓SXd, SXu, slBounds, ↓sop, ↓aop, ↓reduceIte, LV.cells, AOp.dst, LV.I, LV.B, LV.U, LV.S, LV.nil, Nat.reduceEqDiff, Nat.reduceAdd, Nat.reduceMul, Nat.reduceSub, Nat.reduceLeDiff, Nat.reduceBEq, Nat.reduceDiv, Nat.reduceMod, Int.reduceToNat, Int.reduceLT, Int.reduceLE, Int.reduceAdd, Int.reduceSub, Int.reduceMul, Int.reduceEq, Int.reduceNeg, reduceCtorEq, resV, resAll, ARes.ev, LV.flat, ite_true, ite_false, exists_eq_left', exists_eq_left, keyOf, implies_true, fillC, capOf]
      rw [hst] at q2
      exact ⟨m2 - 1, by omega, i + 1, by omega, pre_step p2 (by omega) (j := 0) q1 q3, live_step c2 (by omega) q3, live_step c4 (by omega) q3, live_step c5 (by omega) q3, q2, fun j hjd => by
        obtain ⟨a, h1, h2, h3, h4⟩ := cj j hjd
        exact ⟨a, h1, h2, h3, live_step h4 h3 q3⟩, g1, g2, g4, g5, g6, g10, g21, g22, eqI (natI _)⟩
    · simp (disch := omega) only [g1, g2, g4, g5, g6, g10, g21, g22, g23, ↓SXd, SXu, slBounds, ↓sop, ↓aop, ↓reduceIte, LV.cells, AOp.dst, LV.I, LV.B, LV.U, LV.S, LV.nil, Nat.reduceEqDiff, Nat.reduceAdd, Nat.reduceMul, Nat.reduceSub, Nat.reduceLeDiff, Nat.reduceBEq, Nat.reduceDiv, Nat.reduceMod, Int.reduceToNat, Int.reduceLT, Int.reduceLE, Int.reduceAdd, Int.reduceSub, Int.reduceMul, Int.reduceEq, Int.reduceNeg, reduceCtorEq, resV, resAll, ARes.ev, LV.flat, ite_true, ite_false, exists_eq_left', exists_eq_left, keyOf, implies_true, fillC, capOf]
      have : i = (viewL x y z d (pick x y z p)).length := by omega
      subst this
      have hfin : onesTo (viewL x y z d (pick x y z p)).length (viewL x y z d (pick x y z p)) = shdOf x y z d (pick x y z p) := by unfold onesTo shdOf; simp
      rw [hfin] at ct
      have hsl : (viewL x y z d (pick x y z p)).length = (shdOf x y z d (pick x y z p)).length := by unfold shdOf; rw [onesL_len]
      rw [hsl] at hset
      have hall : ∀ j, j < d + 1 → ∃ a, V[j]? = some (.ref a 0 (shdOf x y z j (pick x y z p)).length) ∧ M.length + 2 < a ∧ (j = d → a = t) ∧ (j < d → a ≠ t) ∧ Live M2 a (.row (intL (shdOf x y z j (pick x y z p))) true 1) := fun j hjd => by
        rcases Nat.lt_or_ge j d with h | h
        · obtain ⟨a, h1, h2, h3, h4⟩ := cj j h
          exact ⟨a, h1, h2, by omega, fun _ => h3, h4⟩
        · have : j = d := by omega
          subst this
          exact ⟨t, hset, by omega, fun _ => rfl, by omega, ct⟩
      refine ⟨m - 1, by omega, d + 1, V, by omega, p2, c2, c4, c5, hVl, g1, g2, g4, g5, eqI (natI _), fun j hjd => ?_, ?_⟩
      · obtain ⟨a, h1, h2, _, _, h4⟩ := hall j hjd
        exact ⟨a, h1, h2, h4⟩
      · intro i j a b n m hi hj' hij ha hb
        obtain ⟨a', h1, _, h3, h4, _⟩ := hall i hi
        obtain ⟨b', k1, _, k3, k4, _⟩ := hall j hj'
        rw [h1] at ha
        rw [k1] at hb
        simp only [Option.some.injEq, LV.ref.injEq] at ha hb
        rcases Nat.lt_or_ge i d with hi1 | hi1
        · rcases Nat.lt_or_ge j d with hj1 | hj1
          · have hVi : V[i]? = vs[i]? := by rw [← hV, List.getElem?_set_ne (by omega)]
            have hVj : V[j]? = vs[j]? := by rw [← hV, List.getElem?_set_ne (by omega)]
            rw [hVi, ← ha.1.symm] at h1
            rw [hVj, ← hb.1.symm] at k1
            rw [← ha.1, ← hb.1]
            exact hne i j a' b' _ _ hi1 hj1 hij (by rw [← hVi, ‹V[i]? = vs[i]?›]; rw [ha.1]; exact h1) (by rw [hb.1]; exact k1)
          · have := h4 hi1; have := k3 (by omega); omega
        · have := h3 (by omega); have := k4 (by omega); omega
  · simp (disch := omega) only [f1, f2, f4, f5, f10, ↓SXd, SXu, slBounds, ↓sop, ↓aop, ↓reduceIte, LV.cells, AOp.dst, LV.I, LV.B, LV.U, LV.S, LV.nil, Nat.reduceEqDiff, Nat.reduceAdd, Nat.reduceMul, Nat.reduceSub, Nat.reduceLeDiff, Nat.reduceBEq, Nat.reduceDiv, Nat.reduceMod, Int.reduceToNat, Int.reduceLT, Int.reduceLE, Int.reduceAdd, Int.reduceSub, Int.reduceMul, Int.reduceEq, Int.reduceNeg, reduceCtorEq, resV, resAll, ARes.ev, LV.flat, ite_true, ite_false, exists_eq_left', exists_eq_left, keyOf, implies_true, fillC, capOf]
    have : d = 3 := by omega
    subst this
    obtain ⟨a0, e0, _, l0⟩ := hj 0 (by omega)
    obtain ⟨a1, e1, _, l1⟩ := hj 1 (by omega)
    obtain ⟨a2, e2, _, l2⟩ := hj 2 (by omega)
    have n01 := hne 0 1 _ _ _ _ (by omega) (by omega) (by omega) e0 e1
    have n02 := hne 0 2 _ _ _ _ (by omega) (by omega) (by omega) e0 e2
    have n12 := hne 1 2 _ _ _ _ (by omega) (by omega) (by omega) e1 e2
    simp (disch := omega) only [f1, f2, f4, f5, f10, b2.cell, b5.cell, e0, e1, e2, splice, ↓SXd, SXu, slBounds, ↓sop, ↓aop, ↓reduceIte, LV.cells, AOp.dst, LV.I, LV.B, LV.U, LV.S, LV.nil, Nat.reduceEqDiff, Nat.reduceAdd, Nat.reduceMul, Nat.reduceSub, Nat.reduceLeDiff, Nat.reduceBEq, Nat.reduceDiv, Nat.reduceMod, Int.reduceToNat, Int.reduceLT, Int.reduceLE, Int.reduceAdd, Int.reduceSub, Int.reduceMul, Int.reduceEq, Int.reduceNeg, reduceCtorEq, resV, resAll, ARes.ev, LV.flat, ite_true, ite_false, exists_eq_left', exists_eq_left, keyOf, implies_true, fillC, capOf]
    refine memK_box b4 (by simp) fun N3 q1 q2 q3 => ?_
    simp (disch := omega) only [f1, f2, f4, f5, f10, q2.cells, ↓SXd, SXu, slBounds, ↓sop, ↓aop, ↓reduceIte, LV.cells, AOp.dst, LV.I, LV.B, LV.U, LV.S, LV.nil, Nat.reduceEqDiff, Nat.reduceAdd, Nat.reduceMul, Nat.reduceSub, Nat.reduceLeDiff, Nat.reduceBEq, Nat.reduceDiv, Nat.reduceMod, Int.reduceToNat, Int.reduceLT, Int.reduceLE, Int.reduceAdd, Int.reduceSub, Int.reduceMul, Int.reduceEq, Int.reduceNeg, reduceCtorEq, resV, resAll, ARes.ev, LV.flat, ite_true, ite_false, exists_eq_left', exists_eq_left, keyOf, implies_true, fillC, capOf]
    exact ⟨a2, a1, a0, rfl, by omega, by omega, by omega, Ne.symm n12, Ne.symm n02, Ne.symm n01, live_step l2 (by omega) q3, live_step l1 (by omega) q3, live_step l0 (by omega) q3, pre_step hpre (by omega) (j := 0) q1 q3⟩
end Go.Ab

/- Contracts: whether a heap has a shadow, the program's side; IsShadowOf, both sides. -/
namespace Go.Ab
open Go
set_option linter.unusedSimpArgs false
set_option linter.unusedVariables false
set_option maxRecDepth 20000

section
variable {x y z : Int} {t o t' o' t2 o2 : Nat} {tp fr sd : List Int} {M : Mem} (h1 : Ints M t o tp) (h2 : Ints M t' o' fr) (h3 : Ints M t2 o2 sd) (l1 : tp.length ≤ 1000000000) (l2 : fr.length ≤ 1000000000) (l3 : sd.length ≤ 1000000000)
include h1 h2 h3 l1 l2 l3
/-- What IsShadowOf returns. -/
noncomputable def isShdOf (x y z : Int) (tp fr sd : List Int) (x' y' z' : Int) (cs : List Cell) : LV := .tup [.B (decide ((ShdOK x y z tp fr sd ∧ HeapOK x' y' z' cs) ∧ (x = x' ∧ y = y' ∧ z = z') ∧ HasShd x y z tp fr sd cs)), .B (decide (ShdOK x y z tp fr sd ∧ HeapOK x' y' z' cs))]
variable {x' y' z' : Int} {q r : Nat} {cs : List Cell} (h : Tri M q r cs) (hn : cs.length ≤ 1000000000)
include h hn
end
end Go.Ab

/- Plain words: the library's count of a 64-bit set is the number of its bits. -/
namespace Go.Ab

def rep : Nat → Nat → Nat
  | 0, _ => 0
  | k + 1, c => c + 256 * rep k c
def ofB : List Nat → Nat
  | [] => 0
  | l :: ls => l + 256 * ofB ls
def a8 (l : Nat) : Nat := (l / 2 &&& 85) + (l &&& 85)
def b8 (l : Nat) : Nat := (l / 4 &&& 51) + (l &&& 51)
def c8 (l : Nat) : Nat := (l / 16 + l) % 16
def pc8 (l : Nat) : Nat := (List.range 8).countP fun j => l.testBit j
end Go.Ab

/- Contracts: lines that need a cube, and cells that must be, the program's side. -/
namespace Go.Ab
open Go
set_option linter.unusedSimpArgs false
set_option linter.unusedVariables false
set_option maxRecDepth 20000

section
variable {x y z : Int} {t o t' o' t2 o2 : Nat} {tp fr sd : List Int} {M : Mem} (h1 : Ints M t o tp) (h2 : Ints M t' o' fr) (h3 : Ints M t2 o2 sd) (hok : ShdOK x y z tp fr sd)
include h1 h2 h3 hok
end
end Go.Ab

/- Contracts: cells that must be, the reference's side; MustCells and SpareCells, both sides. -/
namespace Go.Ab
open Go
set_option linter.unusedSimpArgs false
set_option linter.unusedVariables false
set_option maxRecDepth 20000

/-- Of the allowed cells those that must be (sp false), or the others. -/
def shdPart (x y z : Int) (tp fr sd : List Int) (sp : Bool) : List Cell := (pick x y z (allowedB y z tp fr sd)).filter fun c => aloneK y z (pick x y z (allowedB y z tp fr sd)) 3 c != sp
section
variable {x y z : Int} {t o t' o' t2 o2 : Nat} {tp fr sd : List Int} {M : Mem} (h1 : Ints M t o tp) (h2 : Ints M t' o' fr) (h3 : Ints M t2 o2 sd)
include h1 h2 h3
end
end Go.Ab

/- Contracts: MustCells and SpareCells, both sides. -/
namespace Go.Ab
open Go
set_option linter.unusedSimpArgs false
set_option linter.unusedVariables false
set_option maxRecDepth 20000

/-- A valid shadow whose lists fit together. -/
def Fits (x y z : Int) (tp fr sd : List Int) : Prop := ShdOK x y z tp fr sd ∧ HasShd x y z tp fr sd (pick x y z (allowedB y z tp fr sd))
instance (x y z : Int) (tp fr sd : List Int) : Decidable (Fits x y z tp fr sd) := by unfold Fits; exact inferInstance
def partOf (x y z : Int) (tp fr sd : List Int) (sp : Bool) : Option (List Cell) := if Fits x y z tp fr sd then some (shdPart x y z tp fr sd sp) else none
section
variable {x y z : Int} {t o t' o' t2 o2 : Nat} {tp fr sd : List Int} {M : Mem} (h1 : Ints M t o tp) (h2 : Ints M t' o' fr) (h3 : Ints M t2 o2 sd) (l1 : tp.length ≤ 1000000000) (l2 : fr.length ≤ 1000000000) (l3 : sd.length ≤ 1000000000)
include h1 h2 h3 l1 l2 l3
end
end Go.Ab

/- Plain: what the law of shadows says. -/
namespace Go.Ab
open Go
set_option linter.unusedSimpArgs false
set_option linter.unusedVariables false
set_option maxRecDepth 20000

theorem shd_get {x y z : Int} {d i : Nat} {cs : List Cell} (h : i < (linesOf x y z d).toNat) : (shdOf x y z d cs).getD i 0 = min ((cs.countP (onLine y z d i) : Nat) : Int) 1 := by
  have hl : i < (viewL x y z d cs).length := by rw [viewL_len]; exact h
  have hv := viewL_get (cs := cs) h
  unfold shdOf onesL
  rw [← hv]
  simp [hl]
theorem shd_ones {x y z : Int} {d : Nat} {cs : List Cell} : Ones (shdOf x y z d cs) := ones_of fun j hj => by
  rw [shdOf_len] at hj
  rw [shd_get hj]
  omega
theorem int_ext {l l' : List Int} (hl : l.length = l'.length) (h : ∀ j, j < l.length → l.getD j 0 = l'.getD j 0) : l = l' := by
  apply List.ext_getElem hl
  intro i h2 h3
  have := h i h2
  simpa [h2, h3] using this
theorem count_pos {y z : Int} {c : Cell} {d : Nat} {cs : List Cell} (hc : c ∈ cs) : 0 < cs.countP (onLine y z d (lineOf y z c d).toNat) := by
  rw [List.countP_pos_iff]
  exact ⟨c, hc, decide_eq_true rfl⟩
section
variable {x y z : Int} {tp fr sd : List Int} (hok : ShdOK x y z tp fr sd)
include hok
end
/-- The number of lit lines. -/
def litSum : List Int → Int
  | [] => 0
  | a :: l => a + litSum l
theorem litSum_snoc {l : List Int} {a : Int} : litSum (l ++ [a]) = litSum l + a := by
  induction l with
  | nil => simp [litSum]
  | cons b l ih => simp only [List.cons_append, litSum, ih]; omega
theorem litSum_take {l : List Int} {k : Nat} (hk : k < l.length) : litSum (l.take (k + 1)) = litSum (l.take k) + l.getD k 0 := by
  rw [List.take_succ, List.getElem?_eq_getElem hk, Option.toList_some, litSum_snoc]
  simp [hk]
theorem litSum_bound : ∀ {l : List Int}, Ones l → 0 ≤ litSum l ∧ litSum l ≤ l.length
  | [], _ => by simp [litSum]
  | a :: l, h => by
    have := litSum_bound (l := l) fun v hv => h v (by simp [hv])
    have := h a (by simp)
    simp only [litSum, List.length_cons]; omega
end Go.Ab

/- Plain: the square of the number of cubes is at most the product of the three shadows. -/
namespace Go.Ab
open Go
set_option linter.unusedSimpArgs false
set_option linter.unusedVariables false
set_option maxRecDepth 20000

theorem sum_const {α : Type} (k : Nat) : ∀ l : List α, (l.map fun _ => k).sum = l.length * k
  | [] => by simp
  | a :: l => by
    have := sum_const k l
    rw [List.map_cons, List.sum_cons, List.length_cons, Nat.add_mul, this]; omega
theorem two_mul_le (t a : Nat) : 2 * (t * a) ≤ t * t + a * a := by
  rcases Nat.le_total t a with h | h
  · obtain ⟨k, rfl⟩ := Nat.le.dest h
    simp only [Nat.mul_add, Nat.add_mul, Nat.mul_comm k t]
    have := Nat.zero_le (k * k)
    omega
  · obtain ⟨k, rfl⟩ := Nat.le.dest h
    simp only [Nat.mul_add, Nat.add_mul, Nat.mul_comm k a]
    have := Nat.zero_le (k * k)
    omega
theorem sq_key {α : Type} (f : α → Nat) (t : Nat) : ∀ l : List α, 2 * (t * (l.map f).sum) ≤ t * t * (l.map fun i => min (f i) 1).sum + (l.map fun i => f i * f i).sum
  | [] => by simp
  | a :: l => by
    have ih := sq_key f t l
    have h := two_mul_le t (f a)
    simp only [List.map_cons, List.sum_cons, Nat.mul_add]
    rcases Nat.eq_zero_or_pos (f a) with h0 | h0
    · rw [h0]; simp; omega
    · rw [Nat.min_eq_right h0, Nat.mul_one]; omega
theorem cauchy {α : Type} (f : α → Nat) : ∀ l : List α, (l.map f).sum * (l.map f).sum ≤ (l.map fun i => min (f i) 1).sum * (l.map fun i => f i * f i).sum
  | [] => by simp
  | a :: l => by
    have ih := cauchy f l
    have h := sq_key f (f a) l
    simp only [List.map_cons, List.sum_cons]
    generalize (l.map f).sum = S at *
    generalize (l.map fun i => min (f i) 1).sum = B at *
    generalize (l.map fun i => f i * f i).sum = Q at *
    generalize f a = k at *
    rcases Nat.eq_zero_or_pos k with h0 | h0
    · subst h0; simpa using ih
    · rw [Nat.min_eq_right h0]
      simp only [Nat.mul_add, Nat.add_mul, Nat.one_mul, Nat.mul_comm S k, Nat.mul_comm B (k * k)]
      omega
theorem sum_add {α : Type} (g h : α → Nat) : ∀ l : List α, (l.map fun i => g i + h i).sum = (l.map g).sum + (l.map h).sum
  | [] => rfl
  | a :: l => by
    have := sum_add g h l
    simp only [List.map_cons, List.sum_cons, this]; omega
theorem sum_delta (g : Nat → Nat) (k : Nat) : ∀ n : Nat, ((List.range n).map fun i => if k = i then g i else 0).sum = if k < n then g k else 0
  | 0 => rfl
  | n + 1 => by
    rw [List.range_succ, List.map_append, List.sum_append, sum_delta g k n]
    simp only [List.map_cons, List.map_nil, List.sum_cons, List.sum_nil]
    by_cases h : k = n
    · subst h; simp
    · have : k < n + 1 ↔ k < n := by omega
      simp [h, this]
section
variable {x y z : Int}
/-- How many cells lie on a line. -/
def lineN (y z : Int) (d : Nat) (cs : List Cell) (i : Nat) : Nat := cs.countP (onLine y z d i)
theorem sum_lines {d n : Nat} (g : Nat → Nat) : ∀ cs : List Cell, (∀ c ∈ cs, (lineOf y z c d).toNat < n) → ((List.range n).map fun i => lineN y z d cs i * g i).sum = (cs.map fun c => g (lineOf y z c d).toNat).sum
  | [], _ => by
    simp only [lineN, List.countP_nil, Nat.zero_mul, List.map_nil, List.sum_nil]
    induction n with
    | zero => rfl
    | succ n ih => rw [List.range_succ, List.map_append, List.sum_append, ih (by simp)]; rfl
  | c :: cs, h => by
    have ih := sum_lines g cs fun e he => h e (by simp [he])
    have hc := h c (by simp)
    have e : ∀ i, lineN y z d (c :: cs) i * g i = lineN y z d cs i * g i + if (lineOf y z c d).toNat = i then g i else 0 := fun i => by
      unfold lineN
      rw [List.countP_cons]
      unfold onLine
      by_cases hi : (lineOf y z c d).toNat = i
      · simp [hi, Nat.add_mul]
      · simp [hi]
    simp only [e]
    rw [sum_add, ih, sum_delta, if_pos hc]
    simp only [List.map_cons, List.sum_cons]; omega
theorem litSum_range (f : Nat → Nat) : ∀ n : Nat, litSum ((List.range n).map fun i => ((f i : Nat) : Int)) = ((((List.range n).map f).sum : Nat) : Int)
  | 0 => rfl
  | n + 1 => by
    simp only [List.range_succ, List.map_append, List.sum_append, List.map_cons, List.map_nil, List.sum_cons, List.sum_nil]
    rw [litSum_snoc, litSum_range f n]; omega
theorem view_range {d : Nat} {cs : List Cell} : viewL x y z d cs = (List.range (linesOf x y z d).toNat).map fun i => ((lineN y z d cs i : Nat) : Int) := by
  refine int_ext (by rw [viewL_len]; simp) fun j hj => ?_
  rw [viewL_len] at hj
  rw [viewL_get hj]
  simp [hj, lineN]
theorem shd_range {d : Nat} {cs : List Cell} : shdOf x y z d cs = (List.range (linesOf x y z d).toNat).map fun i => ((min (lineN y z d cs i) 1 : Nat) : Int) := by
  refine int_ext (by rw [shdOf_len]; simp) fun j hj => ?_
  rw [shdOf_len] at hj
  rw [shd_get hj]
  simp only [lineN, List.getD_eq_getElem?_getD, List.getElem?_map, List.getElem?_range hj, Option.map_some, Option.getD_some]
  omega
/-- The lit lines of a direction. -/
def litX (x y z : Int) (d : Nat) (cs : List Cell) : List Nat := (List.range (linesOf x y z d).toNat).filter fun i => decide (0 < lineN y z d cs i)
theorem litX_len {d : Nat} {cs : List Cell} : litSum (shdOf x y z d cs) = ((litX x y z d cs).length : Nat) := by
  rw [shd_range, litSum_range]
  unfold litX
  congr 1
  have key : ∀ l : List Nat, (l.map fun i => min (lineN y z d cs i) 1).sum = (l.filter fun i => decide (0 < lineN y z d cs i)).length := fun l => by
    induction l with
    | nil => rfl
    | cons a l ih =>
      simp only [List.map_cons, List.sum_cons, List.filter_cons, ih]
      by_cases h : 0 < lineN y z d cs a
      · simp [h, Nat.min_eq_right h]; omega
      · simp [h]; omega
  exact key _
theorem view_len_sum {d : Nat} {cs : List Cell} (hS : Sides x y z) (hd : d < 3) (hin : ∀ c ∈ cs, c.inBox x y z) : litSum (viewL x y z d cs) = (cs.length : Nat) := by
  rw [view_range, litSum_range]
  have h := sum_lines (y := y) (z := z) (d := d) (n := (linesOf x y z d).toNat) (fun _ => 1) cs fun c hc => by have := lineOf_in hS (hin c hc) hd; omega
  simp only [Nat.mul_one] at h
  have e : (cs.map fun _ => 1).sum = cs.length := by rw [sum_const]; omega
  rw [e] at h
  exact congrArg _ h
theorem prod_nodup {l l' : List Nat} (h : l.Nodup) (h' : l'.Nodup) : (l.flatMap fun i => l'.map fun j => (i, j)).Nodup := by
  unfold List.Nodup
  rw [List.pairwise_flatMap]
  refine ⟨fun i _ => ?_, h.imp fun {a b} hab u hu v hv e => ?_⟩
  · rw [List.pairwise_map]
    exact h'.imp fun {a b} hab e => hab (congrArg Prod.snd e)
  · obtain ⟨j, _, rfl⟩ := List.mem_map.1 hu
    obtain ⟨k, _, rfl⟩ := List.mem_map.1 hv
    exact hab (congrArg Prod.fst e)
theorem sub_len {α : Type} [DecidableEq α] {l l' : List α} (h : l.Nodup) (h' : l'.Nodup) (hs : ∀ a ∈ l, a ∈ l') : l.length ≤ l'.length := by
  have hp : l.Perm (l'.filter fun a => decide (a ∈ l)) := (List.perm_ext_iff_of_nodup h (h'.filter _)).2 fun a => by
    rw [List.mem_filter, decide_eq_true_iff]
    exact ⟨fun e => ⟨hs a e, e⟩, fun e => e.2⟩
  rw [hp.length_eq]
  exact List.length_filter_le _ _
theorem lit_nodup {d : Nat} {cs : List Cell} : (litX x y z d cs).Nodup := List.nodup_range.filter _
theorem mem_lit {d : Nat} {cs : List Cell} {c : Cell} (hS : Sides x y z) (hd : d < 3) (hc : c ∈ cs) (hb : c.inBox x y z) : (lineOf y z c d).toNat ∈ litX x y z d cs := by
  have h1 := lineOf_in hS hb hd
  unfold litX
  rw [List.mem_filter, List.mem_range, decide_eq_true_iff]
  exact ⟨by omega, count_pos hc⟩
/-- The square of the number of cubes is at most the product of the three shadows. -/
theorem loomis {cs : List Cell} (hH : HeapOK x y z cs) : (cs.length : Int) * cs.length ≤ litSum (shdOf x y z 2 cs) * litSum (shdOf x y z 1 cs) * litSum (shdOf x y z 0 cs) := by
  have hS := hH.1
  have hin : ∀ c ∈ cs, c.inBox x y z := fun c hc => hH.mem hc
  have hlt : ∀ d, d < 3 → ∀ c ∈ cs, (lineOf y z c d).toNat < (linesOf x y z d).toNat := fun d hd c hc => by have := lineOf_in hS (hin c hc) hd; omega
  rw [litX_len, litX_len, litX_len]
  have hc := cauchy (lineN y z 2 cs) (List.range (linesOf x y z 2).toNat)
  have e1 : ((List.range (linesOf x y z 2).toNat).map (lineN y z 2 cs)).sum = cs.length := by
    have h := sum_lines (y := y) (z := z) (fun _ => 1) cs (hlt 2 (by omega))
    simp only [Nat.mul_one] at h
    rw [sum_const, Nat.mul_one] at h
    exact h
  have e2 : ((List.range (linesOf x y z 2).toNat).map fun i => min (lineN y z 2 cs i) 1).sum = (litX x y z 2 cs).length := by
    have := litX_len (x := x) (y := y) (z := z) (d := 2) (cs := cs)
    rw [shd_range, litSum_range] at this
    omega
  have e3 := sum_lines (y := y) (z := z) (lineN y z 2 cs) cs (hlt 2 (by omega))
  rw [e1, e2, e3] at hc
  -- the pairs of cubes in one column
  have e4 : (cs.map fun c => lineN y z 2 cs (lineOf y z c 2).toNat).sum = (cs.flatMap fun p => (cs.filter (onLine y z 2 (lineOf y z p 2).toNat)).map fun q => ((lineOf y z p 1).toNat, (lineOf y z q 0).toNat)).length := by
    rw [List.length_flatMap]
    congr 1
    refine List.map_congr_left fun c _ => ?_
    rw [List.length_map]
    unfold lineN
    rw [List.countP_eq_length_filter]
  have hnd : (cs.flatMap fun p => (cs.filter (onLine y z 2 (lineOf y z p 2).toNat)).map fun q => ((lineOf y z p 1).toNat, (lineOf y z q 0).toNat)).Nodup := by
    obtain ⟨⟨hx1, hx2⟩, ⟨hy1, hy2⟩, hz1, hz2⟩ := hS
    have key : ∀ {p q p' q' : Cell}, p.inBox x y z → q.inBox x y z → p'.inBox x y z → q'.inBox x y z → lineOf y z q 2 = lineOf y z p 2 → lineOf y z q' 2 = lineOf y z p' 2 → lineOf y z p 1 = lineOf y z p' 1 → lineOf y z q 0 = lineOf y z q' 0 → p = p' ∧ q = q' := fun {p q p' q'} b1 b2 b3 b4 h1 h2 h3 h4 => by
      obtain ⟨a1, a2, a3⟩ := p
      obtain ⟨c1, c2, c3⟩ := q
      obtain ⟨d1, d2, d3⟩ := p'
      obtain ⟨f1, f2, f3⟩ := q'
      simp only [Cell.inBox] at b1 b2 b3 b4
      simp only [lineOf] at h1 h2 h3 h4
      simp only [cell_eq]
      simp at h1 h2 h3 h4
      rcases (show y = 1 ∨ y = 2 ∨ y = 3 ∨ y = 4 by omega) with rfl | rfl | rfl | rfl <;> rcases (show z = 1 ∨ z = 2 ∨ z = 3 ∨ z = 4 by omega) with rfl | rfl | rfl | rfl <;> omega
    have ln : ∀ {c e : Cell} {d : Nat}, d < 3 → c.inBox x y z → e.inBox x y z → (lineOf y z c d).toNat = (lineOf y z e d).toNat → lineOf y z c d = lineOf y z e d := fun {c e d} hd hc he h => by
      have := lineOf_in hH.1 hc hd
      have := lineOf_in hH.1 he hd
      omega
    unfold List.Nodup
    rw [List.pairwise_flatMap]
    refine ⟨fun p hp => ?_, hH.nodup.imp_of_mem fun {p p'} hp hp' hne u hu v hv e => ?_⟩
    · rw [List.pairwise_map]
      refine (hH.nodup.filter _).imp_of_mem fun {q q'} hq hq' hne e => hne ?_
      obtain ⟨m1, m2⟩ := List.mem_filter.1 hq
      obtain ⟨m3, m4⟩ := List.mem_filter.1 hq'
      simp only [onLine, decide_eq_true_eq] at m2 m4
      have := congrArg Prod.snd e
      exact (key (hin _ hp) (hin _ m1) (hin _ hp) (hin _ m3) (ln (by omega) (hin _ m1) (hin _ hp) m2) (ln (by omega) (hin _ m3) (hin _ hp) m4) rfl (ln (by omega) (hin _ m1) (hin _ m3) this)).2
    · obtain ⟨q, hq, rfl⟩ := List.mem_map.1 hu
      obtain ⟨q', hq', rfl⟩ := List.mem_map.1 hv
      obtain ⟨m1, m2⟩ := List.mem_filter.1 hq
      obtain ⟨m3, m4⟩ := List.mem_filter.1 hq'
      simp only [onLine, decide_eq_true_eq] at m2 m4
      have t1 := congrArg Prod.fst e
      have t2 := congrArg Prod.snd e
      exact hne (key (hin _ hp) (hin _ m1) (hin _ hp') (hin _ m3) (ln (by omega) (hin _ m1) (hin _ hp) m2) (ln (by omega) (hin _ m3) (hin _ hp') m4) (ln (by omega) (hin _ hp) (hin _ hp') t1) (ln (by omega) (hin _ m1) (hin _ m3) t2)).1
  have hle := sub_len hnd (prod_nodup (lit_nodup (x := x) (y := y) (z := z) (d := 1) (cs := cs)) (lit_nodup (x := x) (y := y) (z := z) (d := 0) (cs := cs))) fun u hu => by
    obtain ⟨p, hp, hq⟩ := List.mem_flatMap.1 hu
    obtain ⟨q, hqm, rfl⟩ := List.mem_map.1 hq
    have hqc := (List.mem_filter.1 hqm).1
    exact List.mem_flatMap.2 ⟨_, mem_lit hS (by omega) hp (hin _ hp), List.mem_map.2 ⟨_, mem_lit hS (by omega) hqc (hin _ hqc), rfl⟩⟩
  have e5 : ((litX x y z 1 cs).flatMap fun i => (litX x y z 0 cs).map fun j => (i, j)).length = (litX x y z 1 cs).length * (litX x y z 0 cs).length := by
    rw [List.length_flatMap]
    simp only [List.length_map]
    rw [sum_const]
  rw [e4] at hc
  rw [e5] at hle
  have h5 : cs.length * cs.length ≤ (litX x y z 2 cs).length * ((litX x y z 1 cs).length * (litX x y z 0 cs).length) := Nat.le_trans hc (Nat.mul_le_mul_left _ hle)
  rw [← Nat.mul_assoc] at h5
  exact_mod_cast h5
end
end Go.Ab

/- The abstract code of some functions (written by a program of mine from the translation, by way of prepF). -/
namespace Go.Ab.C
open Go.Ab
def laws_rSum : AFn :=
 ⟨1, 18, [.tmp 2],
 .seq (.ops [(none, .mv 2 (.c (.I 0)))])
 (.seq (.ops [(none, .mv 3 (.c (.I 0)))])
 (.seq (.seq (.ops [(none, .mv 4 (.c (.I 0)))])
 (.block 0 (.loop (.seq (.seq (.ops [(none, .mv 5 (.t 4)),
 (none, .mv 6 (.t 0)),
 (none, .len 7 (.t 6)),
 (none, .bin 8 .lss (.t 5) (.t 7))])
 (.cond (.t 8) (.skip)
 (.exit 0)))
 (.seq (.block 1 (.ops [(none, .mv 11 (.t 3)),
 (none, .mv 12 (.t 0)),
 (none, .mv 13 (.t 4)),
 (none, .idxS 14 1 (.t 12) (.t 13)),
 (none, .load1 15 (.t 14)),
 (none, .bin 16 .add (.t 11) (.t 15)),
 (none, .mv 3 (.t 16))]))
 (.ops [(none, .mv 9 (.t 4)),
 (none, .bin 10 .add (.t 9) (.c (.I 1))),
 (none, .mv 4 (.t 10))]))))))
 (.seq (.ops [(none, .mv 17 (.t 3)),
 (none, .mv 2 (.t 17))])
 (.ret))))⟩
end Go.Ab.C

/- That the program has this code. -/
namespace Go.Ab.K
open Go Go.Ab
theorem laws_rSum : prepF Go.Proofs.Try.prog F.laws_rSum = some C.laws_rSum := by kernel_rfl
end Go.Ab.K

/- Contracts: the laws' sums of numbers. -/
namespace Go.Ab
open Go
set_option linter.unusedSimpArgs false
set_option linter.unusedVariables false
set_option maxRecDepth 20000

theorem take_bound {l : List Int} (hb : ∀ i, 0 ≤ l.getD i 0 ∧ l.getD i 0 ≤ 1000000) : ∀ {k : Nat}, k ≤ l.length → 0 ≤ litSum (l.take k) ∧ litSum (l.take k) ≤ k * 1000000
  | 0, _ => by simp [litSum]
  | k + 1, h => by
    rw [litSum_take (by omega)]
    have := take_bound hb (k := k) (by omega)
    have := hb k
    omega
theorem k_rSum {l : List Int} {v : LV} {M : Mem} (h : IntsV M v l) (hn : l.length ≤ 1000000) (hb : ∀ i, 0 ≤ l.getD i 0 ∧ l.getD i 0 ≤ 1000000) : CallsTo PG F.laws_rSum [v] M (.I (litSum l)) M := by
  have hlv := h.lenV
  refine calls_run K.laws_rSum rfl ?_
  simp (disch := omega) only [C.laws_rSum, ↓SXd, SXu, slBounds, ↓sop, ↓aop, ↓reduceIte, LV.cells, AOp.dst, LV.I, LV.B, LV.U, LV.S, LV.nil, Nat.reduceEqDiff, Nat.reduceAdd, Nat.reduceMul, Nat.reduceSub, Nat.reduceLeDiff, Nat.reduceBEq, Nat.reduceDiv, Nat.reduceMod, Int.reduceToNat, Int.reduceLT, Int.reduceLE, Int.reduceAdd, Int.reduceSub, Int.reduceMul, Int.reduceEq, Int.reduceNeg, reduceCtorEq, resV, resAll, ARes.ev, LV.flat, ite_true, ite_false, exists_eq_left', exists_eq_left, keyOf, implies_true, fillC, capOf]
  refine ev_loop (fun m fr M' => ∃ k : Nat, k + m = l.length ∧ M' = M ∧ fr 0 = v ∧ fr 3 = .I (litSum (l.take k)) ∧ fr 4 = .I k) l.length ⟨0, by omega, rfl, rfl, rfl, rfl⟩ ?_
  rintro m fr M' ⟨k, hk, rfl, f0, f3, f4⟩
  simp (disch := omega) only [f0, f3, f4, hlv, ↓SXd, SXu, slBounds, ↓sop, ↓aop, ↓reduceIte, LV.cells, AOp.dst, LV.I, LV.B, LV.U, LV.S, LV.nil, Nat.reduceEqDiff, Nat.reduceAdd, Nat.reduceMul, Nat.reduceSub, Nat.reduceLeDiff, Nat.reduceBEq, Nat.reduceDiv, Nat.reduceMod, Int.reduceToNat, Int.reduceLT, Int.reduceLE, Int.reduceAdd, Int.reduceSub, Int.reduceMul, Int.reduceEq, Int.reduceNeg, reduceCtorEq, resV, resAll, ARes.ev, LV.flat, ite_true, ite_false, exists_eq_left', exists_eq_left, keyOf, implies_true, fillC, capOf]
  refine condC_dec (fun hlt => ?_) (fun hlt => ?_)
  · have hkl : k < l.length := by omega
    have hst := litSum_take hkl
    have h1 := take_bound hb (k := k) (by omega)
    have h2 := hb k
    obtain ⟨t, o, rfl, hg⟩ := h.at (k := k) hkl
    generalize litSum (l.take k) = a at f3 hst h1
    simp (disch := omega) only [f0, f3, f4, hg, Nat.mul_one, ↓SXd, SXu, slBounds, ↓sop, ↓aop, ↓reduceIte, LV.cells, AOp.dst, LV.I, LV.B, LV.U, LV.S, LV.nil, Nat.reduceEqDiff, Nat.reduceAdd, Nat.reduceMul, Nat.reduceSub, Nat.reduceLeDiff, Nat.reduceBEq, Nat.reduceDiv, Nat.reduceMod, Int.reduceToNat, Int.reduceLT, Int.reduceLE, Int.reduceAdd, Int.reduceSub, Int.reduceMul, Int.reduceEq, Int.reduceNeg, reduceCtorEq, resV, resAll, ARes.ev, LV.flat, ite_true, ite_false, exists_eq_left', exists_eq_left, keyOf, implies_true, fillC, capOf]
    exact ⟨m - 1, by omega, k + 1, by omega, rfl, f0, eqI hst.symm, eqI (natI _)⟩
  · have hkl : k = l.length := by omega
    subst hkl
    rw [List.take_length] at f3
    simp (disch := omega) only [f0, f3, f4, ↓SXd, SXu, slBounds, ↓sop, ↓aop, ↓reduceIte, LV.cells, AOp.dst, LV.I, LV.B, LV.U, LV.S, LV.nil, Nat.reduceEqDiff, Nat.reduceAdd, Nat.reduceMul, Nat.reduceSub, Nat.reduceLeDiff, Nat.reduceBEq, Nat.reduceDiv, Nat.reduceMod, Int.reduceToNat, Int.reduceLT, Int.reduceLE, Int.reduceAdd, Int.reduceSub, Int.reduceMul, Int.reduceEq, Int.reduceNeg, reduceCtorEq, resV, resAll, ARes.ev, LV.flat, ite_true, ite_false, exists_eq_left', exists_eq_left, keyOf, implies_true, fillC, capOf]
    exact cmp_drop0 rfl
end Go.Ab

/- The abstract code of some functions (written by a program of mine from the translation, by way of prepF). -/
namespace Go.Ab.C
open Go.Ab
def spec_ViewOf : AFn :=
 ⟨2, 18, [.tmp 4, .tmp 5],
 .seq (.ops [(none, .box 2 (.t 0)),
 (none, .mv 4 (.c .nil)),
 (none, .mv 5 (.c (.B false)))])
 (.seq (.seq (.ops [(none, .loadN 6 4 (.t 2)),
 (none, .call (some 7) F.spec_l2Heap [(.t 6)]),
 (none, .un 8 .not (.t 7)),
 (none, .mv 9 (.t 8)),
 (some (9, false), .mv 10 (.t 1)),
 (some (9, false), .call (some 11) F.spec_l1In [(.t 10), (.c (.I 0)), (.c (.I 2))]),
 (some (9, false), .un 12 .not (.t 11)),
 (none, .pick 13 (.t 9) (.c (.B true)) (.t 12))])
 (.cond (.t 13) (.seq (.ops [(none, .buildSl 14 0 1 [] []),
 (none, .mv 4 (.t 14)),
 (none, .mv 5 (.c (.B false)))])
 (.ret))
 (.skip)))
 (.seq (.ops [(none, .loadN 15 4 (.t 2)),
 (none, .mv 16 (.t 1)),
 (none, .call (some 17) F.spec_l2View [(.t 15), (.t 16)]),
 (none, .mv 4 (.t 17)),
 (none, .mv 5 (.c (.B true)))])
 (.ret)))⟩
def spec_ShadowsOf : AFn :=
 ⟨1, 21, [.cellN 2 6, .tmp 3],
 .seq (.ops [(none, .box 1 (.t 0)),
 (none, .alloc 2 [(.I 0), (.I 0), (.I 0), .nil, .nil, .nil]),
 (none, .mv 3 (.c (.B false)))])
 (.seq (.seq (.ops [(none, .loadN 4 4 (.t 1)),
 (none, .call (some 5) F.spec_l2Heap [(.t 4)]),
 (none, .un 6 .not (.t 5))])
 (.cond (.t 6) (.seq (.ops [(none, .build 7 [(.I 0), (.I 0), (.I 0), .nil, .nil, .nil] []),
 (none, .store 6 (.t 2) (.t 7)),
 (none, .mv 3 (.c (.B false)))])
 (.ret))
 (.skip)))
 (.seq (.draw [⟨(none, .fieldAddr 8 (.t 1) 0), [], []⟩,
 ⟨(none, .load1 9 (.t 8)), [], []⟩,
 ⟨(none, .fieldAddr 10 (.t 1) 1), [], []⟩,
 ⟨(none, .load1 11 (.t 10)), [], []⟩,
 ⟨(none, .fieldAddr 12 (.t 1) 2), [], []⟩,
 ⟨(none, .load1 13 (.t 12)), [], []⟩,
 ⟨(none, .loadN 14 4 (.t 1)), [], []⟩,
 ⟨(none, .loadN 16 4 (.t 1)), [], []⟩,
 ⟨(none, .loadN 18 4 (.t 1)), [], []⟩,
 ⟨(none, .call (some 15) F.spec_l2Top [(.t 14)]), [], [0, 1, 2, 3, 4, 5, 7, 8]⟩,
 ⟨(none, .call (some 17) F.spec_l2Front [(.t 16)]), [], [0, 1, 2, 3, 4, 5, 8]⟩,
 ⟨(none, .call (some 19) F.spec_l2Side [(.t 18)]), [], [0, 1, 2, 3, 4, 5]⟩,
 ⟨(none, .build 20 [(.I 0), (.I 0), (.I 0), .nil, .nil, .nil] [(0, 1, (.t 9)), (1, 1, (.t 11)), (2, 1, (.t 13)), (3, 1, (.t 15)), (4, 1, (.t 17)), (5, 1, (.t 19))]), [], []⟩,
 ⟨(none, .store 6 (.t 2) (.t 20)), [], []⟩,
 ⟨(none, .mv 3 (.c (.B true))), [], []⟩])
 (.ret)))⟩
def spec_TopHeights : AFn :=
 ⟨1, 10, [.tmp 2, .tmp 3],
 .seq (.ops [(none, .box 1 (.t 0)),
 (none, .mv 2 (.c .nil)),
 (none, .mv 3 (.c (.B false)))])
 (.seq (.seq (.ops [(none, .loadN 4 4 (.t 1)),
 (none, .call (some 5) F.spec_l2Heap [(.t 4)]),
 (none, .un 6 .not (.t 5))])
 (.cond (.t 6) (.seq (.ops [(none, .buildSl 7 0 1 [] []),
 (none, .mv 2 (.t 7)),
 (none, .mv 3 (.c (.B false)))])
 (.ret))
 (.skip)))
 (.seq (.ops [(none, .loadN 8 4 (.t 1)),
 (none, .call (some 9) F.spec_l2Tops [(.t 8)]),
 (none, .mv 2 (.t 9)),
 (none, .mv 3 (.c (.B true)))])
 (.ret)))⟩
end Go.Ab.C

/- That the program has this code. -/
namespace Go.Ab.K
open Go Go.Ab
theorem spec_ViewOf : prepF Go.Proofs.Try.prog F.spec_ViewOf = some C.spec_ViewOf := by kernel_rfl
theorem spec_ShadowsOf : prepF Go.Proofs.Try.prog F.spec_ShadowsOf = some C.spec_ShadowsOf := by kernel_rfl
theorem spec_TopHeights : prepF Go.Proofs.Try.prog F.spec_TopHeights = some C.spec_TopHeights := by kernel_rfl
end Go.Ab.K

/- The abstract code of some functions (written by a program of mine from the translation, by way of prepF). -/
namespace Go.Ab.C
open Go.Ab
end Go.Ab.C

/- That the program has this code. -/
namespace Go.Ab.K
open Go Go.Ab
end Go.Ab.K

/- The abstract code of some functions (written by a program of mine from the translation, by way of prepF). -/
namespace Go.Ab.C
open Go.Ab
end Go.Ab.C

/- That the program has this code. -/
namespace Go.Ab.K
open Go Go.Ab
end Go.Ab.K

/- The abstract code of some functions (written by a program of mine from the translation, by way of prepF). -/
namespace Go.Ab.C
open Go.Ab
end Go.Ab.C

/- That the program has this code. -/
namespace Go.Ab.K
open Go Go.Ab
end Go.Ab.K

/- Plain words: bare faces; they stay when a heap is turned. -/
namespace Go.Ab
open Go
set_option linter.unusedVariables false
set_option linter.unusedSimpArgs false
set_option maxRecDepth 20000

/-- The cell beyond a face. -/
def nbC (c : Cell) (f : Nat) : Cell := ⟨c.a + if f = 0 then -1 else if f = 1 then 1 else 0, c.b + if f = 2 then -1 else if f = 3 then 1 else 0, c.c + if f = 4 then -1 else if f = 5 then 1 else 0⟩
def bareN (S : List Cell) (c : Cell) : Nat := (List.range 6).countP fun f => decide (nbC c f ∉ S)
/-- The bare faces of one kind. -/
def faceN (cs : List Cell) (f : Nat) : Nat := cs.countP fun c => decide (nbC c f ∉ cs)
def surfN (cs : List Cell) : Nat := ((List.range 6).map (faceN cs)).sum
/-- The face of a cell that a turn brings to a face. -/
def sigT (T : Turn) (f : Nat) : Nat := (T.fr.at (f / 2 : Nat)).toNat * 2 + (xorI ((f % 2 : Nat) : Int) (T.fl.at (f / 2 : Nat))).toNat
end Go.Ab

/- Plain: faces of heaps, of filled heaps, and shadows. -/
namespace Go.Ab
open Go
set_option linter.unusedSimpArgs false
set_option linter.unusedVariables false
set_option maxRecDepth 20000

def oppF (f : Nat) : Nat := if f % 2 = 0 then f + 1 else f - 1
theorem six {f : Nat} (hf : f < 6) : f = 0 ∨ f = 1 ∨ f = 2 ∨ f = 3 ∨ f = 4 ∨ f = 5 := by omega
def nearN (cs : List Cell) (c : Cell) : Nat := (List.range 6).countP fun f => decide (nbC c f ∈ cs)
def nearSum (cs : List Cell) : Nat := (cs.map (nearN cs)).sum
section
variable {x y z : Int} {cs : List Cell} (hH : HeapOK x y z cs)
/-- All cells of the heap or enclosed. -/
noncomputable def filL (x y z : Int) (cs : List Cell) : List Cell := pick x y z fun c => decide (c ∈ cs) || closed x y z (fun c => decide (c ∈ cs)) c
include hH
omit hH in
end
end Go.Ab

/- Contracts: the reference's bare and outside faces. -/
namespace Go.Ab
open Go
set_option linter.unusedSimpArgs false
set_option linter.unusedVariables false
set_option maxRecDepth 20000

/-- Counters of six kinds, behind some cells and some faces of the next one. -/
def cntQ (p : Cell → Nat → Bool) (cs : List Cell) (i d f : Nat) : Nat := (cs.take i).countP (fun c => p c f) + if f < d ∧ p (cs.getD i default) f = true then 1 else 0
def rowQ (p : Cell → Nat → Bool) (cs : List Cell) (i d : Nat) : List LV := (List.range 6).map fun (f : Nat) => LV.I ((cntQ p cs i d f : Nat) : Int)
section
variable {p : Cell → Nat → Bool} {cs : List Cell} {i d f : Nat}
end
/-- A face beyond which there is neither a cube nor a hidden cell. -/
def bareP (cs es : List Cell) (c : Cell) (f : Nat) : Bool := decide (nbC c f ∉ cs) && decide (nbC c f ∉ es)
def bareC (cs es : List Cell) (f : Nat) : Nat := cs.countP fun c => bareP cs es c f
section
variable {x y z : Int} {t : Nat} {w : Bool} {cs : List Cell} {M : Mem} (h : Live M t (.row (triL cs) w 3)) (hn : cs.length ≤ 1000000000)
include h hn
def faceV (cs : List Cell) : List LV := [.I (faceN cs 0 : Nat), .I (faceN cs 1 : Nat), .I (faceN cs 2 : Nat), .I (faceN cs 3 : Nat), .I (faceN cs 4 : Nat), .I (faceN cs 5 : Nat)]
end
end Go.Ab

/- The abstract code of some functions (written by a program of mine from the translation, by way of prepF). -/
namespace Go.Ab.C
open Go.Ab
end Go.Ab.C

/- That the program has this code. -/
namespace Go.Ab.K
open Go Go.Ab
end Go.Ab.K

/- Contracts: the program's bare faces and surface. -/
namespace Go.Ab
open Go
set_option linter.unusedSimpArgs false
set_option linter.unusedVariables false
set_option maxRecDepth 20000

def cntR (cs : List Cell) (i d f : Nat) : Nat := (cs.take i).countP (fun c => decide (nbC c f ∉ cs)) + if f < d ∧ nbC (cs.getD i default) f ∉ cs then 1 else 0
def rowF (cs : List Cell) (i d : Nat) : List LV := (List.range 6).map fun (f : Nat) => LV.I ((cntR cs i d f : Nat) : Int)
/-- What SurfaceOf answers. -/
noncomputable def surfOf (x y z : Int) (cs : List Cell) : Option Nat := by
  classical
  exact if HeapOK x y z cs then some (surfN cs) else none
end Go.Ab

/- The abstract code of some functions (written by a program of mine from the translation, by way of prepF). -/
namespace Go.Ab.C
open Go.Ab
end Go.Ab.C

/- That the program has this code. -/
namespace Go.Ab.K
open Go Go.Ab
end Go.Ab.K

/- Contracts: the reference's FillCavities. -/
namespace Go.Ab
open Go
set_option linter.unusedSimpArgs false
set_option linter.unusedVariables false

end Go.Ab

/- Contracts: touching faces, both sides; the program's bare and outside faces. -/
namespace Go.Ab
open Go
set_option linter.unusedSimpArgs false
set_option linter.unusedVariables false
set_option maxRecDepth 20000

/-- What the first cells have. -/
def sumK (f : Cell → Nat) (cs : List Cell) (k : Nat) : Nat := ((cs.take k).map f).sum
section
variable {x y z : Int} {t : Nat} {w : Bool} {cs : List Cell} {M : Mem} (h : Live M t (.row (triL cs) w 3))
include h
end
end Go.Ab

/- Contracts: bare squares by lines, both sides. -/
namespace Go.Ab
open Go
set_option linter.unusedSimpArgs false
set_option linter.unusedVariables false
set_option maxRecDepth 20000

/-- A number is added at a place of a list. -/
def addAt (v : List Int) (j : Nat) (a : Int) : List Int := v.set j (v.getD j 0 + a)
/-- Each cell's weight is added to its line. -/
def sqStep (y z : Int) (d : Nat) (g : Cell → Nat) (v : List Int) (c : Cell) : List Int := addAt v (lineOf y z c d).toNat (g c)
def sqF (x y z : Int) (d : Nat) (g : Cell → Nat) (l : List Cell) : List Int := l.foldl (sqStep y z d g) (List.replicate (linesOf x y z d).toNat 0)
section
variable {x y z : Int} {d : Nat} {g : Cell → Nat}
end
/-- The ends of stretches count twice. -/
def gEnd (cs : List Cell) (d : Nat) (c : Cell) : Nat := if nbC c (2 * d + 1) ∉ cs then 2 else 0
/-- The first faces of two count. -/
def gTwo (cs : List Cell) (d e : Nat) (c : Cell) : Nat := (List.range e).countP fun f => decide (nbC c (2 * d + f) ∉ cs)
section
variable {x y z : Int} {d : Nat} {cs : List Cell} (hH : HeapOK x y z cs) (hd : d < 3)
include hH hd
end
/-- What BareSquares answers. -/
noncomputable def sqrOf (x y z : Int) (cs : List Cell) (d : Int) : List Int := by
  classical
  exact if HeapOK x y z cs ∧ Dir d then sqF x y z d.toNat (gEnd cs d.toNat) cs else []
noncomputable def sqrB (x y z : Int) (cs : List Cell) (d : Int) : Bool := by
  classical
  exact decide (HeapOK x y z cs ∧ Dir d)
/-- A list of numbers that may be read, and a truth. -/
def IntsG (M : Mem) (l : List Int) (b : Bool) (v : LV) (N : Mem) : Prop := ∃ w, v = .tup [w, .B b] ∧ IntsV N w l ∧ Pre M N
section
variable {x y z : Int} {t : Nat} {w : Bool} {cs : List Cell} {M : Mem} (h : Live M t (.row (triL cs) w 3))
include h
end
end Go.Ab

/- The abstract code of some functions (written by a program of mine from the translation, by way of prepF). -/
namespace Go.Ab.C
open Go.Ab
def impl_ViewOf : AFn :=
 ⟨2, 20, [.tmp 4, .tmp 5],
 .seq (.ops [(none, .box 2 (.t 0)),
 (none, .mv 4 (.c .nil)),
 (none, .mv 5 (.c (.B false)))])
 (.seq (.seq (.ops [(none, .loadN 6 4 (.t 2)),
 (none, .call (some 7) F.impl_IsHeap [(.t 6)]),
 (none, .un 8 .not (.t 7)),
 (none, .mv 9 (.t 8)),
 (some (9, false), .mv 10 (.t 1)),
 (some (9, false), .call (some 11) F.impl_isDirection [(.t 10)]),
 (some (9, false), .un 12 .not (.t 11)),
 (none, .pick 13 (.t 9) (.c (.B true)) (.t 12))])
 (.cond (.t 13) (.seq (.ops [(none, .mv 4 (.c .nil)),
 (none, .mv 5 (.c (.B false)))])
 (.ret))
 (.skip)))
 (.seq (.draw [⟨(none, .loadN 14 4 (.t 2)), [], []⟩,
 ⟨(none, .loadN 16 4 (.t 2)), [], []⟩,
 ⟨(none, .mv 18 (.t 1)), [], []⟩,
 ⟨(none, .call (some 15) F.impl_Heap_box [(.t 14)]), [], [1, 2]⟩,
 ⟨(none, .call (some 17) F.impl_Heap_cubes [(.t 16)]), [], [2]⟩,
 ⟨(none, .call (some 19) F.impl_box_view [(.t 15), (.t 17), (.t 18)]), [], []⟩,
 ⟨(none, .mv 4 (.t 19)), [], []⟩,
 ⟨(none, .mv 5 (.c (.B true))), [], []⟩])
 (.ret)))⟩
end Go.Ab.C

/- That the program has this code. -/
namespace Go.Ab.K
open Go Go.Ab
theorem impl_ViewOf : prepF Go.Proofs.Try.prog F.impl_ViewOf = some C.impl_ViewOf := by kernel_rfl
end Go.Ab.K

/- The code of ViewOf. -/
namespace Go.Ab
end Go.Ab

/- The abstract code of some functions (written by a program of mine from the translation, by way of prepF). -/
namespace Go.Ab.C
open Go.Ab
def impl_ShadowsOf : AFn :=
 ⟨1, 13, [.cellN 2 6, .tmp 3],
 .seq (.ops [(none, .box 1 (.t 0)),
 (none, .alloc 2 [(.I 0), (.I 0), (.I 0), .nil, .nil, .nil]),
 (none, .mv 3 (.c (.B false)))])
 (.seq (.seq (.ops [(none, .loadN 4 4 (.t 1)),
 (none, .call (some 5) F.impl_IsHeap [(.t 4)]),
 (none, .un 6 .not (.t 5))])
 (.cond (.t 6) (.seq (.ops [(none, .build 7 [(.I 0), (.I 0), (.I 0), .nil, .nil, .nil] []),
 (none, .store 6 (.t 2) (.t 7)),
 (none, .mv 3 (.c (.B false)))])
 (.ret))
 (.skip)))
 (.seq (.draw [⟨(none, .loadN 8 4 (.t 1)), [], []⟩,
 ⟨(none, .loadN 10 4 (.t 1)), [], []⟩,
 ⟨(none, .call (some 9) F.impl_Heap_box [(.t 8)]), [], [1]⟩,
 ⟨(none, .call (some 11) F.impl_Heap_cubes [(.t 10)]), [], []⟩,
 ⟨(none, .call (some 12) F.impl_box_shadow [(.t 9), (.t 11)]), [], []⟩,
 ⟨(none, .store 6 (.t 2) (.t 12)), [], []⟩,
 ⟨(none, .mv 3 (.c (.B true))), [], []⟩])
 (.ret)))⟩
end Go.Ab.C

/- That the program has this code. -/
namespace Go.Ab.K
open Go Go.Ab
theorem impl_ShadowsOf : prepF Go.Proofs.Try.prog F.impl_ShadowsOf = some C.impl_ShadowsOf := by kernel_rfl
end Go.Ab.K

/- The abstract code of some functions (written by a program of mine from the translation, by way of prepF). -/
namespace Go.Ab.C
open Go.Ab
end Go.Ab.C

/- That the program has this code. -/
namespace Go.Ab.K
open Go Go.Ab
end Go.Ab.K

/- The abstract code of some functions (written by a program of mine from the translation, by way of prepF). -/
namespace Go.Ab.C
open Go.Ab
end Go.Ab.C

/- That the program has this code. -/
namespace Go.Ab.K
open Go Go.Ab
end Go.Ab.K

/- The abstract code of some functions (written by a program of mine from the translation, by way of prepF). -/
namespace Go.Ab.C
open Go.Ab
end Go.Ab.C

/- That the program has this code. -/
namespace Go.Ab.K
open Go Go.Ab
end Go.Ab.K

/- The abstract code of some functions (written by a program of mine from the translation, by way of prepF). -/
namespace Go.Ab.C
open Go.Ab
end Go.Ab.C

/- That the program has this code. -/
namespace Go.Ab.K
open Go Go.Ab
end Go.Ab.K

/- The abstract code of some functions (written by a program of mine from the translation, by way of prepF). -/
namespace Go.Ab.C
open Go.Ab
end Go.Ab.C

/- That the program has this code. -/
namespace Go.Ab.K
open Go Go.Ab
end Go.Ab.K

/- The abstract code of some functions (written by a program of mine from the translation, by way of prepF). -/
namespace Go.Ab.C
open Go.Ab
end Go.Ab.C

/- That the program has this code. -/
namespace Go.Ab.K
open Go Go.Ab
end Go.Ab.K

/- Contracts: the laws' helpers on lists of pairs of numbers. -/
namespace Go.Ab
open Go
set_option linter.unusedSimpArgs false
set_option linter.unusedVariables false
set_option maxRecDepth 20000

/-- A list of n pairs, number by number, that is one's own. -/
def SlF (N : Mem) (v : LV) (n : Nat) (Z : List Int) : Prop := Z.length = n * 2 ∧ ((v = .nil ∧ n = 0) ∨ ∃ t, v = .ref t 0 n ∧ Live N t (.row (intL Z) true 2))
theorem SlF.pre {M N : Mem} {v : LV} {n : Nat} {Z : List Int} (h : SlF M v n Z) (hp : Pre M N) : SlF N v n Z := by
  obtain ⟨h0, h | ⟨t, h1, h2⟩⟩ := h
  · exact ⟨h0, .inl h⟩
  · exact ⟨h0, .inr ⟨t, h1, h2.pre hp⟩⟩
theorem SlF.lenV {N : Mem} {v : LV} {n : Nat} {Z : List Int} (h : SlF N v n Z) : lenV v = some (n : Int) := by
  obtain ⟨h0, ⟨rfl, rfl⟩ | ⟨t, rfl, h2⟩⟩ := h <;> rfl
theorem SlF.older {M : Mem} {v : LV} {n : Nat} {Z : List Int} (h : SlF M v n Z) : Older M v := fun t o m e => by
  obtain ⟨h0, ⟨rfl, rfl⟩ | ⟨t', rfl, h2⟩⟩ := h
  · cases e
  · cases e; exact h2.lt
theorem SlF.at {M N : Mem} {w : LV} {n : Nat} {Z : List Int} (h : SlF M w n Z) (hk : ∀ t o m, w = .ref t o m → N[t]? = M[t]?) : SlF N w n Z := by
  obtain ⟨h0, h | ⟨t, h1, h2⟩⟩ := h
  · exact ⟨h0, .inl h⟩
  · refine ⟨h0, .inr ⟨t, h1, ?_⟩⟩
    unfold Live; rw [hk _ _ _ h1]; exact h2
end Go.Ab

/- The abstract code of some functions (written by a program of mine from the translation, by way of prepF). -/
namespace Go.Ab.C
open Go.Ab
end Go.Ab.C

/- That the program has this code. -/
namespace Go.Ab.K
open Go Go.Ab
end Go.Ab.K

/- The abstract code of some functions (written by a program of mine from the translation, by way of prepF). -/
namespace Go.Ab.C
open Go.Ab
end Go.Ab.C

/- That the program has this code. -/
namespace Go.Ab.K
open Go Go.Ab
end Go.Ab.K

/- Contracts: pieces placed in a box, the program's side. -/
namespace Go.Ab
open Go
set_option linter.unusedSimpArgs false
set_option linter.unusedVariables false
set_option maxRecDepth 20000

def At4 (at' : Cell) : Prop := (0 ≤ at'.a ∧ at'.a ≤ 4) ∧ (0 ≤ at'.b ∧ at'.b ≤ 4) ∧ (0 ≤ at'.c ∧ at'.c ≤ 4)
def PlacedOK (x y z : Int) (fr : Cell → Bool) (l : List Cell) (at' : Cell) : Prop := At4 at' ∧ ∀ c ∈ l, (shift at' c).inBox x y z ∧ fr (shift at' c) = true
noncomputable instance {x y z : Int} {fr : Cell → Bool} {l : List Cell} {at' : Cell} : Decidable (PlacedOK x y z fr l at') := Classical.propDecidable _
instance {at' : Cell} : Decidable (At4 at') := by unfold At4; exact inferInstance
end Go.Ab

/- The abstract code of some functions (written by a program of mine from the translation, by way of prepF). -/
namespace Go.Ab.C
open Go.Ab
end Go.Ab.C

/- That the program has this code. -/
namespace Go.Ab.K
open Go Go.Ab
end Go.Ab.K

/- The abstract code of some functions (written by a program of mine from the translation, by way of prepF). -/
namespace Go.Ab.C
open Go.Ab
end Go.Ab.C

/- That the program has this code. -/
namespace Go.Ab.K
open Go Go.Ab
end Go.Ab.K

/- Contracts: marks that are held, on lists of cells and on heaps. -/
namespace Go.Ab
open Go
set_option linter.unusedSimpArgs false
set_option linter.unusedVariables false

end Go.Ab

/- Contracts: the laws' helpers on lists of lists of cells. -/
namespace Go.Ab
open Go
set_option linter.unusedSimpArgs false
set_option linter.unusedVariables false

/-- A list of lists of cells that may be read. -/
def CssV (N : Mem) (v : LV) (L : List (List Cell)) : Prop := (v = .nil ∧ L = []) ∨ ∃ (t : Nat) (refs : List LV), v = .ref t 0 L.length ∧ Live N t (.row refs true 1) ∧ refs.length = L.length ∧ ∀ i, i < L.length → ∃ r, refs[i]? = some r ∧ CellsV N r (L.getD i [])
/-- A list of lists of cells that is one's own, and behind M. -/
def SlCC (M N : Mem) (v : LV) (L : List (List Cell)) : Prop := (v = .nil ∧ L = []) ∨ ∃ (t : Nat) (refs : List LV), v = .ref t 0 L.length ∧ M.length ≤ t ∧ Live N t (.row refs true 1) ∧ refs.length = L.length ∧
  (∀ i, i < L.length → ∃ r, refs[i]? = some r ∧ SlC N r (L.getD i []) ∧ Newer M r) ∧ ∀ (i j : Nat) (r s : LV), i ≠ j → refs[i]? = some r → refs[j]? = some s → Apart r s
theorem CssV.lenV {N : Mem} {v : LV} {L : List (List Cell)} (h : CssV N v L) : lenV v = some (L.length : Int) := by
  rcases h with ⟨rfl, rfl⟩ | ⟨t, refs, rfl, _⟩ <;> rfl
theorem SlCC.v {M N : Mem} {v : LV} {L : List (List Cell)} (h : SlCC M N v L) : CssV N v L := by
  rcases h with h | ⟨t, refs, h1, h2, h3, h4, h5, _⟩
  · exact .inl h
  · exact .inr ⟨t, refs, h1, h3, h4, fun i hi => by obtain ⟨r, k1, k2, _⟩ := h5 i hi; exact ⟨r, k1, k2.v⟩⟩
theorem CssV.pre {M N : Mem} {v : LV} {L : List (List Cell)} (h : CssV M v L) (hp : Pre M N) : CssV N v L := by
  rcases h with h | ⟨t, refs, h1, h3, h4, h5⟩
  · exact .inl h
  · exact .inr ⟨t, refs, h1, h3.pre hp, h4, fun i hi => by obtain ⟨r, k1, k2⟩ := h5 i hi; exact ⟨r, k1, k2.pre hp⟩⟩
/-- What is not behind M may have changed. -/
theorem SlCC.keep {M N N' : Mem} {v : LV} {L : List (List Cell)} (h : SlCC M N v L) (hp : ∀ u, M.length ≤ u → u < N.length → N'[u]? = N[u]?) : SlCC M N' v L := by
  have hl : ∀ {u : Nat} {b : Blk}, Live N u b → M.length ≤ u → Live N' u b := fun {u b} hL hu => by unfold Live; rw [hp u hu hL.lt]; exact hL
  rcases h with h | ⟨t, refs, h1, h2, h3, h4, h5, h6⟩
  · exact .inl h
  · refine .inr ⟨t, refs, h1, h2, hl h3 h2, h4, fun i hi => ?_, h6⟩
    obtain ⟨r, k1, k2, k3⟩ := h5 i hi
    refine ⟨r, k1, ?_, k3⟩
    rcases k2 with k2 | ⟨t', ex, q1, q2⟩
    · exact .inl k2
    · refine .inr ⟨t', ex, q1, hl q2 (Nat.not_lt.1 fun h => ?_)⟩
      rw [q1] at k3
      exact (k3 t' h) rfl
theorem SlCC.pre {M N N' : Mem} {v : LV} {L : List (List Cell)} (h : SlCC M N v L) (hp : Pre N N') : SlCC M N' v L := h.keep fun u _ hu => hp.2 u hu
theorem SlCC.mono {M M' N : Mem} {v : LV} {L : List (List Cell)} (h : SlCC M' N v L) (hp : Pre M M') : SlCC M N v L := by
  rcases h with h | ⟨t, refs, h1, h2, h3, h4, h5, h6⟩
  · exact .inl h
  · exact .inr ⟨t, refs, h1, Nat.le_trans hp.1 h2, h3, h4, fun i hi => by obtain ⟨r, k1, k2, k3⟩ := h5 i hi; exact ⟨r, k1, k2, k3.mono hp⟩, h6⟩
theorem SlCC.nil {M N : Mem} : SlCC M N .nil [] := .inl ⟨rfl, rfl⟩
theorem Css.ge {N : Mem} {hi : Nat} : ∀ {lo : Nat} {rs : List LV} {ls : List (List Cell)}, Css N lo hi rs ls → ∀ s ∈ rs, ∃ u n, s = .ref u 0 n ∧ lo ≤ u
  | _, [], _, _, s, hs => by cases hs
  | _, _ :: _, [], h, _, _ => h.elim
  | lo, r :: rs, l :: ls, ⟨u, h1, h2, h3, h4, h5⟩, s, hs => by
    rcases List.mem_cons.1 hs with rfl | hs
    · exact ⟨u, _, h3, h1⟩
    · obtain ⟨w, n, k1, k2⟩ := h5.ge s hs
      exact ⟨w, n, k1, by omega⟩
theorem Css.pair {N : Mem} {hi : Nat} : ∀ {lo : Nat} {rs : List LV} {ls : List (List Cell)}, Css N lo hi rs ls → rs.Pairwise Apart
  | _, [], _, _ => List.Pairwise.nil
  | _, _ :: _, [], h => h.elim
  | lo, r :: rs, l :: ls, ⟨u, h1, h2, h3, h4, h5⟩ => List.pairwise_cons.2 ⟨fun s hs t o n e => by
      obtain ⟨w, m, k1, k2⟩ := h5.ge s hs
      rw [k1] at e; cases e
      rw [h3]; show t ≠ u; omega, h5.pair⟩
theorem SlCC.of {M N : Mem} {u lo hi : Nat} {refs : List LV} {L : List (List Cell)} (hu : M.length ≤ u) (hlo : M.length ≤ lo) (h : Live N u (.row refs true 1)) (hc : Css N lo hi refs L) : SlCC M N (.ref u 0 refs.length) L := by
  have hpw := hc.pair
  rw [List.pairwise_iff_getElem] at hpw
  refine .inr ⟨u, refs, by rw [hc.len], hu, h, hc.len, fun i hi => ?_, fun i j r s hij hr hs => ?_⟩
  · obtain ⟨w, k1, k2, k3, k4⟩ := hc.get hi
    exact ⟨_, k3, SlC.of k4, Newer.of (by omega)⟩
  · obtain ⟨h1, rfl⟩ := List.getElem?_eq_some_iff.1 hr
    obtain ⟨h2, rfl⟩ := List.getElem?_eq_some_iff.1 hs
    rcases Nat.lt_or_ge i j with h3 | h3
    · exact hpw i j h1 h2 h3
    · exact (hpw j i h2 h1 (by omega)).symm

def tot : List (List Cell) → Nat
  | [] => 0
  | l :: ls => l.length + tot ls
/-- Of which the first i lists are marked. -/
def marksT (k : Int) (L : List (List Cell)) (i : Nat) : List (List Cell) := (List.range L.length).map fun j => if j < i then marks3 (k + 3 * (tot (L.take j) : Nat)) (L.getD j []).length else L.getD j []
/-- A list of lists of cells, or none, and whether there is one. -/
def CssRes (M : Mem) (r : Option (List (List Cell))) (v : LV) (N : Mem) : Prop := ∃ w, v = .tup [w, .B r.isSome] ∧ SlCC M N w (r.getD []) ∧ Pre M N
end Go.Ab

/- Plain: packings, as both sides see them. -/
namespace Go.Ab
open Go
set_option linter.unusedSimpArgs false
set_option linter.unusedVariables false

def atL (y z : Int) (xs : List Int) (c : Cell) : Int := xs.getD (idx y z c).toNat 0
/-- The cells with a number. -/
def fib (x y z : Int) (xs : List Int) (k : Nat) : List Cell := pick x y z fun c => decide (atL y z xs c = k)
/-- The free cells without those of the first pieces. -/
def leftP (y z : Int) (cs : List Cell) (xs : List Int) (i : Nat) (c : Cell) : Bool := freeP cs c && !decide (0 ≤ atL y z xs c ∧ atL y z xs c < i)
def negC (c : Cell) : Cell := ⟨-c.a, -c.b, -c.c⟩
/-- Where the program tries a piece. -/
def tryAt (x y z : Int) (L : List (List Cell)) (xs : List Int) (i : Nat) : Cell := shift (negC ((L.getD i []).getD 0 default)) ((fib x y z xs i).getD 0 default)
def StepOK (x y z : Int) (cs : List Cell) (L : List (List Cell)) (xs : List Int) (i : Nat) : Prop :=
  fib x y z xs i ≠ [] ∧ PlacedOK x y z (leftP y z cs xs i) (L.getD i []) (tryAt x y z L xs i) ∧ ∀ d, d.inBox x y z → (d ∈ (L.getD i []).map (shift (tryAt x y z L xs i)) ↔ d ∈ fib x y z xs i)
def ImplPk (x y z : Int) (cs : List Cell) (L : List (List Cell)) (xs : List Int) : Prop :=
  xs.length = vol x y z ∧ (∀ v ∈ xs, -1 ≤ v ∧ v ≤ (L.length : Int) - 1) ∧ (∀ i, i < L.length → StepOK x y z cs L xs i) ∧ ∀ c, c.inBox x y z → leftP y z cs xs L.length c = false
def DiffOK (x y z : Int) (L : List (List Cell)) (xs : List Int) (k : Nat) : Prop :=
  (fib x y z xs k).length = (L.getD k []).length ∧ ∀ i, 1 ≤ i → i < (fib x y z xs k).length → ∀ d : Nat, d < 3 → Cell.at ((fib x y z xs k).getD i default) (d : Int) - Cell.at ((fib x y z xs k).getD 0 default) (d : Int) = Cell.at ((L.getD k []).getD i default) (d : Int) - Cell.at ((L.getD k []).getD 0 default) (d : Int)
def SpecPk (x y z : Int) (cs : List Cell) (L : List (List Cell)) (xs : List Int) : Prop :=
  xs.length = vol x y z ∧ tot L + cs.length = vol x y z ∧ (∀ i, i < vol x y z → (-1 ≤ xs.getD i 0 ∧ xs.getD i 0 ≤ (L.length : Int) - 1) ∧ (xs.getD i 0 < 0 ↔ cellAt y z i ∈ cs)) ∧ ∀ k, k < L.length → DiffOK x y z L xs k

section
variable {x y z : Int} {cs : List Cell} {L : List (List Cell)} {xs : List Int} (hA : AskOK x y z cs L)
include hA
end
end Go.Ab

/- Contracts: packings, the reference's side. -/
namespace Go.Ab
open Go
set_option linter.unusedSimpArgs false
set_option linter.unusedVariables false
set_option maxRecDepth 20000

noncomputable instance {x y z : Int} {cs : List Cell} {L : List (List Cell)} {xs : List Int} : Decidable (SpecPk x y z cs L xs) := Classical.propDecidable _
noncomputable def pkP (x y z : Int) (cs : List Cell) (L : List (List Cell)) (xs : List Int) : Bool × Bool := if AskOK x y z cs L then (decide (SpecPk x y z cs L xs), true) else (false, false)
end Go.Ab

/- Contracts: FaultPlanes, the reference's side. -/
namespace Go.Ab
open Go
set_option linter.unusedSimpArgs false
set_option linter.unusedVariables false
set_option maxRecDepth 20000

/-- Cell i lies before plane k, cell j not, and both are of one piece. -/
def CrossAt (y z : Int) (xs : List Int) (d k i j : Nat) : Prop := 0 ≤ xs.getD i 0 ∧ xs.getD j 0 = xs.getD i 0 ∧ (cellAt y z i).at (d : Int) < k ∧ (k : Int) ≤ (cellAt y z j).at (d : Int)
def Crossed (x y z : Int) (xs : List Int) (d k : Nat) : Prop := ∃ i, i < vol x y z ∧ ∃ j, j < vol x y z ∧ CrossAt y z xs d k i j
noncomputable instance {x y z : Int} {xs : List Int} {d k : Nat} : Decidable (Crossed x y z xs d k) := Classical.propDecidable _
noncomputable def plK (x y z : Int) (xs : List Int) (d : Nat) : Nat → List Int
  | 0 => []
  | k + 1 => plK x y z xs d k ++ (if 1 ≤ k ∧ ¬ Crossed x y z xs d k then [(d : Int), (k : Int)] else [])
noncomputable def plD (x y z : Int) (xs : List Int) : Nat → List Int
  | 0 => []
  | d + 1 => plD x y z xs d ++ plK x y z xs d (sideOf x y z (d : Int)).toNat
noncomputable def planesN (x y z : Int) (cs : List Cell) (L : List (List Cell)) (xs : List Int) : Option (List Int) := if AskOK x y z cs L ∧ SpecPk x y z cs L xs then some (plD x y z xs 3) else none
/-- A list of pairs of numbers, or none, and whether there is one. -/
def PairsRes (M : Mem) (r : Option (List Int)) (v : LV) (N : Mem) : Prop := ∃ w n, v = .tup [w, .B r.isSome] ∧ SlF N w n (r.getD []) ∧ n ≤ 100 ∧ Newer M w ∧ Pre M N

end Go.Ab

/- The abstract code of some functions (written by a program of mine from the translation, by way of prepF). -/
namespace Go.Ab.C
open Go.Ab
end Go.Ab.C

/- That the program has this code. -/
namespace Go.Ab.K
open Go Go.Ab
end Go.Ab.K

/- Contracts: packings, the program's side. -/
namespace Go.Ab
open Go
set_option linter.unusedSimpArgs false
set_option linter.unusedVariables false
set_option maxRecDepth 20000

end Go.Ab

/- Contracts: FaultPlanes, the program's side. -/
namespace Go.Ab
open Go
set_option linter.unusedSimpArgs false
set_option linter.unusedVariables false
set_option maxRecDepth 20000

end Go.Ab

/- Contracts: pieces put into a list of numbers, the reference's side. -/
namespace Go.Ab
open Go
set_option linter.unusedSimpArgs false
set_option linter.unusedVariables false
set_option maxRecDepth 20000

def At3 (p : Cell) : Prop := (0 ≤ p.a ∧ p.a ≤ 3) ∧ (0 ≤ p.b ∧ p.b ≤ 3) ∧ (0 ≤ p.c ∧ p.c ≤ 3)
def FitsP (x y z : Int) (cs l : List Cell) (p : Cell) : Prop := At3 p ∧ ∀ c ∈ l, (shift p c).inBox x y z ∧ shift p c ∉ cs
def startL (x y z : Int) (cs : List Cell) : List Int := (cellsOf x y z).map fun c => if c ∈ cs then -1 else -2
def setsL (y z : Int) (n : Int) (xs : List Int) (ds : List Cell) : List Int := ds.foldl (fun v d => v.set (idx y z d).toNat n) xs
def PutOK (x y z : Int) (cs l : List Cell) (p : Cell) (xs : List Int) : Prop := FitsP x y z cs l p ∧ ∀ c ∈ l, atL y z xs (shift p c) = -2
noncomputable instance {x y z : Int} {cs l : List Cell} {p : Cell} : Decidable (FitsP x y z cs l p) := Classical.propDecidable _
noncomputable instance {x y z : Int} {cs l : List Cell} {p : Cell} {xs : List Int} : Decidable (PutOK x y z cs l p xs) := Classical.propDecidable _
noncomputable def putR (x y z : Int) (cs l : List Cell) (p : Cell) (xs : List Int) (n : Int) : List Int := if PutOK x y z cs l p xs then setsL y z n xs (l.map (shift p)) else []

section
variable {l : List Cell} {t o : Nat} {M : Mem} {p : Cell} (h : Tri M t o l) (hn : l.length ≤ 64) (hin : ∀ c ∈ l, c.inBox 4 4 4) (hp : At3 p)
include h hn hin hp
end
section
variable {x y z : Int} {t o u q : Nat} {cs l : List Cell} {p : Cell} {M : Mem} (h : Tri M t o cs) (hH : HeapOK x y z cs) (hl : Tri M u q l) (hn : l.length ≤ 64) (hin : ∀ c ∈ l, c.inBox 4 4 4)
include h hH hl hn hin
end
end Go.Ab

/- Contracts: pieces that fit, places, boxes, parities: the reference's side. -/
namespace Go.Ab
open Go
set_option linter.unusedSimpArgs false
set_option linter.unusedVariables false
set_option maxRecDepth 20000

theorem PieceOK.le {l : List Cell} (h : PieceOK l) : l.length ≤ 5 := h.1.2
def FitQ (x y z : Int) (cs l : List Cell) : Prop := HeapOK x y z cs ∧ PieceOK l
noncomputable def fitOf (x y z : Int) (cs l : List Cell) (p : Cell) : Option Bool := by
  classical
  exact if FitQ x y z cs l then some (decide (FitsP x y z cs l p)) else none
noncomputable def placesOf (x y z : Int) (cs l : List Cell) : Option (List Cell) := by
  classical
  exact if FitQ x y z cs l then some (pick x y z fun c => decide (FitsP x y z cs l c)) else none
noncomputable def boxOf (x y z : Int) : Option (List Cell) := by
  classical
  exact if Sides x y z ∧ vol x y z ≤ 5 then some (cellsOf x y z) else none
noncomputable def ppOf (l : List Cell) : Option Int := by
  classical
  exact if PieceOK l then some (max (parL l) (0 - parL l)) else none
noncomputable def fpOf (x y z : Int) (cs : List Cell) : Option Int := by
  classical
  exact if HeapOK x y z cs then some (parL (pick x y z (freeP cs))) else none
section
variable {x y z : Int} {t o u q : Nat} {cs l : List Cell} {M : Mem} (h : Tri M t o cs) (hn : cs.length ≤ 1000000000) (hl : Tri M u q l) (hln : l.length ≤ 1000000000)
include hl hln
include h hn
end
end Go.Ab

/- Contracts: pieces that fit, places, boxes, parities, other cells: the program's side. -/
namespace Go.Ab
open Go
set_option linter.unusedSimpArgs false
set_option linter.unusedVariables false
set_option maxRecDepth 20000

noncomputable instance {x y z : Int} {cs l : List Cell} : Decidable (FitQ x y z cs l) := Classical.propDecidable _
section
variable {x y z : Int} {t o u q : Nat} {cs l : List Cell} {M : Mem} (h : Tri M t o cs) (hn : cs.length ≤ 1000000000) (hl : Tri M u q l) (hln : l.length ≤ 1000000000)
include hl hln
include h hn
end
end Go.Ab

/- Plain: boxes as pieces; parities of all cells; places. -/
namespace Go.Ab
open Go
set_option linter.unusedSimpArgs false
set_option linter.unusedVariables false
set_option maxRecDepth 20000

end Go.Ab

/- Heaps that a law keeps: mirrored, swapped, joined, common, shifted, cropped and widened ones, plainly. -/
namespace Go.Ab
open Go
set_option linter.unusedSimpArgs false
set_option linter.unusedVariables false
set_option maxRecDepth 20000

/-- A heap, or the empty one and false; its cells lie in a block of their own. -/
def HeapX (M : Mem) (r : Option Hp) (v : LV) (N : Mem) : Prop := ∃ u : Nat, v = .tup [.agg [.I (r.getD Hp.none).x, .I (r.getD Hp.none).y, .I (r.getD Hp.none).z, .ref u 0 (r.getD Hp.none).cs.length], .B r.isSome] ∧ Live N u (.row (triL (r.getD Hp.none).cs) true 3) ∧ Pre M N
theorem heapX_some {M N : Mem} {g : Hp} {v : LV} (h : HeapT M g v N) (hp : Pre M N) : HeapX M (some g) v N := by
  obtain ⟨u, rfl, hu, _⟩ := h
  exact ⟨u, rfl, hu, hp⟩
theorem heapX_of {f : FuncId} {args : List LV} {M : Mem} {r : Option Hp} (h : CallsR PG f args M fun v N => (∃ g, r = some g ∧ HeapT M g v N ∧ Pre M N) ∨ (r = none ∧ v = .tup [.agg [.I 0, .I 0, .I 0, .nil], .B false] ∧ Pre M N)) : CallsR PG f args M (HeapX M r) := by
  refine h.den (e := 3) ?_
  rintro v N (⟨g, rfl, hg, hp⟩ | ⟨rfl, rfl, hp⟩)
  · exact .inl (heapX_some hg hp)
  · exact .inr ⟨.tup [.agg [.I 0, .I 0, .I 0, .ref N.length 0 0], .B false], .inr ⟨_, _, rfl, rfl, .inr ⟨_, _, rfl, rfl, .rfl, .rfl, .rfl, .nil, trivial⟩, .rfl, trivial⟩, N.length, rfl, Live.new, hp.trans (Pre.app _ _)⟩
theorem heapX_no {M : Mem} {r : Option Hp} {v : LV} {N : Mem} (hr : r = none) (hv : v = .tup [.agg [.I 0, .I 0, .I 0, .nil], .B false]) (hp : Pre M N) : (∃ g, r = some g ∧ HeapT M g v N ∧ Pre M N) ∨ (r = none ∧ v = .tup [.agg [.I 0, .I 0, .I 0, .nil], .B false] ∧ Pre M N) := .inr ⟨hr, hv, hp⟩
theorem heapX_yes {M : Mem} {r : Option Hp} {v : LV} {N : Mem} {g : Hp} (hr : r = some g) (h : HeapT M g v N) (hp : Pre M N) : (∃ g, r = some g ∧ HeapT M g v N ∧ Pre M N) ∨ (r = none ∧ v = .tup [.agg [.I 0, .I 0, .I 0, .nil], .B false] ∧ Pre M N) := .inl ⟨g, hr, h, hp⟩

section
variable (x y z : Int) (cs : List Cell)
noncomputable def mirOf (d : Int) : Option Hp := by
  classical
  exact if HeapOK x y z cs ∧ Dir d then some ⟨x, y, z, mirD x y z d cs⟩ else none
noncomputable def othOf : Option Hp := by
  classical
  exact if HeapOK x y z cs then some ⟨x, y, z, pick x y z (freeP cs)⟩ else none
end
/-- Two coordinates exchanged. -/
def swI (a b i : Int) : Int := if i = a then b else if i = b then a else i
def swC (a b : Int) (c : Cell) : Cell := ⟨c.at (swI a b 0), c.at (swI a b 1), c.at (swI a b 2)⟩
def swX (a b : Int) (x y z : Int) (cs : List Cell) : Hp := ⟨(swC a b ⟨x, y, z⟩).a, (swC a b ⟨x, y, z⟩).b, (swC a b ⟨x, y, z⟩).c, pick (swC a b ⟨x, y, z⟩).a (swC a b ⟨x, y, z⟩).b (swC a b ⟨x, y, z⟩).c fun d => decide (d ∈ cs.map (swC a b))⟩
section
variable {x y z : Int} {cs : List Cell}
end
section
variable (x y z : Int) (cs : List Cell)
noncomputable def swpOf (a b : Int) : Option Hp := by
  classical
  exact if HeapOK x y z cs ∧ Dir a ∧ Dir b then some (swX a b x y z cs) else none
/-- Both are heaps, in the same box. -/
def Alike (x' y' z' : Int) (ds : List Cell) : Prop := HeapOK x y z cs ∧ HeapOK x' y' z' ds ∧ x = x' ∧ y = y' ∧ z = z'
noncomputable instance {x y z : Int} {cs : List Cell} {x' y' z' : Int} {ds : List Cell} : Decidable (Alike x y z cs x' y' z' ds) := Classical.propDecidable _
noncomputable def jnOf (x' y' z' : Int) (ds : List Cell) : Option Hp := if Alike x y z cs x' y' z' ds then some ⟨x, y, z, pick x y z fun c => decide (c ∈ cs) || decide (c ∈ ds)⟩ else none
noncomputable def cmOf (x' y' z' : Int) (ds : List Cell) : Option Hp := if Alike x y z cs x' y' z' ds then some ⟨x, y, z, pick x y z fun c => decide (c ∈ cs) && decide (c ∈ ds)⟩ else none
/-- A shift that is not too far. -/
def Near4 (p : Cell) : Prop := (-4 ≤ p.a ∧ p.a ≤ 4) ∧ (-4 ≤ p.b ∧ p.b ≤ 4) ∧ (-4 ≤ p.c ∧ p.c ≤ 4)
noncomputable def shOf (p : Cell) : Option Hp := by
  classical
  exact if HeapOK x y z cs ∧ Near4 p ∧ HeapOK x y z (cs.map (shift p)) then some ⟨x, y, z, cs.map (shift p)⟩ else none
noncomputable def crOf : Option Hp := by
  classical
  exact if HeapOK x y z cs ∧ 0 < cs.length then some (cropHp cs) else none
noncomputable def wdOf (X Y Z : Int) : Option Hp := by
  classical
  exact if HeapOK x y z cs ∧ HeapOK X Y Z cs then some ⟨X, Y, Z, cs⟩ else none
end
end Go.Ab

/- The abstract code of some functions (written by a program of mine from the translation, by way of prepF). -/
namespace Go.Ab.C
open Go.Ab
end Go.Ab.C

/- That the program has this code. -/
namespace Go.Ab.K
open Go Go.Ab
end Go.Ab.K

/- Contracts: the reference's mirrored, other, cropped, widened and shifted heaps. -/
namespace Go.Ab
open Go
set_option linter.unusedSimpArgs false
set_option linter.unusedVariables false
set_option maxRecDepth 20000

section
variable {x y z : Int} {t : Nat} {w : Bool} {cs : List Cell} {M : Mem} (h : Live M t (.row (triL cs) w 3)) (hn : cs.length ≤ 1000000000)
include h hn
end
end Go.Ab

/- Contracts: shadows that fit together, greatest heaps, bounds, clean shadows, taken cubes. -/
namespace Go.Ab
open Go
set_option linter.unusedSimpArgs false
set_option linter.unusedVariables false
set_option maxRecDepth 20000

structure Shd where
  x : Int
  y : Int
  z : Int
  tp : List Int
  fr : List Int
  sd : List Int
def Shd.none : Shd := ⟨0, 0, 0, [], [], []⟩
/-- A shadow, or the one of all zeros and false; its lists may be read. -/
def ShdX (M : Mem) (r : Option Shd) (v : LV) (N : Mem) : Prop := ∃ a b c : Nat, v = .tup [.agg [.I (r.getD Shd.none).x, .I (r.getD Shd.none).y, .I (r.getD Shd.none).z, .ref a 0 (r.getD Shd.none).tp.length, .ref b 0 (r.getD Shd.none).fr.length, .ref c 0 (r.getD Shd.none).sd.length], .B r.isSome] ∧
  Ints N a 0 (r.getD Shd.none).tp ∧ Ints N b 0 (r.getD Shd.none).fr ∧ Ints N c 0 (r.getD Shd.none).sd ∧ Pre M N
theorem shdX_of {f : FuncId} {args : List LV} {M : Mem} {r : Option Shd} (h : CallsR PG f args M fun v N => (∃ (g : Shd) (a b c : Nat), r = some g ∧ v = .tup [.agg [.I g.x, .I g.y, .I g.z, .ref a 0 g.tp.length, .ref b 0 g.fr.length, .ref c 0 g.sd.length], .B true] ∧ Ints N a 0 g.tp ∧ Ints N b 0 g.fr ∧ Ints N c 0 g.sd ∧ Pre M N) ∨ (r = none ∧ v = .tup [.agg [.I 0, .I 0, .I 0, .nil, .nil, .nil], .B false] ∧ Pre M N)) : CallsR PG f args M (ShdX M r) := by
  refine h.den (e := 1) ?_
  rintro v N (⟨g, a, b, c, rfl, rfl, ha, hb, hc, hp⟩ | ⟨rfl, rfl, hp⟩)
  · exact .inl ⟨a, b, c, rfl, ha, hb, hc, hp⟩
  · have hl : Ints (N ++ [some (.row [] true 1)]) N.length 0 [] := (Live.new (b := .row (intL []) true 1)).has
    exact .inr ⟨.tup [.agg [.I 0, .I 0, .I 0, .ref N.length 0 0, .ref N.length 0 0, .ref N.length 0 0], .B false], .inr ⟨_, _, rfl, rfl, .inr ⟨_, _, rfl, rfl, .rfl, .rfl, .rfl, .nil, .nil, .nil, trivial⟩, .rfl, trivial⟩, N.length, N.length, N.length, rfl, hl, hl, hl, hp.trans (Pre.app _ _)⟩
section
variable (x y z : Int) (tp fr sd : List Int)
noncomputable def grtOf : Option Hp := by
  classical
  exact if Fits x y z tp fr sd then some ⟨x, y, z, pick x y z (allowedB y z tp fr sd)⟩ else none
noncomputable def clnOf : Option Shd := by
  classical
  exact if ShdOK x y z tp fr sd then some ⟨x, y, z, shdOf x y z 2 (pick x y z (allowedB y z tp fr sd)), shdOf x y z 1 (pick x y z (allowedB y z tp fr sd)), shdOf x y z 0 (pick x y z (allowedB y z tp fr sd))⟩ else none
noncomputable def lbdOf : Option Int := by
  classical
  exact if ShdOK x y z tp fr sd then some (max (litSum tp) (max (litSum fr) (litSum sd))) else none
end
section
variable {x y z : Int} {t o t' o' t2 o2 : Nat} {tp fr sd : List Int} {M : Mem} (h1 : Ints M t o tp) (h2 : Ints M t' o' fr) (h3 : Ints M t2 o2 sd) (l1 : tp.length ≤ 1000000000) (l2 : fr.length ≤ 1000000000) (l3 : sd.length ≤ 1000000000)
include h1 h2 h3 l1 l2 l3
end
theorem g_ShadowsOf {x y z : Int} {t : Nat} {cs : List Cell} {M : Mem} (h : Tri M t 0 cs) (hH : HeapOK x y z cs) : CallsR PG F.impl_ShadowsOf [.agg [.I x, .I y, .I z, .ref t 0 cs.length]] M fun v N => ∃ a b c : Nat, v = .tup [.agg [.I x, .I y, .I z, .ref a 0 (shdOf x y z 2 cs).length, .ref b 0 (shdOf x y z 1 cs).length, .ref c 0 (shdOf x y z 0 cs).length], .B true] ∧ Ints N a 0 (shdOf x y z 2 cs) ∧ Ints N b 0 (shdOf x y z 1 cs) ∧ Ints N c 0 (shdOf x y z 0 cs) ∧ Pre M N := by
  have hlen := hH.len
  have hpk : pick x y z (fun c => decide (c ∈ cs)) = cs := hH.pick.symm
  refine callsR_run K.impl_ShadowsOf rfl ?_
  simp (disch := omega) only [C.impl_ShadowsOf, ↓SXd, SXu, slBounds, ↓sop, ↓aop, ↓reduceIte, LV.cells, AOp.dst, LV.I, LV.B, LV.U, LV.S, LV.nil, Nat.reduceEqDiff, Nat.reduceAdd, Nat.reduceMul, Nat.reduceSub, Nat.reduceLeDiff, Nat.reduceBEq, Nat.reduceDiv, Nat.reduceMod, Int.reduceToNat, Int.reduceLT, Int.reduceLE, Int.reduceAdd, Int.reduceSub, Int.reduceMul, Int.reduceEq, Int.reduceNeg, reduceCtorEq, resV, resAll, ARes.ev, LV.flat, ite_true, ite_false, exists_eq_left', exists_eq_left, keyOf, implies_true, fillC, capOf]
  refine callK_of (g_IsHeap h.app (by omega)) ?_
  simp (disch := omega) only [hH, ↓SXd, SXu, slBounds, ↓sop, ↓aop, ↓reduceIte, LV.cells, AOp.dst, LV.I, LV.B, LV.U, LV.S, LV.nil, Nat.reduceEqDiff, Nat.reduceAdd, Nat.reduceMul, Nat.reduceSub, Nat.reduceLeDiff, Nat.reduceBEq, Nat.reduceDiv, Nat.reduceMod, Int.reduceToNat, Int.reduceLT, Int.reduceLE, Int.reduceAdd, Int.reduceSub, Int.reduceMul, Int.reduceEq, Int.reduceNeg, reduceCtorEq, resV, resAll, ARes.ev, LV.flat, ite_true, ite_false, exists_eq_left', exists_eq_left, keyOf, implies_true, fillC, capOf]
  refine callK_of (g_box) ?_
  simp (disch := omega) only [↓SXd, SXu, slBounds, ↓sop, ↓aop, ↓reduceIte, LV.cells, AOp.dst, LV.I, LV.B, LV.U, LV.S, LV.nil, Nat.reduceEqDiff, Nat.reduceAdd, Nat.reduceMul, Nat.reduceSub, Nat.reduceLeDiff, Nat.reduceBEq, Nat.reduceDiv, Nat.reduceMod, Int.reduceToNat, Int.reduceLT, Int.reduceLE, Int.reduceAdd, Int.reduceSub, Int.reduceMul, Int.reduceEq, Int.reduceNeg, reduceCtorEq, resV, resAll, ARes.ev, LV.flat, ite_true, ite_false, exists_eq_left', exists_eq_left, keyOf, implies_true, fillC, capOf]
  refine callK_of (g_cubes h.app (by omega) hH.1 (fun c hc => hH.mem hc)) ?_
  simp (disch := omega) only [↓SXd, SXu, slBounds, ↓sop, ↓aop, ↓reduceIte, LV.cells, AOp.dst, LV.I, LV.B, LV.U, LV.S, LV.nil, Nat.reduceEqDiff, Nat.reduceAdd, Nat.reduceMul, Nat.reduceSub, Nat.reduceLeDiff, Nat.reduceBEq, Nat.reduceDiv, Nat.reduceMod, Int.reduceToNat, Int.reduceLT, Int.reduceLE, Int.reduceAdd, Int.reduceSub, Int.reduceMul, Int.reduceEq, Int.reduceNeg, reduceCtorEq, resV, resAll, ARes.ev, LV.flat, ite_true, ite_false, exists_eq_left', exists_eq_left, keyOf, implies_true, fillC, capOf]
  have hgs := g_shadow (x := x) (y := y) (z := z) (p := fun c => decide (c ∈ cs)) (M := M ++ [some (.row [.I x, .I y, .I z, .ref t 0 cs.length] true 0), some (.row [.I 0, .I 0, .I 0, .nil, .nil, .nil] true 0)]) hH.1
  rw [hpk] at hgs
  refine callR_of hgs ?_
  rintro _ N2 ⟨a, b, c, rfl, ha, hb', hc, _, _, _, la, lb, lc, hp2⟩
  have b2 : Live N2 (M.length + 1) (.row [.I 0, .I 0, .I 0, .nil, .nil, .nil] true 0) := (Live.newj (j := 1) rfl).pre hp2
  have hP : Pre M N2 := (Pre.app _ _).trans hp2
  simp only [List.length_append, List.length_cons, List.length_nil] at ha hb' hc
  simp (disch := omega) only [↓SXd, SXu, slBounds, ↓sop, ↓aop, ↓reduceIte, LV.cells, AOp.dst, LV.I, LV.B, LV.U, LV.S, LV.nil, Nat.reduceEqDiff, Nat.reduceAdd, Nat.reduceMul, Nat.reduceSub, Nat.reduceLeDiff, Nat.reduceBEq, Nat.reduceDiv, Nat.reduceMod, Int.reduceToNat, Int.reduceLT, Int.reduceLE, Int.reduceAdd, Int.reduceSub, Int.reduceMul, Int.reduceEq, Int.reduceNeg, reduceCtorEq, resV, resAll, ARes.ev, LV.flat, ite_true, ite_false, exists_eq_left', exists_eq_left, keyOf, implies_true, fillC, capOf]
  refine memK_box b2 (by simp) fun N3 k1 k2 k3 => ?_
  simp (disch := omega) only [k2.cells, ↓SXd, SXu, slBounds, ↓sop, ↓aop, ↓reduceIte, LV.cells, AOp.dst, LV.I, LV.B, LV.U, LV.S, LV.nil, Nat.reduceEqDiff, Nat.reduceAdd, Nat.reduceMul, Nat.reduceSub, Nat.reduceLeDiff, Nat.reduceBEq, Nat.reduceDiv, Nat.reduceMod, Int.reduceToNat, Int.reduceLT, Int.reduceLE, Int.reduceAdd, Int.reduceSub, Int.reduceMul, Int.reduceEq, Int.reduceNeg, reduceCtorEq, resV, resAll, ARes.ev, LV.flat, ite_true, ite_false, exists_eq_left', exists_eq_left, keyOf, implies_true, fillC, capOf]
  exact ⟨a, b, c, rfl, (live_step la (by omega) k3).has, (live_step lb (by omega) k3).has, (live_step lc (by omega) k3).has, pre_step hP (by omega) (j := 0) k1 k3⟩
end Go.Ab

/- The abstract code of some functions (written by a program of mine from the translation, by way of prepF). -/
namespace Go.Ab.C
open Go.Ab
def impl_TopHeights : AFn :=
 ⟨1, 9, [.tmp 2, .tmp 3],
 .seq (.ops [(none, .box 1 (.t 0)),
 (none, .mv 2 (.c .nil)),
 (none, .mv 3 (.c (.B false)))])
 (.seq (.seq (.ops [(none, .loadN 4 4 (.t 1)),
 (none, .call (some 5) F.impl_IsHeap [(.t 4)]),
 (none, .un 6 .not (.t 5))])
 (.cond (.t 6) (.seq (.ops [(none, .mv 2 (.c .nil)),
 (none, .mv 3 (.c (.B false)))])
 (.ret))
 (.skip)))
 (.seq (.ops [(none, .loadN 7 4 (.t 1)),
 (none, .call (some 8) F.impl_Heap_heights [(.t 7)]),
 (none, .mv 2 (.t 8)),
 (none, .mv 3 (.c (.B true)))])
 (.ret)))⟩
end Go.Ab.C

/- That the program has this code. -/
namespace Go.Ab.K
open Go Go.Ab
theorem impl_TopHeights : prepF Go.Proofs.Try.prog F.impl_TopHeights = some C.impl_TopHeights := by kernel_rfl
end Go.Ab.K

/- The abstract code of some functions (written by a program of mine from the translation, by way of prepF). -/
namespace Go.Ab.C
open Go.Ab
end Go.Ab.C

/- That the program has this code. -/
namespace Go.Ab.K
open Go Go.Ab
end Go.Ab.K

/- The abstract code of some functions (written by a program of mine from the translation, by way of prepF). -/
namespace Go.Ab.C
open Go.Ab
end Go.Ab.C

/- That the program has this code. -/
namespace Go.Ab.K
open Go Go.Ab
end Go.Ab.K

/- The abstract code of some functions (written by a program of mine from the translation, by way of prepF). -/
namespace Go.Ab.C
open Go.Ab
end Go.Ab.C

/- That the program has this code. -/
namespace Go.Ab.K
open Go Go.Ab
end Go.Ab.K

/- The abstract code of some functions (written by a program of mine from the translation, by way of prepF). -/
namespace Go.Ab.C
open Go.Ab
end Go.Ab.C

/- That the program has this code. -/
namespace Go.Ab.K
open Go Go.Ab
end Go.Ab.K

/- The abstract code of some functions (written by a program of mine from the translation, by way of prepF). -/
namespace Go.Ab.C
open Go.Ab
end Go.Ab.C

/- That the program has this code. -/
namespace Go.Ab.K
open Go Go.Ab
end Go.Ab.K

/- The abstract code of some functions (written by a program of mine from the translation, by way of prepF). -/
namespace Go.Ab.C
open Go.Ab
end Go.Ab.C

/- That the program has this code. -/
namespace Go.Ab.K
open Go Go.Ab
end Go.Ab.K

/- The abstract code of some functions (written by a program of mine from the translation, by way of prepF). -/
namespace Go.Ab.C
open Go.Ab
end Go.Ab.C

/- That the program has this code. -/
namespace Go.Ab.K
open Go Go.Ab
end Go.Ab.K

/- The abstract code of some functions (written by a program of mine from the translation, by way of prepF). -/
namespace Go.Ab.C
open Go.Ab
end Go.Ab.C

/- That the program has this code. -/
namespace Go.Ab.K
open Go Go.Ab
end Go.Ab.K

/- The abstract code of some functions (written by a program of mine from the translation, by way of prepF). -/
namespace Go.Ab.C
open Go.Ab
end Go.Ab.C

/- That the program has this code. -/
namespace Go.Ab.K
open Go Go.Ab
end Go.Ab.K

/- The abstract code of some functions (written by a program of mine from the translation, by way of prepF). -/
namespace Go.Ab.C
open Go.Ab
def impl_Heap_heights : AFn :=
 ⟨1, 37, [.tmp 2],
 .seq (.ops [(none, .box 1 (.t 0)),
 (none, .mv 2 (.c .nil))])
 (.seq (.ops [(none, .fieldAddr 7 (.t 1) 0),
 (none, .load1 8 (.t 7)),
 (none, .fieldAddr 9 (.t 1) 1),
 (none, .load1 10 (.t 9)),
 (none, .bin 11 .mul (.t 8) (.t 10)),
 (none, .mksl 12 1 8 [(.I 0)] (.t 11) (.t 11)),
 (none, .mv 3 (.t 12))])
 (.seq (.seq (.ops [(none, .fieldAddr 13 (.t 1) 3),
 (none, .load1 14 (.t 13)),
 (none, .len 15 (.t 14)),
 (none, .mv 16 (.c (.I 0)))])
 (.block 0 (.loop (.seq (.ops [(none, .bin 17 .lss (.t 16) (.t 15))])
 (.seq (.cond (.t 17) (.skip)
 (.exit 0))
 (.seq (.block 1 (.seq (.ops [(none, .idxS 18 3 (.t 14) (.t 16)),
 (none, .loadN 19 3 (.t 18)),
 (none, .alloc 5 [(.I 0), (.I 0), (.I 0)]),
 (none, .store 3 (.t 5) (.t 19))])
 (.seq (.draw [⟨(none, .loadN 20 4 (.t 1)), [], []⟩,
 ⟨(none, .loadN 22 3 (.t 5)), [], []⟩,
 ⟨(none, .call (some 21) F.impl_Heap_box [(.t 20)]), [], [1]⟩,
 ⟨(none, .call (some 23) F.impl_box_line [(.t 21), (.t 22), (.c (.I 2))]), [], []⟩,
 ⟨(none, .mv 6 (.t 23)), [], []⟩])
 (.draw [⟨(none, .mv 24 (.t 3)), [], []⟩,
 ⟨(none, .mv 25 (.t 6)), [], []⟩,
 ⟨(none, .mv 26 (.t 3)), [], []⟩,
 ⟨(none, .mv 27 (.t 6)), [], []⟩,
 ⟨(none, .idxS 28 1 (.t 26) (.t 27)), [], []⟩,
 ⟨(none, .load1 29 (.t 28)), [], []⟩,
 ⟨(none, .idxA 30 3 1 (.t 5) (.c (.I 2))), [], []⟩,
 ⟨(none, .load1 31 (.t 30)), [], []⟩,
 ⟨(none, .bin 32 .add (.t 31) (.c (.I 1))), [], []⟩,
 ⟨(none, .mm 33 true [(.t 29), (.t 32)]), [], []⟩,
 ⟨(none, .idxS 34 1 (.t 24) (.t 25)), [], []⟩,
 ⟨(none, .store 1 (.t 34) (.t 33)), [], []⟩]))))
 (.ops [(none, .bin 35 .add (.t 16) (.c (.I 1))),
 (none, .mv 16 (.t 35))])))))))
 (.seq (.ops [(none, .mv 36 (.t 3)),
 (none, .mv 2 (.t 36))])
 (.ret))))⟩
end Go.Ab.C

/- That the program has this code. -/
namespace Go.Ab.K
open Go Go.Ab
theorem impl_Heap_heights : prepF Go.Proofs.Try.prog F.impl_Heap_heights = some C.impl_Heap_heights := by kernel_rfl
end Go.Ab.K

/- Contracts: g_heights. -/
namespace Go.Ab
open Go
set_option linter.unusedSimpArgs false
set_option linter.unusedVariables false
set_option maxRecDepth 20000

theorem g_heights {x y z : Int} {t o : Nat} {cs : List Cell} {M : Mem} (h : Tri M t o cs) (hn : cs.length ≤ 1000000000) (hH : HeapOK x y z cs) :
    CallsTo PG F.impl_Heap_heights [.agg [.I x, .I y, .I z, .ref t o cs.length]] M (.ref M.length 0 (x * y).toNat) (M ++ [some (.row (intL (topsOf x y cs)) true 1)]) := by
  have hb := mul_bound hH.1.1 hH.1.2.1
  refine calls_run K.impl_Heap_heights rfl ?_
  simp (disch := omega) only [C.impl_Heap_heights, made_int, ↓SXd, SXu, slBounds, ↓sop, ↓aop, ↓reduceIte, LV.cells, AOp.dst, LV.I, LV.B, LV.U, LV.S, LV.nil, Nat.reduceEqDiff, Nat.reduceAdd, Nat.reduceMul, Nat.reduceSub, Nat.reduceLeDiff, Nat.reduceBEq, Nat.reduceDiv, Nat.reduceMod, Int.reduceToNat, Int.reduceLT, Int.reduceLE, Int.reduceAdd, Int.reduceSub, Int.reduceMul, Int.reduceEq, Int.reduceNeg, reduceCtorEq, resV, resAll, ARes.ev, LV.flat, ite_true, ite_false, exists_eq_left', exists_eq_left, keyOf, implies_true, fillC, capOf]
  refine ev_loop (fun m fr M' => ∃ (k : Nat) (out : List Int), k + m = cs.length ∧ Pre M M' ∧ Live M' M.length (.row [.I x, .I y, .I z, .ref t o cs.length] true 0) ∧ Live M' (M.length + 1) (.row (intL out) true 1) ∧
    fr 1 = .ptr M.length 0 ∧ fr 3 = .ref (M.length + 1) 0 (x * y).toNat ∧ fr 14 = .ref t o cs.length ∧ fr 15 = .I (cs.length : Nat) ∧ fr 16 = .I k ∧
    out = (cs.take k).foldl (topStep y) (List.replicate (x * y).toNat 0) ∧ out.length = (x * y).toNat) cs.length ⟨0, _, by omega, Pre.app _ _, Live.new, Live.newj rfl, rfl, rfl, rfl, rfl, rfl, rfl, by simp⟩ ?_
  rintro m fr M' ⟨k, out, hk, hpre, hbox, hout, h1, h3, h14, h15, h16, ho, hol⟩
  have h' : Tri M' t o cs := h.pre hpre
  have ht := h'.lt
  simp (disch := omega) only [h1, h3, h14, h15, h16, ↓SXd, SXu, slBounds, ↓sop, ↓aop, ↓reduceIte, LV.cells, AOp.dst, LV.I, LV.B, LV.U, LV.S, LV.nil, Nat.reduceEqDiff, Nat.reduceAdd, Nat.reduceMul, Nat.reduceSub, Nat.reduceLeDiff, Nat.reduceBEq, Nat.reduceDiv, Nat.reduceMod, Int.reduceToNat, Int.reduceLT, Int.reduceLE, Int.reduceAdd, Int.reduceSub, Int.reduceMul, Int.reduceEq, Int.reduceNeg, reduceCtorEq, resV, resAll, ARes.ev, LV.flat, ite_true, ite_false, exists_eq_left', exists_eq_left, keyOf, implies_true, fillC, capOf]
  refine condC_dec (fun hlt => ?_) (fun hlt => ?_)
  · obtain ⟨ca, cb, cc⟩ := hH.cell' (k := k) (by omega)
    have hS := hH.1
    obtain ⟨b1, b2, b3, b4⟩ := col_bound hS.1 hS.2.1 ca cb
    obtain ⟨_, hy, hz⟩ := hS
    have hbox' : ∀ {L : Mem} {o n : Nat}, getCells (M' ++ L) M.length o n = _ := fun {L o n} => (hbox.app (L := L)).cells
    have houtc : ∀ {L : Mem} {o : Nat}, getCell (M' ++ L) (M.length + 1) o = _ := fun {L o} => (hout.app (L := L)).cell
    simp (disch := omega) only [h1, h3, h14, h15, h16, Tri.get h', Cell.row, hbox', ↓SXd, SXu, slBounds, ↓sop, ↓aop, ↓reduceIte, LV.cells, AOp.dst, LV.I, LV.B, LV.U, LV.S, LV.nil, Nat.reduceEqDiff, Nat.reduceAdd, Nat.reduceMul, Nat.reduceSub, Nat.reduceLeDiff, Nat.reduceBEq, Nat.reduceDiv, Nat.reduceMod, Int.reduceToNat, Int.reduceLT, Int.reduceLE, Int.reduceAdd, Int.reduceSub, Int.reduceMul, Int.reduceEq, Int.reduceNeg, reduceCtorEq, resV, resAll, ARes.ev, LV.flat, ite_true, ite_false, exists_eq_left', exists_eq_left, keyOf, implies_true, fillC, capOf]
    refine callK_of g_box ?_
    simp (disch := omega) only [h1, h3, h14, h15, h16, Tri.get h', Cell.row, hbox', ↓SXd, SXu, slBounds, ↓sop, ↓aop, ↓reduceIte, LV.cells, AOp.dst, LV.I, LV.B, LV.U, LV.S, LV.nil, Nat.reduceEqDiff, Nat.reduceAdd, Nat.reduceMul, Nat.reduceSub, Nat.reduceLeDiff, Nat.reduceBEq, Nat.reduceDiv, Nat.reduceMod, Int.reduceToNat, Int.reduceLT, Int.reduceLE, Int.reduceAdd, Int.reduceSub, Int.reduceMul, Int.reduceEq, Int.reduceNeg, reduceCtorEq, resV, resAll, ARes.ev, LV.flat, ite_true, ite_false, exists_eq_left', exists_eq_left, keyOf, implies_true, fillC, capOf]
    refine callK_of (g_line2 (by omega) (by omega)) ?_
    simp (disch := omega) only [h1, h3, h14, h15, h16, Tri.get h', Cell.row, hbox', houtc, intL_get, maxV, if_true, ↓SXd, SXu, slBounds, ↓sop, ↓aop, ↓reduceIte, LV.cells, AOp.dst, LV.I, LV.B, LV.U, LV.S, LV.nil, Nat.reduceEqDiff, Nat.reduceAdd, Nat.reduceMul, Nat.reduceSub, Nat.reduceLeDiff, Nat.reduceBEq, Nat.reduceDiv, Nat.reduceMod, Int.reduceToNat, Int.reduceLT, Int.reduceLE, Int.reduceAdd, Int.reduceSub, Int.reduceMul, Int.reduceEq, Int.reduceNeg, reduceCtorEq, resV, resAll, ARes.ev, LV.flat, ite_true, ite_false, exists_eq_left', exists_eq_left, keyOf, implies_true, fillC, capOf]
    refine memK_int hout.app (by omega) fun N l1 l2 l3 => ?_
    simp (disch := omega) only [h1, h3, h14, h15, h16, ↓SXd, SXu, slBounds, ↓sop, ↓aop, ↓reduceIte, LV.cells, AOp.dst, LV.I, LV.B, LV.U, LV.S, LV.nil, Nat.reduceEqDiff, Nat.reduceAdd, Nat.reduceMul, Nat.reduceSub, Nat.reduceLeDiff, Nat.reduceBEq, Nat.reduceDiv, Nat.reduceMod, Int.reduceToNat, Int.reduceLT, Int.reduceLE, Int.reduceAdd, Int.reduceSub, Int.reduceMul, Int.reduceEq, Int.reduceNeg, reduceCtorEq, resV, resAll, ARes.ev, LV.flat, ite_true, ite_false, exists_eq_left', exists_eq_left, keyOf, implies_true, fillC, capOf]
    refine ⟨m - 1, by omega, k + 1, _, by omega, pre_step (Pre.app' hpre) (by omega) (j := 0) l1 l3, live_step hbox.app (by omega) l3, l2, h1, h3, h14, h15, eqI (natI _), ?_, by simpa using hol⟩
    rw [take_succ_foldl _ _ _ _ default (by omega), ← ho]
    rfl
  · simp (disch := omega) only [h1, h3, h14, h15, h16, ↓SXd, SXu, slBounds, ↓sop, ↓aop, ↓reduceIte, LV.cells, AOp.dst, LV.I, LV.B, LV.U, LV.S, LV.nil, Nat.reduceEqDiff, Nat.reduceAdd, Nat.reduceMul, Nat.reduceSub, Nat.reduceLeDiff, Nat.reduceBEq, Nat.reduceDiv, Nat.reduceMod, Int.reduceToNat, Int.reduceLT, Int.reduceLE, Int.reduceAdd, Int.reduceSub, Int.reduceMul, Int.reduceEq, Int.reduceNeg, reduceCtorEq, resV, resAll, ARes.ev, LV.flat, ite_true, ite_false, exists_eq_left', exists_eq_left, keyOf, implies_true, fillC, capOf]
    have : k = cs.length := by omega
    subst this
    rw [List.take_length] at ho
    rw [show topsOf x y cs = out from ho.symm]
    exact cmp_keepL hpre (by omega) hout (intL_lo out) (by simp [rn, rn0, rn1])

end Go.Ab

/- Contracts: g_top g_isTop g_isTop_nil. -/
namespace Go.Ab
open Go
set_option linter.unusedSimpArgs false
set_option linter.unusedVariables false
set_option maxRecDepth 20000

end Go.Ab

/- Plain words: how far columns are, step by step. -/
namespace Go.Ab

theorem getD_mem {α : Type} {l : List α} {k : Nat} {d : α} (h : k < l.length) : l.getD k d ∈ l := by
  simp [h]

/-- One neighbour of column p is looked at. -/
def visit (p : Int) (st : List Int × List Int) (q : Int) : List Int × List Int :=
  if st.1.getD q.toNat 0 < 0 then (st.1.set q.toNat (st.1.getD p.toNat 0 + 1), st.2 ++ [q]) else st
def bfs (N : Int → List Int) : Nat → Nat → List Int × List Int → List Int
  | 0, _, st => st.1
  | f + 1, n, st => if n < st.2.length then bfs N f (n + 1) ((N (st.2.getD n 0)).foldl (visit (st.2.getD n 0)) st) else st.1
/-- How many steps lead from column p to each column, or -1. -/
def farFrom (c : Nat) (N : Int → List Int) (p : Int) : List Int := bfs N c 0 ((List.replicate c (-1)).set p.toNat 0, [p])

structure BInv (c : Nat) (st : List Int × List Int) : Prop where
  len : st.1.length = c
  cnt : st.1.countP (fun v => decide (v < 0)) + st.2.length = c
  mem : ∀ q ∈ st.2, 0 ≤ q ∧ q < (c : Int)
  val : ∀ k, k < c → -1 ≤ st.1.getD k 0 ∧ st.1.getD k 0 ≤ (st.2.length : Int)

theorem BInv.le {c : Nat} {st : List Int × List Int} (h : BInv c st) : st.2.length ≤ c := by have := h.cnt; omega

theorem BInv.visit {c : Nat} {st : List Int × List Int} {p q : Int} (h : BInv c st) (hp : 0 ≤ p ∧ p < c) (hq : 0 ≤ q ∧ q < c) : BInv c (Go.Ab.visit p st q) := by
  unfold Go.Ab.visit
  split
  · rename_i hlt
    have hql : q.toNat < st.1.length := by rw [h.len]; omega
    have hvp := h.val p.toNat (by omega)
    refine ⟨by simpa using h.len, ?_, fun r hr => ?_, fun k hk => ?_⟩
    · have h1 := h.cnt
      simp only [List.length_append, List.length_singleton]
      rw [List.countP_set hql]
      have e : st.1[q.toNat] = st.1.getD q.toNat 0 := by simp [hql]
      have h2 : 0 < st.1.countP (fun v => decide (v < 0)) := List.countP_pos_iff.2 ⟨st.1[q.toNat], List.getElem_mem _, by rw [e]; simpa using hlt⟩
      rw [e]
      simp only [hlt, decide_true, if_true, show decide (st.1.getD p.toNat 0 + 1 < 0) = false from decide_eq_false (by omega), Bool.false_eq_true, if_false]
      omega
    · rcases List.mem_append.1 hr with hr | hr
      · exact h.mem r hr
      · rw [List.mem_singleton.1 hr]; exact hq
    · simp only [List.length_append, List.length_singleton]
      rw [getD_set]
      have := h.val k hk
      split <;> omega
  · exact h

theorem BInv.fold {c : Nat} {p : Int} (hp : 0 ≤ p ∧ p < c) : ∀ (l : List Int) (st : List Int × List Int), BInv c st → (∀ q ∈ l, 0 ≤ q ∧ q < (c : Int)) → BInv c (l.foldl (Go.Ab.visit p) st)
  | [], st, h, _ => h
  | q :: l, st, h, hl => BInv.fold hp l _ (h.visit hp (hl q (by simp))) fun r hr => hl r (by simp [hr])

theorem BInv.start {c : Nat} {p : Int} (hp : 0 ≤ p ∧ p < c) : BInv c ((List.replicate c (-1)).set p.toNat 0, [p]) := by
  refine ⟨by simp, ?_, fun q hq => by rw [List.mem_singleton.1 hq]; exact hp, fun k hk => ?_⟩
  · have hl : p.toNat < (List.replicate c (-1 : Int)).length := by simp; omega
    simp only
    rw [List.countP_set hl, List.countP_replicate]
    simp
    omega
  · simp only [getD_set]
    split
    · simp
    · simp [hk]

end Go.Ab

/- Plain words: regions. -/
namespace Go.Ab

def spreadOf (x y : Int) (cs : List Cell) (p s : Int) : List Int := farFrom (x * y).toNat (fun q => stepsOf x y (topsOf x y cs) q s) p
def regionOf (x y : Int) (cs : List Cell) (p s : Int) : List Int := (nums (x * y).toNat).filter fun q => decide (0 ≤ (spreadOf x y cs p s).getD q.toNat 0)
def countRegions (x y : Int) (cs : List Cell) (s : Int) : Int := ((nums (x * y).toNat).filter fun p => decide ((regionOf x y cs p s).getD 0 0 = p)).length
end Go.Ab

/- Plain words: the neighbours of a column, the program's way; they are those of the reference. -/
namespace Go.Ab

def nearL (y c p : Int) : List Int :=
  (if y ≤ p then [p - y] else []) ++ ((if 0 < p.tmod y then [p - 1] else []) ++ ((if p.tmod y < y - 1 then [p + 1] else []) ++ (if p + y < c then [p + y] else [])))

end Go.Ab

/- Contracts: the program's steps between columns. -/
namespace Go.Ab
open Go
set_option linter.unusedSimpArgs false
set_option linter.unusedVariables false

end Go.Ab

/- Contracts: searching and deleting in slices, by a function. -/
namespace Go.Ab
open Go
set_option linter.unusedSimpArgs false
set_option linter.unusedVariables false

/-- The place of the first number with a mark, or -1. -/
def idxF (pr : Int → Bool) (xs : List Int) : Int := match xs.findIdx? pr with | some i => (i : Int) | none => -1
/-- What DeleteFunc leaves in the block: what stays, then zeros. -/
def delRow (pr : Int → Bool) (xs : List Int) : List Int := xs.filter (fun v => !pr v) ++ List.replicate (xs.length - (xs.filter fun v => !pr v).length) 0

end Go.Ab

/- Contracts: the program's steps; repeated numbers. -/
namespace Go.Ab
open Go
set_option linter.unusedSimpArgs false
set_option linter.unusedVariables false
set_option maxRecDepth 20000

/-- The row that the program's steps leave: the steps, then zeros. -/
def stepRow (x y : Int) (ts : List Int) (p s : Int) : List Int := stepsOf x y ts p s ++ List.replicate ((nexts x y p).length - (stepsOf x y ts p s).length) 0

end Go.Ab

/- Contracts: the program's distances. -/
namespace Go.Ab
open Go
set_option linter.unusedSimpArgs false
set_option linter.unusedVariables false

end Go.Ab

/- The abstract code of some functions (written by a program of mine from the translation, by way of prepF). -/
namespace Go.Ab.C
open Go.Ab
end Go.Ab.C

/- That the program has this code. -/
namespace Go.Ab.K
open Go Go.Ab
end Go.Ab.K

/- The abstract code of some functions (written by a program of mine from the translation, by way of prepF). -/
namespace Go.Ab.C
open Go.Ab
end Go.Ab.C

/- That the program has this code. -/
namespace Go.Ab.K
open Go Go.Ab
end Go.Ab.K

/- The abstract code of some functions (written by a program of mine from the translation, by way of prepF). -/
namespace Go.Ab.C
open Go.Ab
end Go.Ab.C

/- That the program has this code. -/
namespace Go.Ab.K
open Go Go.Ab
end Go.Ab.K

/- Contracts: the reference's steps. -/
namespace Go.Ab
open Go
set_option linter.unusedSimpArgs false
set_option linter.unusedVariables false

def Low (ts : List Int) : Prop := ∀ k, k < ts.length → -100 ≤ ts.getD k 0 ∧ ts.getD k 0 ≤ 100

end Go.Ab

/- Contracts: the reference's spread. -/
namespace Go.Ab
open Go
set_option linter.unusedSimpArgs false
set_option linter.unusedVariables false

end Go.Ab

/- Contracts: the reference's regions. -/
namespace Go.Ab
open Go
set_option linter.unusedSimpArgs false
set_option linter.unusedVariables false

/-- What TopRegion answers. -/
noncomputable def topRegionOf (x y z : Int) (cs : List Cell) (p s : Int) : Option (List Int) := if HeapOK x y z cs ∧ (0 ≤ p ∧ p ≤ x * y - 1) ∧ 0 ≤ s then some (regionOf x y cs p s) else none

/-- What CountRegions answers. -/
noncomputable def rcOf (x y z : Int) (cs : List Cell) (s : Int) : Option Int := if HeapOK x y z cs ∧ 0 ≤ s then some (countRegions x y cs s) else none

end Go.Ab

/- Contracts: the program's regions. -/
namespace Go.Ab
open Go
set_option linter.unusedSimpArgs false
set_option linter.unusedVariables false

end Go.Ab

/- Plain words: what a spread tells: the least number of steps. -/
namespace Go.Ab

/-- What is known of column v. -/
def dist (st : List Int × List Int) (v : Int) : Int := st.1.getD v.toNat 0

structure FInv (c : Nat) (N : Int → List Int) (p : Int) (n : Nat) (st : List Int × List Int) : Prop where
  base : BInv c st
  here : dist st p = 0
  nonneg : ∀ i, i < st.2.length → 0 ≤ dist st (st.2.getD i 0)
  listed : ∀ v : Int, 0 ≤ v → v < c → 0 ≤ dist st v → ∃ i, i < st.2.length ∧ st.2.getD i 0 = v
  sorted : ∀ i j, i ≤ j → j < st.2.length → dist st (st.2.getD i 0) ≤ dist st (st.2.getD j 0)
  parent : ∀ v : Int, 0 ≤ v → v < c → 0 < dist st v → ∃ a : Int, (0 ≤ a ∧ a < c) ∧ v ∈ N a ∧ 0 ≤ dist st a ∧ dist st v = dist st a + 1
  root : ∀ v : Int, 0 ≤ v → v < c → dist st v = 0 → v = p
  done : ∀ i, i < n → i < st.2.length → ∀ b ∈ N (st.2.getD i 0), 0 ≤ dist st b ∧ dist st b ≤ dist st (st.2.getD i 0) + 1

/-- One more neighbour of the column at place n. -/
theorem FInv.visit1 {c : Nat} {N : Int → List Int} {p a q : Int} {n : Nat} {st : List Int × List Int} (h : FInv c N p n st) (hn : n < st.2.length) (ha : st.2.getD n 0 = a) (hb : ∀ i, i < st.2.length → dist st (st.2.getD i 0) ≤ dist st a + 1)
    (hq : 0 ≤ q ∧ q < c) (hqa : q ∈ N a) : FInv c N p n (visit a st q) ∧ n < (visit a st q).2.length ∧ (visit a st q).2.getD n 0 = a ∧ (∀ i, i < (visit a st q).2.length → dist (visit a st q) ((visit a st q).2.getD i 0) ≤ dist (visit a st q) a + 1) ∧
    (0 ≤ dist (visit a st q) q ∧ dist (visit a st q) q ≤ dist (visit a st q) a + 1) ∧ (∀ v : Int, 0 ≤ dist st v → dist (visit a st q) v = dist st v) := by
  have hac := h.base.mem a (by rw [← ha]; exact getD_mem hn)
  have ha0 := h.nonneg n hn
  rw [ha] at ha0
  have hbase := h.base.visit hac hq
  by_cases hlt : st.1.getD q.toNat 0 < 0
  · have hv : visit a st q = (st.1.set q.toNat (st.1.getD a.toNat 0 + 1), st.2 ++ [q]) := by unfold Go.Ab.visit; rw [if_pos hlt]
    have hql : q.toNat < st.1.length := by rw [h.base.len]; omega
    rw [hv] at hbase ⊢
    have hd : ∀ v : Int, dist (st.1.set q.toNat (st.1.getD a.toNat 0 + 1), st.2 ++ [q]) v = if v.toNat = q.toNat then dist st a + 1 else dist st v := fun v => by
      unfold dist; rw [getD_set]
      by_cases e : v.toNat = q.toNat
      · rw [if_pos ⟨e, hql⟩, if_pos e]
      · rw [if_neg (fun h => e h.1), if_neg e]
    have hold : ∀ v : Int, 0 ≤ dist st v → dist (st.1.set q.toNat (st.1.getD a.toNat 0 + 1), st.2 ++ [q]) v = dist st v := fun v hv => by
      rw [hd, if_neg]; intro e; unfold dist at hv; rw [e] at hv; omega
    have hqd : dist (st.1.set q.toNat (st.1.getD a.toNat 0 + 1), st.2 ++ [q]) q = dist st a + 1 := by rw [hd, if_pos rfl]
    have hl1 : ∀ i, i < st.2.length → (st.2 ++ [q]).getD i 0 = st.2.getD i 0 := fun i hi => by simp only [List.getD_eq_getElem?_getD]; rw [List.getElem?_append_left hi]
    have hl2 : (st.2 ++ [q]).getD st.2.length 0 = q := by simp
    have hlen : (st.2 ++ [q]).length = st.2.length + 1 := by simp
    have hcase : ∀ i, i < (st.2 ++ [q]).length → i < st.2.length ∨ i = st.2.length := fun i hi => by omega
    refine ⟨⟨hbase, by rw [hold _ (by rw [h.here]; omega)]; exact h.here, fun i hi => ?_, fun v h0 hc hv => ?_, fun i j hij hj => ?_, fun v h0 hc hv => ?_, fun v h0 hc hv => ?_, fun i hi hi' b hb' => ?_⟩, by simp only [hlen]; omega, by rw [hl1 n hn, ha], fun i hi => ?_, ?_, hold⟩
    · rcases hcase i hi with h1 | rfl
      · rw [hl1 i h1, hold _ (h.nonneg i h1)]; exact h.nonneg i h1
      · simp only [hl2]; rw [hqd]; omega
    · rw [hd] at hv
      by_cases e : v.toNat = q.toNat
      · exact ⟨st.2.length, by simp only [hlen]; omega, by rw [hl2]; omega⟩
      · rw [if_neg e] at hv
        obtain ⟨i, h1, h2⟩ := h.listed v h0 hc hv
        exact ⟨i, by simp only [hlen]; omega, by rw [hl1 i h1]; exact h2⟩
    · rcases hcase j hj with h1 | rfl
      · rw [hl1 i (by omega), hl1 j h1, hold _ (h.nonneg i (by omega)), hold _ (h.nonneg j h1)]; exact h.sorted i j hij h1
      · simp only [hl2]; rw [hqd]
        rcases Nat.lt_or_ge i st.2.length with h2 | h2
        · rw [hl1 i h2, hold _ (h.nonneg i h2)]; exact hb i h2
        · rw [show i = st.2.length by omega, hl2, hqd]; omega
    · by_cases e : v.toNat = q.toNat
      · have hvq : v = q := by omega
        subst hvq
        exact ⟨a, hac, hqa, by rw [hold _ ha0]; exact ha0, by rw [hqd, hold _ ha0]⟩
      · rw [hd, if_neg e] at hv
        obtain ⟨b, h1, h2, h3, h4⟩ := h.parent v h0 hc hv
        exact ⟨b, h1, h2, by rw [hold _ h3]; exact h3, by rw [hold _ (by omega), hold _ h3]; exact h4⟩
    · by_cases e : v.toNat = q.toNat
      · rw [hd, if_pos e] at hv; omega
      · rw [hd, if_neg e] at hv; exact h.root v h0 hc hv
    · rw [hl1 i (by omega)] at hb' ⊢
      have h1 := h.done i hi (by omega) b hb'
      rw [hold _ h1.1, hold _ (h.nonneg i (by omega))]; exact h1
    · rw [hold _ ha0]
      rcases hcase i hi with h1 | rfl
      · rw [hl1 i h1, hold _ (h.nonneg i h1)]; exact hb i h1
      · simp only [hl2]; rw [hqd]; exact Int.le_refl _
    · rw [hqd, hold _ ha0]; omega
  · have hv : visit a st q = st := by unfold Go.Ab.visit; rw [if_neg hlt]
    rw [hv]
    obtain ⟨i, h1, h2⟩ := h.listed q hq.1 hq.2 (by unfold dist; omega)
    have := hb i h1
    rw [h2] at this
    exact ⟨h, hn, ha, hb, ⟨by unfold dist; omega, this⟩, fun _ _ => rfl⟩

theorem FInv.fold {c : Nat} {N : Int → List Int} {p a : Int} {n : Nat} (hN : ∀ p q, q ∈ N p → 0 ≤ q ∧ q < (c : Int)) : ∀ (l done : List Int) (st : List Int × List Int), FInv c N p n st → n < st.2.length → st.2.getD n 0 = a → (∀ i, i < st.2.length → dist st (st.2.getD i 0) ≤ dist st a + 1) →
    (∀ q ∈ l, q ∈ N a) → (∀ q ∈ done, 0 ≤ dist st q ∧ dist st q ≤ dist st a + 1) →
    FInv c N p n (l.foldl (Go.Ab.visit a) st) ∧ n < (l.foldl (Go.Ab.visit a) st).2.length ∧ (l.foldl (Go.Ab.visit a) st).2.getD n 0 = a ∧ (∀ i, i < (l.foldl (Go.Ab.visit a) st).2.length → dist (l.foldl (Go.Ab.visit a) st) ((l.foldl (Go.Ab.visit a) st).2.getD i 0) ≤ dist (l.foldl (Go.Ab.visit a) st) a + 1) ∧
    (∀ q, q ∈ done ∨ q ∈ l → 0 ≤ dist (l.foldl (Go.Ab.visit a) st) q ∧ dist (l.foldl (Go.Ab.visit a) st) q ≤ dist (l.foldl (Go.Ab.visit a) st) a + 1) := by
  intro l
  induction l with
  | nil => intro done st h hn ha hb _ hd; exact ⟨h, hn, ha, hb, fun q hq => hd q (by simpa using hq)⟩
  | cons q l ih =>
    intro done st h hn ha hb hl hd
    have hqa := hl q (by simp)
    obtain ⟨h1, h2, h3, h4, h5, h6⟩ := h.visit1 hn ha hb (hN a q hqa) hqa
    have ha0 := h.nonneg n hn
    rw [ha] at ha0
    obtain ⟨k1, k2, k3, k4, k5⟩ := ih (q :: done) _ h1 h2 h3 h4 (fun r hr => hl r (by simp [hr])) (fun r hr => by
      rcases List.mem_cons.1 hr with rfl | hr
      · exact h5
      · rw [h6 _ (hd r hr).1, h6 _ ha0]; exact hd r hr)
    exact ⟨k1, k2, k3, k4, fun r hr => k5 r (by simp only [List.mem_cons] at hr ⊢; rcases hr with h | h | h <;> simp [h])⟩

theorem FInv.next {c : Nat} {N : Int → List Int} {p : Int} {n : Nat} {st : List Int × List Int} (hN : ∀ p q, q ∈ N p → 0 ≤ q ∧ q < (c : Int)) (h : FInv c N p n st) (hn : n < st.2.length) (hb : ∀ i, i < st.2.length → dist st (st.2.getD i 0) ≤ dist st (st.2.getD n 0) + 1) :
    FInv c N p (n + 1) ((N (st.2.getD n 0)).foldl (visit (st.2.getD n 0)) st) ∧ ∀ i, n + 1 < ((N (st.2.getD n 0)).foldl (visit (st.2.getD n 0)) st).2.length → i < ((N (st.2.getD n 0)).foldl (visit (st.2.getD n 0)) st).2.length →
      dist ((N (st.2.getD n 0)).foldl (visit (st.2.getD n 0)) st) (((N (st.2.getD n 0)).foldl (visit (st.2.getD n 0)) st).2.getD i 0) ≤ dist ((N (st.2.getD n 0)).foldl (visit (st.2.getD n 0)) st) (((N (st.2.getD n 0)).foldl (visit (st.2.getD n 0)) st).2.getD (n + 1) 0) + 1 := by
  obtain ⟨k1, k2, k3, k4, k5⟩ := FInv.fold hN (N (st.2.getD n 0)) [] st h hn rfl hb (fun q hq => hq) (fun q hq => by cases hq)
  generalize (N (st.2.getD n 0)).foldl (visit (st.2.getD n 0)) st = st' at k1 k2 k3 k4 k5 ⊢
  refine ⟨⟨k1.base, k1.here, k1.nonneg, k1.listed, k1.sorted, k1.parent, k1.root, fun i hi hi' b hb' => ?_⟩, fun i h1 h2 => ?_⟩
  · rcases Nat.lt_or_ge i n with h3 | h3
    · exact k1.done i h3 hi' b hb'
    · have : i = n := by omega
      subst this
      rw [k3] at hb' ⊢
      exact k5 b (.inr hb')
  · have h3 := k4 i h2
    have h4 := k1.sorted n (n + 1) (by omega) h1
    rw [k3] at h4
    omega

theorem FInv.start {c : Nat} {N : Int → List Int} {p : Int} (hp : 0 ≤ p ∧ p < c) : FInv c N p 0 ((List.replicate c (-1)).set p.toNat 0, [p]) := by
  have hd : ∀ v : Int, 0 ≤ v → v < c → dist ((List.replicate c (-1)).set p.toNat 0, [p]) v = if v = p then 0 else -1 := fun v h0 hc => by
    unfold dist
    simp only [getD_set, List.length_replicate]
    by_cases e : v = p
    · subst e; rw [if_pos ⟨rfl, by omega⟩, if_pos rfl]
    · rw [if_neg (fun h => e (by omega)), if_neg e]
      simp only [List.getD_eq_getElem?_getD, List.getElem?_replicate]
      rw [if_pos (by omega)]; rfl
  refine ⟨BInv.start hp, by rw [hd p hp.1 hp.2, if_pos rfl], fun i hi => ?_, fun v h0 hc hv => ?_, fun i j hij hj => ?_, fun v h0 hc hv => ?_, fun v h0 hc hv => ?_, fun i hi => by omega⟩
  · have : i = 0 := by simp at hi; omega
    subst this
    show 0 ≤ dist _ p
    rw [hd p hp.1 hp.2, if_pos rfl]; exact Int.le_refl 0
  · rw [hd v h0 hc] at hv
    split at hv
    · rename_i e; exact ⟨0, by simp, by simp [e]⟩
    · omega
  · have h1 : j = 0 := by simp at hj; omega
    have h2 : i = 0 := by omega
    subst h1; subst h2; exact Int.le_refl _
  · rw [hd v h0 hc] at hv; split at hv <;> omega
  · rw [hd v h0 hc] at hv; split at hv
    · assumption
    · omega

/-- Steps one behind the other. -/
inductive Way (N : Int → List Int) (p : Int) : Nat → Int → Prop
  | nil : Way N p 0 p
  | snoc {n : Nat} {a b : Int} : Way N p n a → b ∈ N a → Way N p (n + 1) b

theorem Way.cons {N : Int → List Int} {n : Nat} {p a b : Int} (h : b ∈ N p) (w : Way N b n a) : Way N p (n + 1) a := by
  induction w with
  | nil => exact .snoc .nil h
  | snoc _ h' ih => exact .snoc ih h'
section
variable {c : Nat} {N : Int → List Int} {p : Int} (hN : ∀ p q, q ∈ N p → 0 ≤ q ∧ q < (c : Int)) (hp : 0 ≤ p ∧ p < c)
include hN hp

end

end Go.Ab

/- Plain words: least numbers; the grid is one region; walks. -/
namespace Go.Ab

/-- The least number of which f holds. -/
noncomputable def leastN (f : Nat → Prop) : Nat := by
  classical
  exact if h : ∃ k, f k ∧ ∀ j, j < k → ¬ f j then Classical.choose h else 0
end Go.Ab

/- Contracts: distances and least reaches, both sides. -/
namespace Go.Ab
open Go
set_option linter.unusedSimpArgs false
set_option linter.unusedVariables false

/-- The distance of two columns, or -1. -/
noncomputable def tdOf (x y z : Int) (cs : List Cell) (p q s : Int) : Int := by
  classical
  exact if (HeapOK x y z cs ∧ (0 ≤ p ∧ p ≤ x * y - 1)) ∧ (0 ≤ q ∧ q ≤ x * y - 1) ∧ 0 ≤ s then (spreadOf x y cs p s).getD q.toNat 0 else -1

end Go.Ab

/- Contracts: least reaches, both sides. -/
namespace Go.Ab
open Go
set_option linter.unusedSimpArgs false
set_option linter.unusedVariables false

/-- Column q is reached from p at the reach s. -/
def Near' (x y : Int) (cs : List Cell) (p q : Int) (s : Nat) : Prop := 0 ≤ (spreadOf x y cs p s).getD q.toNat 0
/-- What LeastReach answers. -/
noncomputable def reachOf (x y z : Int) (cs : List Cell) (p q : Int) : Option Nat := by
  classical
  exact if (HeapOK x y z cs ∧ (0 ≤ p ∧ p ≤ x * y - 1)) ∧ (0 ≤ q ∧ q ≤ x * y - 1) then some (leastN (Near' x y cs p q)) else none

end Go.Ab

/- Plain words: least climbs. -/
namespace Go.Ab

def relax1 (ts : List Int) (a c : Int) (st : List Int × Bool) (b : Int) : List Int × Bool :=
  if st.1.getD b.toNat 0 < 0 ∨ c + max (ts.getD b.toNat 0 - ts.getD a.toNat 0) 0 < st.1.getD b.toNat 0 then (st.1.set b.toNat (c + max (ts.getD b.toNat 0 - ts.getD a.toNat 0) 0), true) else st
def relaxCol (ts : List Int) (St : Int → List Int) (st : List Int × Bool) (a : Int) : List Int × Bool :=
  if st.1.getD a.toNat 0 < 0 then st else (St a).foldl (relax1 ts a (st.1.getD a.toNat 0)) st
def climbRound (ts : List Int) (St : Int → List Int) (c : Nat) (best : List Int) : List Int × Bool := (nums c).foldl (relaxCol ts St) (best, false)
def climbLoop (ts : List Int) (St : Int → List Int) (c : Nat) : Nat → List Int → List Int
  | 0, best => best
  | f + 1, best => if (climbRound ts St c best).2 then climbLoop ts St c f (climbRound ts St c best).1 else (climbRound ts St c best).1

def phiOf (v : Int) : Nat := if v < 0 then 100 else v.toNat
def phi (best : List Int) : Nat := (best.map phiOf).sum

def cnt0 (l : List Int) : Nat := l.countP fun v => decide (0 ≤ v)
structure CI (c : Nat) (N : Int → List Int) (p : Int) (best : List Int) : Prop where
  len : best.length = c
  lo : ∀ k, k < c → -1 ≤ best.getD k 0
  hi : ∀ k, k < c → best.getD k 0 ≤ 4 * (cnt0 best : Int) - 4
  root : 0 ≤ best.getD p.toNat 0
  way : ∀ v : Int, 0 ≤ v → v < c → 0 ≤ best.getD v.toNat 0 → ∃ n, Way N p n v

theorem CI.top {c : Nat} {N : Int → List Int} {p : Int} {best : List Int} (h : CI c N p best) (hc : c ≤ 16) : ∀ k, k < c → best.getD k 0 ≤ 60 := fun k hk => by
  have h1 := h.hi k hk
  have h2 : cnt0 best ≤ best.length := List.countP_le_length
  have h3 := h.len
  omega

section
variable {c : Nat} {N : Int → List Int} {p : Int} {ts : List Int} (hN : ∀ p q, q ∈ N p → 0 ≤ q ∧ q < (c : Int)) (hne : ∀ p, p ∉ N p) (hts : ∀ k, 0 ≤ ts.getD k 0 ∧ ts.getD k 0 ≤ 4) (hc : c ≤ 16)
include hN hne hts hc

end

def climbStart (c : Nat) (p : Int) : List Int := (List.replicate c (-1)).set p.toNat 0
end Go.Ab

/- Contracts: least climbs, both sides. -/
namespace Go.Ab
open Go
set_option linter.unusedSimpArgs false
set_option linter.unusedVariables false

/-- The least climbs from a column to all others. -/
def climbs (x y : Int) (cs : List Cell) (p s : Int) : List Int := climbLoop (topsOf x y cs) (fun r => stepsOf x y (topsOf x y cs) r s) (x * y).toNat 2000 (climbStart (x * y).toNat p)
/-- What LeastClimb answers. -/
noncomputable def climbOf (x y z : Int) (cs : List Cell) (p q s : Int) : Option Int := by
  classical
  exact if ((HeapOK x y z cs ∧ (0 ≤ p ∧ p ≤ x * y - 1)) ∧ (0 ≤ q ∧ q ≤ x * y - 1) ∧ 0 ≤ s) ∧ 0 ≤ (spreadOf x y cs p s).getD q.toNat 0 then some ((climbs x y cs p s).getD q.toNat 0) else none

section
variable {x y z s p : Int} {cs : List Cell} (hH : HeapOK x y z cs)
include hH

end

end Go.Ab

/- Plain words: the first walk. -/
namespace Go.Ab

def nextOf (D : List Int) (d : Int) (l : List Int) : Int := l.getD (idxF (fun r => decide (D.getD r.toNat 0 = d)) l).toNat 0
/-- The walk from a column on, that many steps long. -/
def walkW (D : List Int) (St : Int → List Int) : Nat → Int → List Int
  | 0, now => [now]
  | f + 1, now => now :: walkW D St f (nextOf D f (St now))
section
variable {x y s q : Int} {cs : List Cell} (hq : 0 ≤ q ∧ q ≤ x * y - 1)
include hq
end

/-- What FirstTopWalk answers. -/
noncomputable def walkOf (x y z : Int) (cs : List Cell) (p q s : Int) : Option (List Int) := by
  classical
  exact if ((HeapOK x y z cs ∧ (0 ≤ p ∧ p ≤ x * y - 1)) ∧ (0 ≤ q ∧ q ≤ x * y - 1) ∧ 0 ≤ s) ∧ 0 ≤ (spreadOf x y cs q s).getD p.toNat 0 then
    some (walkW (spreadOf x y cs q s) (fun r => stepsOf x y (topsOf x y cs) r s) ((spreadOf x y cs q s).getD p.toNat 0).toNat p) else none
end Go.Ab

/- Plain words: the reach and the climb of a walk; what the law of the walks says of them. -/
namespace Go.Ab
open Go
set_option linter.unusedSimpArgs false
set_option linter.unusedVariables false

def sumN (f : Nat → Int) : Nat → Int
  | 0 => 0
  | k + 1 => sumN f k + f k
/-- The reach of the first k steps. -/
def gapN (u : Nat → Int) : Nat → Int
  | 0 => 0
  | k + 1 => max (gapN u k) (gap (u (k + 1)) (u k))
def upN (u : Nat → Int) (k : Nat) : Int := sumN (fun i => max (u (i + 1) - u i) 0) k
/-- The heights along a walk. -/
def along (ts w : List Int) (i : Nat) : Int := ts.getD (w.getD i 0).toNat 0
def WalkOK (x y z : Int) (cs : List Cell) (w : List Int) : Prop := HeapOK x y z cs ∧ 0 < w.length ∧ (∀ i, i < w.length → 0 ≤ w.getD i 0 ∧ w.getD i 0 ≤ x * y - 1) ∧ ∀ i, i + 1 < w.length → w.getD (i + 1) 0 ∈ nexts x y (w.getD i 0)
/-- What WalkClimb answers. -/
noncomputable def wcOf (x y z : Int) (cs : List Cell) (w : List Int) : Option (Int × Int) := by
  classical
  exact if WalkOK x y z cs w then some (gapN (along (topsOf x y cs) w) (w.length - 1), upN (along (topsOf x y cs) w) (w.length - 1)) else none
theorem Way.mono {N N' : Int → List Int} (h : ∀ p q, q ∈ N p → q ∈ N' p) {p : Int} {n : Nat} {q : Int} (w : Way N p n q) : Way N' p n q := by
  induction w with
  | nil => exact .nil
  | snoc _ h' ih => exact .snoc ih (h _ _ h')
end Go.Ab

/- The abstract code of some functions (written by a program of mine from the translation, by way of prepF). -/
namespace Go.Ab.C
open Go.Ab
end Go.Ab.C

/- That the program has this code. -/
namespace Go.Ab.K
open Go Go.Ab
end Go.Ab.K

/- Contracts: least climbs, the program's side. -/
namespace Go.Ab
open Go
set_option linter.unusedSimpArgs false
set_option linter.unusedVariables false

end Go.Ab
