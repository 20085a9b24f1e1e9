/- Parts of the proof of FnStairCountsSaid: C_Uh K_Uh Uh Ui Uj Uk C_Vb K_Vb Vb Wb Zd Ze Zf Ka C_Xb K_Xb C_Bw K_Bw C_Bv K_Bv C_Bu K_Bu C_Je K_Je C_Hg K_Hg C_Ha K_Ha Ha Hg C_Jb K_Jb C_Ja K_Ja C_Hb K_Hb Hb C_Hh0 K_Hh0 Hh0 Ja Jb Jc Je C_Ul K_Ul Ul Bu Bv Bw Sg C_Hi K_Hi C_Hh K_Hh C_He K_He C_Hd K_Hd C_Hc K_Hc. -/
import Derived.Test.YtggnfklcgopflaaA3
import Derived.Test.YtggnfklcgopflaaA4
import Derived.Test.YtggnfklcgopflaaProg
import Derived.KernelRfl
import Derived.Test.YtggnfklcgopflaaA6
import Derived.Test.YtggnfklcgopflaaA5
import Derived.Test.YtggnfklcgopflaaA2
set_option linter.all false
/- The abstract code of some functions (written by a program of mine from the translation, by way of prepF). -/
namespace Go.Ab.C
open Go.Ab
def spec_l2Others : AFn :=
 ⟨1, 9, [.tmp 2, .tmp 3],
 .seq (.ops [(none, .mv 2 (.c (.I 0))),
 (none, .mv 3 (.c (.I 0)))])
 (.seq (.seq (.ops [(none, .mv 4 (.t 0))])
 (.block 0 (.seq (.ops [(none, .bin 6 .eql (.t 4) (.c (.I 0))),
 (none, .mv 5 (.t 6))])
 (.cond (.t 5) (.seq (.ops [(none, .mv 2 (.c (.I 1))),
 (none, .mv 3 (.c (.I 2)))])
 (.ret))
 (.seq (.ops [(none, .bin 8 .eql (.t 4) (.c (.I 1))),
 (none, .mv 7 (.t 8))])
 (.cond (.t 7) (.seq (.ops [(none, .mv 2 (.c (.I 0))),
 (none, .mv 3 (.c (.I 2)))])
 (.ret))
 (.skip)))))))
 (.seq (.ops [(none, .mv 2 (.c (.I 0))),
 (none, .mv 3 (.c (.I 1)))])
 (.ret)))⟩
def spec_l2View : AFn :=
 ⟨2, 54, [.tmp 4],
 .seq (.ops [(none, .box 2 (.t 0)),
 (none, .mv 4 (.c .nil))])
 (.seq (.ops [(none, .mv 10 (.t 1)),
 (none, .call (some 11) F.spec_l2Others [(.t 10)]),
 (none, .mv 9 (.t 11)),
 (none, .extract 12 (.t 9) 0),
 (none, .extract 13 (.t 9) 1),
 (none, .mv 5 (.t 12)),
 (none, .mv 6 (.t 13))])
 (.seq (.draw [⟨(none, .loadN 14 4 (.t 2)), [], []⟩,
 ⟨(none, .mv 15 (.t 5)), [], []⟩,
 ⟨(none, .loadN 17 4 (.t 2)), [], []⟩,
 ⟨(none, .mv 18 (.t 6)), [], []⟩,
 ⟨(none, .call (some 16) F.spec_l2Long [(.t 14), (.t 15)]), [], [2, 3]⟩,
 ⟨(none, .call (some 19) F.spec_l2Long [(.t 17), (.t 18)]), [], []⟩,
 ⟨(none, .bin 20 .mul (.t 16) (.t 19)), [], []⟩,
 ⟨(none, .mksl 21 1 8 [(.I 0)] (.t 20) (.t 20)), [], []⟩,
 ⟨(none, .mv 7 (.t 21)), [], []⟩])
 (.seq (.seq (.ops [(none, .mv 8 (.c (.I 0)))])
 (.block 0 (.loop (.seq (.seq (.ops [(none, .mv 22 (.t 8)),
 (none, .fieldAddr 23 (.t 2) 3),
 (none, .load1 24 (.t 23)),
 (none, .len 25 (.t 24)),
 (none, .bin 26 .lss (.t 22) (.t 25))])
 (.cond (.t 26) (.skip)
 (.exit 0)))
 (.seq (.block 1 (.draw [⟨(none, .mv 29 (.t 7)), [], []⟩,
 ⟨(none, .fieldAddr 30 (.t 2) 3), [], []⟩,
 ⟨(none, .load1 31 (.t 30)), [], []⟩,
 ⟨(none, .mv 32 (.t 8)), [], []⟩,
 ⟨(none, .mv 33 (.t 5)), [], []⟩,
 ⟨(none, .idxS 34 3 (.t 31) (.t 32)), [], []⟩,
 ⟨(none, .idxA 35 3 1 (.t 34) (.t 33)), [], []⟩,
 ⟨(none, .load1 36 (.t 35)), [], []⟩,
 ⟨(none, .loadN 37 4 (.t 2)), [], []⟩,
 ⟨(none, .mv 38 (.t 6)), [], []⟩,
 ⟨(none, .fieldAddr 41 (.t 2) 3), [], []⟩,
 ⟨(none, .load1 42 (.t 41)), [], []⟩,
 ⟨(none, .mv 43 (.t 8)), [], []⟩,
 ⟨(none, .mv 44 (.t 6)), [], []⟩,
 ⟨(none, .idxS 45 3 (.t 42) (.t 43)), [], []⟩,
 ⟨(none, .idxA 46 3 1 (.t 45) (.t 44)), [], []⟩,
 ⟨(none, .load1 47 (.t 46)), [], []⟩,
 ⟨(none, .call (some 39) F.spec_l2Long [(.t 37), (.t 38)]), [], [0, 1, 2, 3, 4, 5, 6, 7, 10, 11, 12, 13, 14, 15, 16]⟩,
 ⟨(none, .bin 40 .mul (.t 36) (.t 39)), [], []⟩,
 ⟨(none, .bin 48 .add (.t 40) (.t 47)), [], []⟩,
 ⟨(none, .idxS 49 1 (.t 29) (.t 48)), [], []⟩,
 ⟨(none, .load1 50 (.t 49)), [], []⟩,
 ⟨(none, .bin 51 .add (.t 50) (.c (.I 1))), [], []⟩,
 ⟨(none, .idxS 52 1 (.t 29) (.t 48)), [], []⟩,
 ⟨(none, .store 1 (.t 52) (.t 51)), [], []⟩]))
 (.ops [(none, .mv 27 (.t 8)),
 (none, .bin 28 .add (.t 27) (.c (.I 1))),
 (none, .mv 8 (.t 28))]))))))
 (.seq (.ops [(none, .mv 53 (.t 7)),
 (none, .mv 4 (.t 53))])
 (.ret)))))⟩
end Go.Ab.C

/- That the program has this code. -/
namespace Go.Ab.K
open Go Go.Ab
theorem spec_l2Others : prepF Go.Proofs.Try.prog F.spec_l2Others = some C.spec_l2Others := by kernel_rfl
theorem spec_l2View : prepF Go.Proofs.Try.prog F.spec_l2View = some C.spec_l2View := by kernel_rfl
end Go.Ab.K

/- Contracts: views, the reference's side. -/
namespace Go.Ab
open Go
set_option linter.unusedSimpArgs false
set_option linter.unusedVariables false
set_option maxRecDepth 20000

theorem h_l2Others {d : Nat} {M : Mem} (hd : d < 3) : CallsTo PG F.spec_l2Others [.I d] M (.tup [.I (if d = 0 then 1 else 0), .I (if d = 2 then 1 else 2)]) M := by
  refine calls_run K.spec_l2Others rfl ?_
  rcases (show d = 0 ∨ d = 1 ∨ d = 2 by omega) with rfl | rfl | rfl
  all_goals
    simp (disch := omega) only [C.spec_l2Others, ↓SXd, SXu, slBounds, ↓sop, ↓aop, ↓reduceIte, LV.cells, AOp.dst, LV.I, LV.B, LV.U, LV.S, LV.nil, Nat.reduceEqDiff, Nat.reduceAdd, Nat.reduceMul, Nat.reduceSub, Nat.reduceLeDiff, Nat.reduceBEq, Nat.reduceDiv, Nat.reduceMod, Int.reduceToNat, Int.reduceLT, Int.reduceLE, Int.reduceAdd, Int.reduceSub, Int.reduceMul, Int.reduceEq, Int.reduceNeg, reduceCtorEq, resV, resAll, ARes.ev, LV.flat, ite_true, ite_false, exists_eq_left', exists_eq_left, keyOf, implies_true, fillC, capOf]
    exact cmp_drop0 rfl
theorem h_l2View {x y z : Int} {d t o : Nat} {cs : List Cell} {M : Mem} (h : Tri M t o cs) (hH : HeapOK x y z cs) (hd : d < 3) : CallsTo PG F.spec_l2View [.agg [.I x, .I y, .I z, .ref t o cs.length], .I d] M (.ref M.length 0 (viewL x y z d cs).length) (M ++ [some (.row (intL (viewL x y z d cs)) true 1)]) := by
  have hS := hH.1
  have hlp : 1 ≤ linesOf x y z d ∧ linesOf x y z d ≤ 16 := by
    have := prod_le hS
    rcases (show d = 0 ∨ d = 1 ∨ d = 2 by omega) with rfl | rfl | rfl
    · exact this.2.2
    · exact this.2.1
    · exact this.1
  have hlen := hH.len
  have ht := h.lt
  have hz : ∀ j, 0 ≤ (List.replicate (linesOf x y z d).toNat (0 : Int)).getD j 0 ∧ (List.replicate (linesOf x y z d).toNat (0 : Int)).getD j 0 ≤ 0 := fun j => by
    rw [List.getD_eq_getElem?_getD, List.getElem?_replicate]; split <;> simp
  have hvl := viewL_len (x := x) (y := y) (z := z) (d := d) (cs := cs)
  have hda : Dir (if d = 0 then 1 else 0) := by unfold Dir; split <;> omega
  have hdb : Dir (if d = 2 then 1 else 2) := by unfold Dir; split <;> omega
  have hprod : sideOf x y z (if d = 0 then 1 else 0) * sideOf x y z (if d = 2 then 1 else 2) = linesOf x y z d := by
    rcases (show d = 0 ∨ d = 1 ∨ d = 2 by omega) with rfl | rfl | rfl <;> rfl
  have hline : ∀ c : Cell, c.at (if d = 0 then 1 else 0) * sideOf x y z (if d = 2 then 1 else 2) + c.at (if d = 2 then 1 else 2) = lineOf y z c d := fun c => by
    rcases (show d = 0 ∨ d = 1 ∨ d = 2 by omega) with rfl | rfl | rfl <;> rfl
  have hrA : 0 ≤ (if d = 0 then (1 : Int) else 0) ∧ (if d = 0 then (1 : Int) else 0) < 3 := by split <;> omega
  have hrB : 0 ≤ (if d = 2 then (1 : Int) else 2) ∧ (if d = 2 then (1 : Int) else 2) < 3 := by split <;> omega
  refine calls_run K.spec_l2View rfl ?_
  simp (disch := omega) only [C.spec_l2View, ↓SXd, SXu, slBounds, ↓sop, ↓aop, ↓reduceIte, LV.cells, AOp.dst, LV.I, LV.B, LV.U, LV.S, LV.nil, Nat.reduceEqDiff, Nat.reduceAdd, Nat.reduceMul, Nat.reduceSub, Nat.reduceLeDiff, Nat.reduceBEq, Nat.reduceDiv, Nat.reduceMod, Int.reduceToNat, Int.reduceLT, Int.reduceLE, Int.reduceAdd, Int.reduceSub, Int.reduceMul, Int.reduceEq, Int.reduceNeg, reduceCtorEq, resV, resAll, ARes.ev, LV.flat, ite_true, ite_false, exists_eq_left', exists_eq_left, keyOf, implies_true, fillC, capOf]
  refine callK_of (h_l2Others hd) ?_
  simp (disch := omega) only [↓SXd, SXu, slBounds, ↓sop, ↓aop, ↓reduceIte, LV.cells, AOp.dst, LV.I, LV.B, LV.U, LV.S, LV.nil, Nat.reduceEqDiff, Nat.reduceAdd, Nat.reduceMul, Nat.reduceSub, Nat.reduceLeDiff, Nat.reduceBEq, Nat.reduceDiv, Nat.reduceMod, Int.reduceToNat, Int.reduceLT, Int.reduceLE, Int.reduceAdd, Int.reduceSub, Int.reduceMul, Int.reduceEq, Int.reduceNeg, reduceCtorEq, resV, resAll, ARes.ev, LV.flat, ite_true, ite_false, exists_eq_left', exists_eq_left, keyOf, implies_true, fillC, capOf]
  generalize (if d = 0 then (1 : Int) else 0) = A at hda hprod hline hrA ⊢
  generalize (if d = 2 then (1 : Int) else 2) = B at hdb hprod hline hrB ⊢
  obtain ⟨rA1, rA2⟩ := hrA
  obtain ⟨rB1, rB2⟩ := hrB
  refine callK_of (h_l2Long hda) ?_
  simp (disch := omega) only [↓SXd, SXu, slBounds, ↓sop, ↓aop, ↓reduceIte, LV.cells, AOp.dst, LV.I, LV.B, LV.U, LV.S, LV.nil, Nat.reduceEqDiff, Nat.reduceAdd, Nat.reduceMul, Nat.reduceSub, Nat.reduceLeDiff, Nat.reduceBEq, Nat.reduceDiv, Nat.reduceMod, Int.reduceToNat, Int.reduceLT, Int.reduceLE, Int.reduceAdd, Int.reduceSub, Int.reduceMul, Int.reduceEq, Int.reduceNeg, reduceCtorEq, resV, resAll, ARes.ev, LV.flat, ite_true, ite_false, exists_eq_left', exists_eq_left, keyOf, implies_true, fillC, capOf]
  refine callK_of (h_l2Long hdb) ?_
  simp (disch := omega) only [hprod, made_int, ↓SXd, SXu, slBounds, ↓sop, ↓aop, ↓reduceIte, LV.cells, AOp.dst, LV.I, LV.B, LV.U, LV.S, LV.nil, Nat.reduceEqDiff, Nat.reduceAdd, Nat.reduceMul, Nat.reduceSub, Nat.reduceLeDiff, Nat.reduceBEq, Nat.reduceDiv, Nat.reduceMod, Int.reduceToNat, Int.reduceLT, Int.reduceLE, Int.reduceAdd, Int.reduceSub, Int.reduceMul, Int.reduceEq, Int.reduceNeg, reduceCtorEq, resV, resAll, ARes.ev, LV.flat, ite_true, ite_false, exists_eq_left', exists_eq_left, keyOf, implies_true, fillC, capOf]
  refine ev_loop (fun m fr M' => ∃ i : Nat, i + m = cs.length ∧ Pre M M' ∧ Live M' M.length (.row [.I x, .I y, .I z, .ref t o cs.length] true 0) ∧ Live M' (M.length + 1) (.row (intL ((cs.take i).foldl (viewStep y z d) (List.replicate (linesOf x y z d).toNat 0))) true 1) ∧
    fr 2 = .ptr M.length 0 ∧ fr 5 = .I A ∧ fr 6 = .I B ∧ fr 7 = .ref (M.length + 1) 0 (linesOf x y z d).toNat ∧ fr 8 = .I i) cs.length
    ⟨0, by omega, Pre.app _ _, Live.new, Live.newj rfl, rfl, rfl, rfl, rfl, rfl⟩ ?_
  rintro m fr M' ⟨i, hi, hpre, b2, bo, f2, f5, f6, f7, f8⟩
  simp (disch := omega) only [f2, f5, f6, f7, f8, b2.cell, ↓SXd, SXu, slBounds, ↓sop, ↓aop, ↓reduceIte, LV.cells, AOp.dst, LV.I, LV.B, LV.U, LV.S, LV.nil, Nat.reduceEqDiff, Nat.reduceAdd, Nat.reduceMul, Nat.reduceSub, Nat.reduceLeDiff, Nat.reduceBEq, Nat.reduceDiv, Nat.reduceMod, Int.reduceToNat, Int.reduceLT, Int.reduceLE, Int.reduceAdd, Int.reduceSub, Int.reduceMul, Int.reduceEq, Int.reduceNeg, reduceCtorEq, resV, resAll, ARes.ev, LV.flat, ite_true, ite_false, exists_eq_left', exists_eq_left, keyOf, implies_true, fillC, capOf]
  refine condC_dec (fun hlt => ?_) (fun hlt => ?_)
  · have hil : i < cs.length := by omega
    have hc := hH.mem (getD_mem' (d := default) hil)
    have gA := Tri.gets_at (h.pre hpre) hil hda
    have gB := Tri.gets_at (h.pre hpre) hil hdb
    have htf := take_foldl (y := y) (z := z) (d := d) (v := List.replicate (linesOf x y z d).toNat 0) hil
    have hbd := fold_bound (y := y) (z := z) (d := d) (cs := cs.take i) hz
    have hfl := foldl_len (y := y) (z := z) (d := d) (cs := cs.take i) (v := List.replicate (linesOf x y z d).toNat 0)
    have htl := List.length_take_le i cs
    rw [List.length_replicate] at hfl
    generalize cs.getD i default = c at gA gB hc htf
    generalize (cs.take i).foldl (viewStep y z d) (List.replicate (linesOf x y z d).toNat 0) = v at bo htf hbd hfl
    obtain ⟨l1, l2⟩ := lineOf_in hS hc hd
    obtain ⟨v1, v2⟩ := hbd (lineOf y z c d).toNat
    have hlt2 : (lineOf y z c d).toNat < v.length := by omega
    have hlc := hline c
    have aA := at_in hc A
    have aB := at_in hc B
    have sB := sideOf_in hS B
    have sA := sideOf_in hS A
    have hmul : 0 ≤ c.at A * sideOf x y z B ∧ c.at A * sideOf x y z B ≤ 16 := by
      rcases (show sideOf x y z B = 1 ∨ sideOf x y z B = 2 ∨ sideOf x y z B = 3 ∨ sideOf x y z B = 4 by omega) with e | e | e | e <;> rw [e] <;> omega
    have hcell := bo.cell (o := (lineOf y z c d).toNat)
    rw [intL_get hlt2] at hcell
    simp (disch := omega) only [f2, f5, f6, f7, f8, b2.cell, b2.cells, gA, gB, Nat.mul_one, Nat.zero_add, ↓SXd, SXu, slBounds, ↓sop, ↓aop, ↓reduceIte, LV.cells, AOp.dst, LV.I, LV.B, LV.U, LV.S, LV.nil, Nat.reduceEqDiff, Nat.reduceAdd, Nat.reduceMul, Nat.reduceSub, Nat.reduceLeDiff, Nat.reduceBEq, Nat.reduceDiv, Nat.reduceMod, Int.reduceToNat, Int.reduceLT, Int.reduceLE, Int.reduceAdd, Int.reduceSub, Int.reduceMul, Int.reduceEq, Int.reduceNeg, reduceCtorEq, resV, resAll, ARes.ev, LV.flat, ite_true, ite_false, exists_eq_left', exists_eq_left, keyOf, implies_true, fillC, capOf]
    refine callK_of (h_l2Long hdb) ?_
    simp (disch := omega) only [f2, f5, f6, f7, f8, hlc, hcell, Nat.mul_one, Nat.zero_add, ↓SXd, SXu, slBounds, ↓sop, ↓aop, ↓reduceIte, LV.cells, AOp.dst, LV.I, LV.B, LV.U, LV.S, LV.nil, Nat.reduceEqDiff, Nat.reduceAdd, Nat.reduceMul, Nat.reduceSub, Nat.reduceLeDiff, Nat.reduceBEq, Nat.reduceDiv, Nat.reduceMod, Int.reduceToNat, Int.reduceLT, Int.reduceLE, Int.reduceAdd, Int.reduceSub, Int.reduceMul, Int.reduceEq, Int.reduceNeg, reduceCtorEq, resV, resAll, ARes.ev, LV.flat, ite_true, ite_false, exists_eq_left', exists_eq_left, keyOf, implies_true, fillC, capOf]
    refine memK_int bo hlt2 fun N k1 k2 k3 => ?_
    simp (disch := omega) only [f2, f5, f6, f7, f8, ↓SXd, SXu, slBounds, ↓sop, ↓aop, ↓reduceIte, LV.cells, AOp.dst, LV.I, LV.B, LV.U, LV.S, LV.nil, Nat.reduceEqDiff, Nat.reduceAdd, Nat.reduceMul, Nat.reduceSub, Nat.reduceLeDiff, Nat.reduceBEq, Nat.reduceDiv, Nat.reduceMod, Int.reduceToNat, Int.reduceLT, Int.reduceLE, Int.reduceAdd, Int.reduceSub, Int.reduceMul, Int.reduceEq, Int.reduceNeg, reduceCtorEq, resV, resAll, ARes.ev, LV.flat, ite_true, ite_false, exists_eq_left', exists_eq_left, keyOf, implies_true, fillC, capOf]
    rw [show v.set (lineOf y z c d).toNat (v.getD (lineOf y z c d).toNat 0 + 1) = viewStep y z d v c from rfl, ← htf] at k2
    exact ⟨m - 1, by omega, i + 1, by omega, pre_step hpre (by omega) (j := 0) k1 k3, live_step b2 (by omega) k3, k2, f2, f5, f6, f7, eqI (natI _)⟩
  · simp (disch := omega) only [f2, f5, f6, f7, f8, ↓SXd, SXu, slBounds, ↓sop, ↓aop, ↓reduceIte, LV.cells, AOp.dst, LV.I, LV.B, LV.U, LV.S, LV.nil, Nat.reduceEqDiff, Nat.reduceAdd, Nat.reduceMul, Nat.reduceSub, Nat.reduceLeDiff, Nat.reduceBEq, Nat.reduceDiv, Nat.reduceMod, Int.reduceToNat, Int.reduceLT, Int.reduceLE, Int.reduceAdd, Int.reduceSub, Int.reduceMul, Int.reduceEq, Int.reduceNeg, reduceCtorEq, resV, resAll, ARes.ev, LV.flat, ite_true, ite_false, exists_eq_left', exists_eq_left, keyOf, implies_true, fillC, capOf]
    have : i = cs.length := by omega
    subst this
    rw [List.take_length] at bo
    change Live M' (M.length + 1) (.row (intL (viewL x y z d cs)) true 1) at bo
    exact cmp_keepL hpre (by omega) bo (intL_lo _) (by simp [rn, rn0, rn1, hvl])
end Go.Ab

/- Contracts: lists of numbers that are the same; shadows of heaps, the reference's side. -/
namespace Go.Ab
open Go
set_option linter.unusedSimpArgs false
set_option linter.unusedVariables false

theorem g_equalI {l m : List Int} {t o t' o' : Nat} {M : Mem} (hg : Ints M t o l) (hh : Ints M t' o' m) (hn : l.length ≤ 1000000000) (hn' : m.length ≤ 1000000000) :
    CallsTo PG F.slices_Equal_Sint_int [.ref t o l.length, .ref t' o' m.length] M (.B (decide (l = m))) M := by
  refine calls_run K.slices_Equal_Sint_int rfl ?_
  simp (disch := omega) only [C.slices_Equal_Sint_int, ↓SXd, SXu, slBounds, ↓sop, ↓aop, ↓reduceIte, LV.cells, AOp.dst, LV.I, LV.B, LV.U, LV.S, LV.nil, Nat.reduceEqDiff, Nat.reduceAdd, Nat.reduceMul, Nat.reduceSub, Nat.reduceLeDiff, Nat.reduceBEq, Nat.reduceDiv, Nat.reduceMod, Int.reduceToNat, Int.reduceLT, Int.reduceLE, Int.reduceAdd, Int.reduceSub, Int.reduceMul, Int.reduceEq, Int.reduceNeg, reduceCtorEq, resV, resAll, ARes.ev, LV.flat, ite_true, ite_false, exists_eq_left', exists_eq_left, keyOf, implies_true, fillC, capOf]
  by_cases hl : (l.length : Int) = m.length
  · simp (disch := omega) only [hl, ↓SXd, SXu, slBounds, ↓sop, ↓aop, ↓reduceIte, LV.cells, AOp.dst, LV.I, LV.B, LV.U, LV.S, LV.nil, Nat.reduceEqDiff, Nat.reduceAdd, Nat.reduceMul, Nat.reduceSub, Nat.reduceLeDiff, Nat.reduceBEq, Nat.reduceDiv, Nat.reduceMod, Int.reduceToNat, Int.reduceLT, Int.reduceLE, Int.reduceAdd, Int.reduceSub, Int.reduceMul, Int.reduceEq, Int.reduceNeg, reduceCtorEq, resV, resAll, ARes.ev, LV.flat, ite_true, ite_false, exists_eq_left', exists_eq_left, keyOf, implies_true, fillC, capOf]
    have hl' : l.length = m.length := by omega
    refine ev_loop (fun n fr M' => ∃ k : Nat, k + n = l.length ∧ M' = M ∧ (∀ j, j < k → l.getD j 0 = m.getD j 0) ∧ fr 0 = .ref t o l.length ∧ fr 1 = .ref t' o' m.length ∧ fr 12 = .I l.length ∧ fr 13 = .I k) l.length
      ⟨0, by omega, rfl, by omega, rfl, rfl, by rw [hl']; rfl, rfl⟩ ?_
    rintro n fr M' ⟨k, hk, rfl, hj, f0, f1, f12, f13⟩
    simp (disch := omega) only [f0, f1, f12, f13, ↓SXd, SXu, slBounds, ↓sop, ↓aop, ↓reduceIte, LV.cells, AOp.dst, LV.I, LV.B, LV.U, LV.S, LV.nil, Nat.reduceEqDiff, Nat.reduceAdd, Nat.reduceMul, Nat.reduceSub, Nat.reduceLeDiff, Nat.reduceBEq, Nat.reduceDiv, Nat.reduceMod, Int.reduceToNat, Int.reduceLT, Int.reduceLE, Int.reduceAdd, Int.reduceSub, Int.reduceMul, Int.reduceEq, Int.reduceNeg, reduceCtorEq, resV, resAll, ARes.ev, LV.flat, ite_true, ite_false, exists_eq_left', exists_eq_left, keyOf, implies_true, fillC, capOf]
    refine condC_dec (fun h1 => ?_) (fun h1 => ?_)
    · have hk1 : k < l.length := by omega
      have g1 := Ints.get hg hk1
      have g2 := Ints.get hh (show k < m.length by omega)
      simp (disch := omega) only [f0, f1, f12, f13, g1, g2, Nat.mul_one, ↓SXd, SXu, slBounds, ↓sop, ↓aop, ↓reduceIte, LV.cells, AOp.dst, LV.I, LV.B, LV.U, LV.S, LV.nil, Nat.reduceEqDiff, Nat.reduceAdd, Nat.reduceMul, Nat.reduceSub, Nat.reduceLeDiff, Nat.reduceBEq, Nat.reduceDiv, Nat.reduceMod, Int.reduceToNat, Int.reduceLT, Int.reduceLE, Int.reduceAdd, Int.reduceSub, Int.reduceMul, Int.reduceEq, Int.reduceNeg, reduceCtorEq, resV, resAll, ARes.ev, LV.flat, ite_true, ite_false, exists_eq_left', exists_eq_left, keyOf, implies_true, fillC, capOf]
      by_cases he : l.getD k 0 = m.getD k 0
      · simp (disch := omega) only [f0, f1, f12, f13, he, ↓SXd, SXu, slBounds, ↓sop, ↓aop, ↓reduceIte, LV.cells, AOp.dst, LV.I, LV.B, LV.U, LV.S, LV.nil, Nat.reduceEqDiff, Nat.reduceAdd, Nat.reduceMul, Nat.reduceSub, Nat.reduceLeDiff, Nat.reduceBEq, Nat.reduceDiv, Nat.reduceMod, Int.reduceToNat, Int.reduceLT, Int.reduceLE, Int.reduceAdd, Int.reduceSub, Int.reduceMul, Int.reduceEq, Int.reduceNeg, reduceCtorEq, resV, resAll, ARes.ev, LV.flat, ite_true, ite_false, exists_eq_left', exists_eq_left, keyOf, implies_true, fillC, capOf]
        exact ⟨n - 1, by omega, k + 1, by omega, rfl, fun j hj' => by
          rcases Nat.lt_or_ge j k with h2 | h2
          · exact hj j h2
          · rw [show j = k by omega]; exact he, f0, f1, f12, eqI (natI _)⟩
      · simp (disch := omega) only [f0, f1, f12, f13, he, ↓SXd, SXu, slBounds, ↓sop, ↓aop, ↓reduceIte, LV.cells, AOp.dst, LV.I, LV.B, LV.U, LV.S, LV.nil, Nat.reduceEqDiff, Nat.reduceAdd, Nat.reduceMul, Nat.reduceSub, Nat.reduceLeDiff, Nat.reduceBEq, Nat.reduceDiv, Nat.reduceMod, Int.reduceToNat, Int.reduceLT, Int.reduceLE, Int.reduceAdd, Int.reduceSub, Int.reduceMul, Int.reduceEq, Int.reduceNeg, reduceCtorEq, resV, resAll, ARes.ev, LV.flat, ite_true, ite_false, exists_eq_left', exists_eq_left, keyOf, implies_true, fillC, capOf]
        rw [decide_eq_false (fun e => he (by rw [e]))]
        exact cmp_drop0 rfl
    · simp (disch := omega) only [f0, f1, f12, f13, ↓SXd, SXu, slBounds, ↓sop, ↓aop, ↓reduceIte, LV.cells, AOp.dst, LV.I, LV.B, LV.U, LV.S, LV.nil, Nat.reduceEqDiff, Nat.reduceAdd, Nat.reduceMul, Nat.reduceSub, Nat.reduceLeDiff, Nat.reduceBEq, Nat.reduceDiv, Nat.reduceMod, Int.reduceToNat, Int.reduceLT, Int.reduceLE, Int.reduceAdd, Int.reduceSub, Int.reduceMul, Int.reduceEq, Int.reduceNeg, reduceCtorEq, resV, resAll, ARes.ev, LV.flat, ite_true, ite_false, exists_eq_left', exists_eq_left, keyOf, implies_true, fillC, capOf]
      rw [decide_eq_true (by
        apply List.ext_getElem hl'
        intro i h2 h3
        have := hj i (by omega)
        simpa [h2, h3] using this)]
      exact cmp_drop0 rfl
  · simp (disch := omega) only [hl, ↓SXd, SXu, slBounds, ↓sop, ↓aop, ↓reduceIte, LV.cells, AOp.dst, LV.I, LV.B, LV.U, LV.S, LV.nil, Nat.reduceEqDiff, Nat.reduceAdd, Nat.reduceMul, Nat.reduceSub, Nat.reduceLeDiff, Nat.reduceBEq, Nat.reduceDiv, Nat.reduceMod, Int.reduceToNat, Int.reduceLT, Int.reduceLE, Int.reduceAdd, Int.reduceSub, Int.reduceMul, Int.reduceEq, Int.reduceNeg, reduceCtorEq, resV, resAll, ARes.ev, LV.flat, ite_true, ite_false, exists_eq_left', exists_eq_left, keyOf, implies_true, fillC, capOf]
    rw [decide_eq_false (fun e => hl (by rw [e]))]
    exact cmp_drop0 rfl
end Go.Ab

/- Contracts: shadows of heaps, the reference's side. -/
namespace Go.Ab
open Go
set_option linter.unusedSimpArgs false
set_option linter.unusedVariables false

def onesL (v : List Int) : List Int := v.map fun n => min n 1
def shdOf (x y z : Int) (d : Nat) (cs : List Cell) : List Int := onesL (viewL x y z d cs)
end Go.Ab

/- Contracts: whether a heap has a shadow, the reference's side. -/
namespace Go.Ab
open Go
set_option linter.unusedSimpArgs false
set_option linter.unusedVariables false

section
variable {x y z : Int} {t o : Nat} {cs : List Cell} {M : Mem} (h : Tri M t o cs) (hH : HeapOK x y z cs)
include h hH
end

/-- A set of cells has a shadow. -/
def HasShd (x y z : Int) (tp fr sd : List Int) (cs : List Cell) : Prop := shdOf x y z 2 cs = tp ∧ shdOf x y z 1 cs = fr ∧ shdOf x y z 0 cs = sd
instance (x y z : Int) (tp fr sd : List Int) (cs : List Cell) : Decidable (HasShd x y z tp fr sd cs) := by unfold HasShd; exact inferInstance
end Go.Ab

/- The abstract code of some functions (written by a program of mine from the translation, by way of prepF). -/
namespace Go.Ab.C
open Go.Ab
end Go.Ab.C

/- That the program has this code. -/
namespace Go.Ab.K
open Go Go.Ab
end Go.Ab.K

/- Contracts: marks in a shadow's lists. -/
namespace Go.Ab
open Go
set_option linter.unusedSimpArgs false
set_option linter.unusedVariables false

theorem SlC.at {M N : Mem} {w : LV} {l : List Cell} (h : SlC M w l) (hk : ∀ t o n, w = .ref t o n → N[t]? = M[t]?) : SlC N w l := by
  rcases h with h | ⟨t, ex, h1, h2⟩
  · exact .inl h
  · refine .inr ⟨t, ex, h1, ?_⟩
    unfold Live; rw [hk _ _ _ h1]; exact h2
theorem Live.at {M N : Mem} {t : Nat} {b : Blk} (h : Live M t b) (hk : N[t]? = M[t]?) : Live N t b := by unfold Live; rw [hk]; exact h

/-- What is left as it was by marks in three blocks. -/
def Pre3 (a b c : Nat) (M N : Mem) : Prop := M.length ≤ N.length ∧ ∀ u, u < M.length → u ≠ a → u ≠ b → u ≠ c → N[u]? = M[u]?
theorem Pre3.live {a b c : Nat} {M N : Mem} {t : Nat} {bl : Blk} (hp : Pre3 a b c M N) (h : Live M t bl) (h1 : t ≠ a) (h2 : t ≠ b) (h3 : t ≠ c) : Live N t bl := h.at (hp.2 t h.lt h1 h2 h3)
theorem Pre3.pre {a b c : Nat} {M0 M N : Mem} (hp : Pre3 a b c M N) (h : Pre M0 M) (h1 : M0.length ≤ a) (h2 : M0.length ≤ b) (h3 : M0.length ≤ c) : Pre M0 N := ⟨Nat.le_trans h.1 hp.1, fun u hu => by rw [hp.2 u (Nat.lt_of_lt_of_le hu h.1) (by omega) (by omega) (by omega)]; exact h.2 u hu⟩

end Go.Ab

/- Contracts: lit lines without a cube, the reference's side. -/
namespace Go.Ab
open Go
set_option linter.unusedSimpArgs false
set_option linter.unusedVariables false
set_option maxRecDepth 20000

theorem appendK_list {M : Mem} {t t2 o2 n n2 e b : Nat} {acc new : List LV} {A : LV → Mem → Prop} (ht : Live M t (.row acc true e)) (hn : acc.length = n * e) (h2 : Has M t2 o2 new) (hne : new.length = n2 * e) (hb : (n + n2) * b ≤ 140737488355328) (hl : n + n2 ≤ 9223372036854775807)
    (hA : ∀ u M', M.length ≤ M'.length → Live M' u (.row (acc ++ new) true e) → (u = t ∨ M.length ≤ u) → (∀ w, w ≠ t → w < M.length → M'[w]? = M[w]?) → A (.ref u 0 (n + n2)) M') : appendK e b (.ref t 0 n) (.ref t2 o2 n2) M A := by
  rcases Nat.eq_zero_or_pos n2 with h0 | h0
  · subst h0
    have : new = [] := List.eq_nil_of_length_eq_zero (by omega)
    subst this
    refine appendK_zero ?_
    exact ⟨⟨by omega, by omega⟩, hA t M (Nat.le_refl _) (by rw [List.append_nil]; exact ht) (.inl rfl) fun _ _ _ => rfl⟩
  · refine appendK_pos h0 (by rw [← hne]; exact h2.all) ht (by omega) ?_
    refine ⟨⟨hb, hl⟩, hA _ _ (by simp) ?_ (.inr (Nat.le_refl _)) fun w hw hwl => ?_⟩
    · unfold Live
      rw [List.getElem?_append_right (by simp)]
      simp [← hn]
    · rw [List.getElem?_append_left (by simpa using hwl), List.getElem?_set_ne (fun e => hw e.symm)]
theorem pre_stepL {M0 M M' : Mem} {t : Nat} (hp : Pre M0 M) (ht : M0.length ≤ t) (hl : M.length ≤ M'.length) (hu : ∀ u, u ≠ t → u < M.length → M'[u]? = M[u]?) : Pre M0 M' :=
  ⟨Nat.le_trans hp.1 hl, fun u hu' => by rw [hu u (by omega) (Nat.lt_of_lt_of_le hu' hp.1)]; exact hp.2 u hu'⟩

def boolL (v : List Bool) : List LV := v.map LV.B
theorem h_l1Own {xs : List Int} {t o : Nat} {M : Mem} (h : Ints M t o xs) (hn : xs.length ≤ 1000000000) : CallsTo PG F.spec_l1Own [.ref t o xs.length] M (.ref M.length 0 xs.length) (M ++ [some (.row (intL xs) true 1)]) := by
  refine calls_run K.spec_l1Own rfl ?_
  simp (disch := omega) only [C.spec_l1Own, ↓SXd, SXu, slBounds, ↓sop, ↓aop, ↓reduceIte, LV.cells, AOp.dst, LV.I, LV.B, LV.U, LV.S, LV.nil, Nat.reduceEqDiff, Nat.reduceAdd, Nat.reduceMul, Nat.reduceSub, Nat.reduceLeDiff, Nat.reduceBEq, Nat.reduceDiv, Nat.reduceMod, Int.reduceToNat, Int.reduceLT, Int.reduceLE, Int.reduceAdd, Int.reduceSub, Int.reduceMul, Int.reduceEq, Int.reduceNeg, reduceCtorEq, resV, resAll, ARes.ev, LV.flat, ite_true, ite_false, exists_eq_left', exists_eq_left, keyOf, implies_true, fillC, capOf]
  refine appendK_list (acc := []) (n := 0) Live.new rfl h.app (by rw [intL_len, Nat.mul_one]) (by omega) (by omega) fun u N k1 k2 k3 k4 => ?_
  simp (disch := omega) only [↓SXd, SXu, slBounds, ↓sop, ↓aop, ↓reduceIte, LV.cells, AOp.dst, LV.I, LV.B, LV.U, LV.S, LV.nil, Nat.reduceEqDiff, Nat.reduceAdd, Nat.reduceMul, Nat.reduceSub, Nat.reduceLeDiff, Nat.reduceBEq, Nat.reduceDiv, Nat.reduceMod, Int.reduceToNat, Int.reduceLT, Int.reduceLE, Int.reduceAdd, Int.reduceSub, Int.reduceMul, Int.reduceEq, Int.reduceNeg, reduceCtorEq, resV, resAll, ARes.ev, LV.flat, ite_true, ite_false, exists_eq_left', exists_eq_left, keyOf, implies_true, fillC, capOf]
  exact cmp_keepL (pre_stepL (Pre.app _ _) (t := M.length) (Nat.le_refl _) k1 k4) (by simp at k3; omega) k2 (intL_lo _) (by simp [rn, rn0, rn1])

def stepTo (y z : Int) (tp fr : List Int) (V : List Bool) (c : Cell) : Nat → List Bool
  | 0 => V
  | k + 1 => (stepTo y z tp fr V c k).set (gl y z tp fr (2 - k) c) false
end Go.Ab

/- Contracts: pieces put into a list of numbers, the reference's side. -/
namespace Go.Ab
open Go
set_option linter.unusedSimpArgs false
set_option linter.unusedVariables false
set_option maxRecDepth 20000

def At3 (p : Cell) : Prop := (0 ≤ p.a ∧ p.a ≤ 3) ∧ (0 ≤ p.b ∧ p.b ≤ 3) ∧ (0 ≤ p.c ∧ p.c ≤ 3)
def FitsP (x y z : Int) (cs l : List Cell) (p : Cell) : Prop := At3 p ∧ ∀ c ∈ l, (shift p c).inBox x y z ∧ shift p c ∉ cs
def startL (x y z : Int) (cs : List Cell) : List Int := (cellsOf x y z).map fun c => if c ∈ cs then -1 else -2
def setsL (y z : Int) (n : Int) (xs : List Int) (ds : List Cell) : List Int := ds.foldl (fun v d => v.set (idx y z d).toNat n) xs
def PutOK (x y z : Int) (cs l : List Cell) (p : Cell) (xs : List Int) : Prop := FitsP x y z cs l p ∧ ∀ c ∈ l, atL y z xs (shift p c) = -2
noncomputable instance {x y z : Int} {cs l : List Cell} {p : Cell} : Decidable (FitsP x y z cs l p) := Classical.propDecidable _
noncomputable instance {x y z : Int} {cs l : List Cell} {p : Cell} {xs : List Int} : Decidable (PutOK x y z cs l p xs) := Classical.propDecidable _
noncomputable def putR (x y z : Int) (cs l : List Cell) (p : Cell) (xs : List Int) (n : Int) : List Int := if PutOK x y z cs l p xs then setsL y z n xs (l.map (shift p)) else []

section
variable {l : List Cell} {t o : Nat} {M : Mem} {p : Cell} (h : Tri M t o l) (hn : l.length ≤ 64) (hin : ∀ c ∈ l, c.inBox 4 4 4) (hp : At3 p)
include h hn hin hp
end
section
variable {x y z : Int} {t o u q : Nat} {cs l : List Cell} {p : Cell} {M : Mem} (h : Tri M t o cs) (hH : HeapOK x y z cs) (hl : Tri M u q l) (hn : l.length ≤ 64) (hin : ∀ c ∈ l, c.inBox 4 4 4)
include h hH hl hn hin
end
end Go.Ab

/- Contracts: a piece put into a list of numbers, the reference's side. -/
namespace Go.Ab
open Go
set_option linter.unusedSimpArgs false
set_option linter.unusedVariables false
set_option maxRecDepth 20000

def PutRes (M : Mem) (ok : Prop) [Decidable ok] (r : List Int) (v : LV) (N : Mem) : Prop := ∃ t, v = .tup [.ref t 0 r.length, .B (decide ok)] ∧ Live N t (.row (intL r) true 1) ∧ M.length ≤ t ∧ Pre M N
section
variable {x y z : Int} {t o u q w r : Nat} {cs l : List Cell} {p : Cell} {xs : List Int} {n : Int} {M : Mem} (h : Tri M t o cs) (hH : HeapOK x y z cs) (hl : Tri M u q l) (hP : PieceOK l) (hp : Small p) (hX : Ints M w r xs) (hxn : xs.length = vol x y z)
include h hH hl hP hp hX hxn
end
end Go.Ab

/- Plain: all packings, in the order of the search. -/
namespace Go.Ab
open Go
set_option linter.unusedSimpArgs false
set_option linter.unusedVariables false

/-- The first hole of a list. -/
def hole (xs : List Int) : Nat := (xs.takeWhile fun v => v != -2).length
def placeAt (y z : Int) (L : List (List Cell)) (i k : Nat) : Cell := shift (negC ((L.getD i []).getD 0 default)) (cellAt y z k)
noncomputable def nextL (x y z : Int) (cs : List Cell) (L : List (List Cell)) (xs : List Int) (i : Nat) : List Int := putR x y z cs (L.getD i []) (placeAt y z L i (hole xs)) xs i
noncomputable def brP (x y z : Int) (cs : List Cell) (L : List (List Cell)) (g : List Int → List (List Int)) (xs : List Int) (i : Nat) : List (List Int) :=
  if (i : Int) ∈ xs then [] else if PutOK x y z cs (L.getD i []) (placeAt y z L i (hole xs)) xs then g (nextL x y z cs L xs i) else []
def leafP (n : Nat) (xs : List Int) : List (List Int) := if ∀ i : Nat, i < n → (i : Int) ∈ xs then [xs] else []
noncomputable def packs (x y z : Int) (cs : List Cell) (L : List (List Cell)) : Nat → List Int → List (List Int)
  | 0, xs => if (-2 : Int) ∈ xs then (List.range L.length).flatMap (brP x y z cs L (fun _ => []) xs) else leafP L.length xs
  | f + 1, xs => if (-2 : Int) ∈ xs then (List.range L.length).flatMap (brP x y z cs L (packs x y z cs L f) xs) else leafP L.length xs
noncomputable def packsB (x y z : Int) (cs : List Cell) (L : List (List Cell)) : Nat → List Int → List (List Int)
  | 0 => fun _ => []
  | f + 1 => packs x y z cs L f
theorem flat_succ {β : Type} {f : Nat → List β} {i : Nat} : (List.range (i + 1)).flatMap f = (List.range i).flatMap f ++ f i := by
  rw [List.range_succ, List.flatMap_append]; simp
theorem flat_le {β : Type} {f : Nat → List β} {i j : Nat} (h : i ≤ j) : ∃ T, (List.range j).flatMap f = (List.range i).flatMap f ++ T := by
  induction h with
  | refl => exact ⟨[], by simp⟩
  | step h ih =>
    obtain ⟨T, e⟩ := ih
    exact ⟨T ++ f _, by rw [Nat.succ_eq_add_one, flat_succ, e, List.append_assoc]⟩
/-- The pieces that a list lacks are among these. -/
def Lacks (n : Nat) (xs : List Int) (S : List Nat) : Prop := ∀ i, i < n → (i : Int) ∉ xs → i ∈ S
section
variable {x y z : Int} {cs : List Cell} {L : List (List Cell)} {xs : List Int} {i : Nat} {S : List Nat} {p : Cell} {l : List Cell} {n : Int}
end
/-- What a search makes of what was found. -/
def selP (once : Bool) (P : List (List Int)) : List (List Int) := if once then P.take 1 else P
def fndP (F : List Int × Nat) (R : List (List Int)) : List Int × Nat := (if F.2 = 0 then R.headD F.1 else F.1, F.2 + R.length)
end Go.Ab

/- Plain words: all staircases of a box by their heights; their number as a quotient. -/
namespace Go.Ab
open Go
set_option linter.unusedSimpArgs false
set_option linter.unusedVariables false

/-- The greatest height that may follow some heights. -/
def mostS (y : Nat) (z : Int) (l : List Int) : Int :=
  if 0 < l.length % y then min (if y ≤ l.length then min z (l.getD (l.length - y) 0) else z) (l.getD (l.length - 1) 0) else if y ≤ l.length then min z (l.getD (l.length - y) 0) else z
def allS (y : Nat) (z : Int) : Nat → List Int → List (List Int)
  | 0, l => [l]
  | n + 1, l => (List.range (mostS y z l + 1).toNat).flatMap fun (h : Nat) => allS y z n (l ++ [(h : Int)])
def OkS (z : Int) (l : List Int) : Prop := ∀ a ∈ l, 0 ≤ a ∧ a ≤ z
theorem okS_get {z : Int} {l : List Int} {i : Nat} (h : OkS z l) (hi : i < l.length) : 0 ≤ l.getD i 0 ∧ l.getD i 0 ≤ z := h _ (getD_mem' hi)
theorem mostS_in {y : Nat} {z : Int} {l : List Int} (hz : 0 ≤ z) (hy : 0 < y) (h : OkS z l) : 0 ≤ mostS y z l ∧ mostS y z l ≤ z := by
  unfold mostS
  by_cases h1 : 0 < l.length % y
  · have hl : 0 < l.length := by
      rcases Nat.eq_zero_or_pos l.length with e | e
      · rw [e, Nat.zero_mod] at h1; omega
      · exact e
    have h2 := okS_get h (i := l.length - 1) (by omega)
    rw [if_pos h1]
    by_cases h3 : y ≤ l.length
    · have h4 := okS_get h (i := l.length - y) (by omega)
      rw [if_pos h3]; omega
    · rw [if_neg h3]; omega
  · rw [if_neg h1]
    by_cases h3 : y ≤ l.length
    · have h4 := okS_get h (i := l.length - y) (by omega)
      rw [if_pos h3]; omega
    · rw [if_neg h3]; omega
theorem okS_snoc {z h : Int} {l : List Int} (hl : OkS z l) (h0 : 0 ≤ h ∧ h ≤ z) : OkS z (l ++ [h]) := fun a ha => by
  rcases List.mem_append.1 ha with ha | ha
  · exact hl a ha
  · rw [List.mem_singleton.1 ha]; exact h0
theorem flat_len_le {α : Type} {f : Nat → List α} {b : Nat} : ∀ {n : Nat}, (∀ i, i < n → (f i).length ≤ b) → ((List.range n).flatMap f).length ≤ n * b
  | 0, _ => by simp
  | n + 1, h => by
    rw [flat_succ, List.length_append, Nat.succ_mul]
    have h1 := flat_len_le (n := n) fun i hi => h i (by omega)
    have h2 := h n (by omega)
    omega
theorem allS_len {y : Nat} {z : Int} (hz : 0 ≤ z ∧ z ≤ 4) (hy : 0 < y) : ∀ {n : Nat} {l : List Int}, OkS z l → (allS y z n l).length ≤ 5 ^ n
  | 0, _, _ => by simp [allS]
  | n + 1, l, h => by
    unfold allS
    have hm := mostS_in hz.1 hy h
    refine Nat.le_trans (flat_len_le (b := 5 ^ n) fun i hi => allS_len hz hy (okS_snoc h ⟨by omega, by omega⟩)) ?_
    rw [Nat.pow_succ, Nat.mul_comm]
    exact Nat.mul_le_mul_left _ (by omega)
theorem allS_mem {y : Nat} {z : Int} : ∀ {n : Nat} {l r : List Int}, r ∈ allS y z n l ↔ ∃ s : List Int, r = l ++ s ∧ s.length = n ∧ ∀ i, i < n → 0 ≤ s.getD i 0 ∧ s.getD i 0 ≤ mostS y z (l ++ s.take i)
  | 0, l, r => by
    unfold allS
    rw [List.mem_singleton]
    constructor
    · rintro rfl; exact ⟨[], by simp, rfl, fun i hi => by omega⟩
    · rintro ⟨s, h1, h2, _⟩
      rw [List.eq_nil_of_length_eq_zero h2, List.append_nil] at h1; exact h1
  | n + 1, l, r => by
    unfold allS
    simp only [List.mem_flatMap, List.mem_range]
    constructor
    · rintro ⟨h, hh, hr⟩
      obtain ⟨s, h1, h2, h3⟩ := allS_mem.1 hr
      refine ⟨(h : Int) :: s, by rw [h1]; simp, by simp [h2], fun i hi => ?_⟩
      cases i with
      | zero => simp only [List.getD_cons_zero, List.take_zero, List.append_nil]; omega
      | succ i =>
        have := h3 i (by omega)
        rw [List.append_assoc] at this
        simpa using this
    · rintro ⟨s, h1, h2, h3⟩
      cases s with
      | nil => simp at h2
      | cons a s =>
        have h0 := h3 0 (by omega)
        simp only [List.getD_cons_zero, List.take_zero, List.append_nil] at h0
        refine ⟨a.toNat, by omega, allS_mem.2 ⟨s, ?_, by simpa using h2, fun i hi => ?_⟩⟩
        · rw [h1, show ((a.toNat : Nat) : Int) = a by omega]; simp
        · have := h3 (i + 1) (by omega)
          rw [show ((a.toNat : Nat) : Int) = a by omega, List.append_assoc]
          simpa using this

/-! ### The number as a quotient -/
def pcell (z : Nat) (s : Nat × Nat) (i k : Nat) : Nat × Nat := ((s.1 * (i + k + 1 + z)) / Nat.gcd (s.1 * (i + k + 1 + z)) (s.2 * (i + k + 1)), (s.2 * (i + k + 1)) / Nat.gcd (s.1 * (i + k + 1 + z)) (s.2 * (i + k + 1)))
def prow (z : Nat) (s : Nat × Nat) (i : Nat) : Nat → Nat × Nat
  | 0 => s
  | k + 1 => pcell z (prow z s i k) i k
def pall (y z : Nat) : Nat → Nat × Nat
  | 0 => (1, 1)
  | i + 1 => prow z (pall y z i) i y
/-- The program's number of staircases. -/
def cntSP (x y z : Nat) : Nat := (pall y z x).1 / (pall y z x).2
def rrow (z : Nat) (s : Nat × Nat) (i : Nat) : Nat → Nat × Nat
  | 0 => s
  | k + 1 => ((rrow z s i k).1 * (i + k + 1 + z), (rrow z s i k).2 * (i + k + 1))
def rred (s : Nat × Nat) : Nat × Nat := (s.1 / Nat.gcd s.1 s.2, s.2 / Nat.gcd s.1 s.2)
def rall (y z : Nat) : Nat → Nat × Nat
  | 0 => (1, 1)
  | i + 1 => rred (rrow z (rall y z i) i y)
/-- The reference's. -/
def cntSR (x y z : Nat) : Nat := (rall y z x).1 / (rall y z x).2
def small1 (s : Nat × Nat) : Bool := decide (1 ≤ s.1) && decide (s.1 ≤ 1000000000000000) && decide (1 ≤ s.2) && decide (s.2 ≤ 1000000000000000)
theorem cnt_dec : ((List.range 5).all fun x => (List.range 5).all fun y => (List.range 5).all fun z => cntSR x y z == cntSP x y z && decide (cntSP x y z ≤ 1000000) && small1 (pall y z x) && small1 (rall y z x) &&
    (List.range 5).all fun k => (decide (y < k) || small1 (prow z (pall y z x) x k) && small1 (rrow z (rall y z x) x k))) = true := by decide +kernel
theorem cnt_facts {x y z : Nat} (hx : x ≤ 4) (hy : y ≤ 4) (hz : z ≤ 4) : cntSR x y z = cntSP x y z ∧ cntSP x y z ≤ 1000000 ∧ small1 (pall y z x) = true ∧ small1 (rall y z x) = true ∧ ∀ k, k ≤ y → small1 (prow z (pall y z x) x k) = true ∧ small1 (rrow z (rall y z x) x k) = true := by
  have h := cnt_dec
  rw [List.all_eq_true] at h
  have h := h x (by rw [List.mem_range]; omega)
  rw [List.all_eq_true] at h
  have h := h y (by rw [List.mem_range]; omega)
  rw [List.all_eq_true] at h
  have h := h z (by rw [List.mem_range]; omega)
  simp only [Bool.and_eq_true, beq_iff_eq, decide_eq_true_eq, List.all_eq_true, List.mem_range, Bool.or_eq_true] at h
  obtain ⟨⟨⟨⟨h1, h2⟩, h3⟩, h4⟩, h5⟩ := h
  exact ⟨h1, h2, h3, h4, fun k hk => (h5 k (by omega)).resolve_left (by omega)⟩
theorem small1_iff {s : Nat × Nat} : small1 s = true ↔ (1 ≤ s.1 ∧ s.1 ≤ 1000000000000000) ∧ (1 ≤ s.2 ∧ s.2 ≤ 1000000000000000) := by
  unfold small1
  simp only [Bool.and_eq_true, decide_eq_true_eq]
  exact ⟨fun h => ⟨⟨h.1.1.1, h.1.1.2⟩, h.1.2, h.2⟩, fun h => ⟨⟨⟨h.1.1, h.1.2⟩, h.2.1⟩, h.2.2⟩⟩
end Go.Ab

/- The abstract code of some functions (written by a program of mine from the translation, by way of prepF). -/
namespace Go.Ab.C
open Go.Ab
def impl_isStair : AFn :=
 ⟨1, 12, [.tmp 2],
 .seq (.ops [(none, .box 1 (.t 0)),
 (none, .mv 2 (.c (.B false)))])
 (.seq (.draw [⟨(none, .loadN 3 4 (.t 1)), [], []⟩,
 ⟨(none, .call (some 4) F.impl_IsHeap [(.t 3)]), [], []⟩,
 ⟨(none, .mv 5 (.t 4)), [], []⟩,
 ⟨(some (5, true), .loadN 6 4 (.t 1)), [], []⟩,
 ⟨(some (5, true), .loadN 8 4 (.t 1)), [], []⟩,
 ⟨(some (5, true), .call (some 7) F.impl_Heap_box [(.t 6)]), [], [4]⟩,
 ⟨(some (5, true), .call (some 9) F.impl_Heap_cubes [(.t 8)]), [], []⟩,
 ⟨(some (5, true), .call (some 10) F.impl_box_isStair [(.t 7), (.t 9)]), [], []⟩,
 ⟨(none, .pick 11 (.t 5) (.t 10) (.c (.B false))), [], []⟩,
 ⟨(none, .mv 2 (.t 11)), [], []⟩])
 (.ret))⟩
def impl_box_isStair : AFn :=
 ⟨2, 22, [.tmp 4],
 .seq (.ops [(none, .box 2 (.t 0)),
 (none, .mv 4 (.c (.B false)))])
 (.seq (.seq (.ops [(none, .loadN 7 3 (.t 2)),
 (none, .mv 8 (.t 1)),
 (none, .call (some 9) F.impl_box_list [(.t 7), (.t 8)]),
 (none, .len 10 (.t 9)),
 (none, .mv 11 (.c (.I 0)))])
 (.block 0 (.loop (.seq (.ops [(none, .bin 12 .lss (.t 11) (.t 10))])
 (.seq (.cond (.t 12) (.skip)
 (.exit 0))
 (.seq (.block 1 (.seq (.ops [(none, .idxS 13 3 (.t 9) (.t 11)),
 (none, .loadN 14 3 (.t 13)),
 (none, .alloc 6 [(.I 0), (.I 0), (.I 0)]),
 (none, .store 3 (.t 6) (.t 14))])
 (.seq (.ops [(none, .loadN 15 3 (.t 2)),
 (none, .loadN 16 3 (.t 6)),
 (none, .call (some 17) F.impl_box_below [(.t 15), (.t 16)]),
 (none, .mv 18 (.t 1)),
 (none, .bin 19 .andNot (.t 17) (.t 18)),
 (none, .bin 20 .neq (.t 19) (.c (.U 0)))])
 (.cond (.t 20) (.seq (.ops [(none, .mv 4 (.c (.B false)))])
 (.ret))
 (.skip)))))
 (.ops [(none, .bin 21 .add (.t 11) (.c (.I 1))),
 (none, .mv 11 (.t 21))])))))))
 (.seq (.ops [(none, .mv 4 (.c (.B true)))])
 (.ret)))⟩
def impl_box_below : AFn :=
 ⟨2, 8, [.tmp 4],
 .seq (.ops [(none, .box 2 (.t 0)),
 (none, .box 3 (.t 1)),
 (none, .mv 4 (.c (.U 0)))])
 (.seq (.ops [(none, .loadN 5 3 (.t 2)),
 (none, .mkf 6 F.impl_box_below_1 [(.t 3)]),
 (none, .call (some 7) F.impl_box_those [(.t 5), (.t 6)]),
 (none, .mv 4 (.t 7))])
 (.ret))⟩
def impl_box_below_1 : AFn :=
 ⟨2, 23, [.tmp 3],
 .seq (.ops [(none, .box 2 (.t 0)),
 (none, .mv 3 (.c (.B false)))])
 (.seq (.ops [(none, .idxA 4 3 1 (.t 2) (.c (.I 0))),
 (none, .load1 5 (.t 4)),
 (none, .idxA 6 3 1 (.t 1) (.c (.I 0))),
 (none, .load1 7 (.t 6)),
 (none, .bin 8 .leq (.t 5) (.t 7)),
 (none, .mv 9 (.t 8)),
 (some (9, true), .idxA 10 3 1 (.t 2) (.c (.I 1))),
 (some (9, true), .load1 11 (.t 10)),
 (some (9, true), .idxA 12 3 1 (.t 1) (.c (.I 1))),
 (some (9, true), .load1 13 (.t 12)),
 (some (9, true), .bin 14 .leq (.t 11) (.t 13)),
 (none, .pick 15 (.t 9) (.t 14) (.c (.B false))),
 (none, .mv 16 (.t 15)),
 (some (16, true), .idxA 17 3 1 (.t 2) (.c (.I 2))),
 (some (16, true), .load1 18 (.t 17)),
 (some (16, true), .idxA 19 3 1 (.t 1) (.c (.I 2))),
 (some (16, true), .load1 20 (.t 19)),
 (some (16, true), .bin 21 .leq (.t 18) (.t 20)),
 (none, .pick 22 (.t 16) (.t 21) (.c (.B false))),
 (none, .mv 3 (.t 22))])
 (.ret))⟩
def impl_box_stairCorners : AFn :=
 ⟨2, 8, [.tmp 4],
 .seq (.ops [(none, .box 2 (.t 0)),
 (none, .box 3 (.t 1)),
 (none, .mv 4 (.c (.U 0)))])
 (.seq (.ops [(none, .loadN 5 3 (.t 2)),
 (none, .mkf 6 F.impl_box_stairCorners_1 [(.t 2), (.t 3)]),
 (none, .call (some 7) F.impl_box_those [(.t 5), (.t 6)]),
 (none, .mv 4 (.t 7))])
 (.ret))⟩
def impl_box_stairCorners_1 : AFn :=
 ⟨3, 21, [.tmp 4],
 .seq (.ops [(none, .box 3 (.t 0)),
 (none, .mv 4 (.c (.B false)))])
 (.seq (.ops [(none, .loadN 6 3 (.t 1)),
 (none, .loadN 7 3 (.t 3)),
 (none, .call (some 8) F.impl_box_index [(.t 6), (.t 7)]),
 (none, .bin 9 .shl (.c (.U 1)) (.t 8)),
 (none, .mv 5 (.t 9))])
 (.seq (.ops [(none, .load1 10 (.t 2)),
 (none, .mv 11 (.t 5)),
 (none, .bin 12 .and (.t 10) (.t 11)),
 (none, .bin 13 .neq (.t 12) (.c (.U 0))),
 (none, .mv 14 (.t 13)),
 (some (14, true), .loadN 15 3 (.t 1)),
 (some (14, true), .load1 16 (.t 2)),
 (some (14, true), .mv 17 (.t 5)),
 (some (14, true), .bin 18 .andNot (.t 16) (.t 17)),
 (some (14, true), .call (some 19) F.impl_box_isStair [(.t 15), (.t 18)]),
 (none, .pick 20 (.t 14) (.t 19) (.c (.B false))),
 (none, .mv 4 (.t 20))])
 (.ret)))⟩
end Go.Ab.C

/- That the program has this code. -/
namespace Go.Ab.K
open Go Go.Ab
theorem impl_isStair : prepF Go.Proofs.Try.prog F.impl_isStair = some C.impl_isStair := by kernel_rfl
theorem impl_box_isStair : prepF Go.Proofs.Try.prog F.impl_box_isStair = some C.impl_box_isStair := by kernel_rfl
theorem impl_box_below : prepF Go.Proofs.Try.prog F.impl_box_below = some C.impl_box_below := by kernel_rfl
theorem impl_box_below_1 : prepF Go.Proofs.Try.prog F.impl_box_below_1 = some C.impl_box_below_1 := by kernel_rfl
theorem impl_box_stairCorners : prepF Go.Proofs.Try.prog F.impl_box_stairCorners = some C.impl_box_stairCorners := by kernel_rfl
theorem impl_box_stairCorners_1 : prepF Go.Proofs.Try.prog F.impl_box_stairCorners_1 = some C.impl_box_stairCorners_1 := by kernel_rfl
end Go.Ab.K

/- The abstract code of some functions (written by a program of mine from the translation, by way of prepF). -/
namespace Go.Ab.C
open Go.Ab
end Go.Ab.C

/- That the program has this code. -/
namespace Go.Ab.K
open Go Go.Ab
end Go.Ab.K

/- The abstract code of some functions (written by a program of mine from the translation, by way of prepF). -/
namespace Go.Ab.C
open Go.Ab
end Go.Ab.C

/- That the program has this code. -/
namespace Go.Ab.K
open Go Go.Ab
end Go.Ab.K

/- The abstract code of some functions (written by a program of mine from the translation, by way of prepF). -/
namespace Go.Ab.C
open Go.Ab
end Go.Ab.C

/- That the program has this code. -/
namespace Go.Ab.K
open Go Go.Ab
end Go.Ab.K

/- The abstract code of some functions (written by a program of mine from the translation, by way of prepF). -/
namespace Go.Ab.C
open Go.Ab
def laws_vCells : AFn :=
 ⟨2, 26, [.tmp 4],
 .seq (.ops [(none, .mv 4 (.c (.B false)))])
 (.seq (.seq (.ops [(none, .mv 6 (.t 0)),
 (none, .len 7 (.t 6)),
 (none, .mv 8 (.t 1)),
 (none, .len 9 (.t 8)),
 (none, .bin 10 .neq (.t 7) (.t 9))])
 (.cond (.t 10) (.seq (.ops [(none, .mv 4 (.c (.B false)))])
 (.ret))
 (.skip)))
 (.seq (.seq (.ops [(none, .mv 5 (.c (.I 0)))])
 (.block 0 (.loop (.seq (.seq (.ops [(none, .mv 11 (.t 5)),
 (none, .mv 12 (.t 0)),
 (none, .len 13 (.t 12)),
 (none, .bin 14 .lss (.t 11) (.t 13))])
 (.cond (.t 14) (.skip)
 (.exit 0)))
 (.seq (.block 1 (.seq (.draw [⟨(none, .mv 17 (.t 0)), [], []⟩,
 ⟨(none, .mv 18 (.t 5)), [], []⟩,
 ⟨(none, .idxS 19 3 (.t 17) (.t 18)), [], []⟩,
 ⟨(none, .loadN 20 3 (.t 19)), [], []⟩,
 ⟨(none, .mv 21 (.t 1)), [], []⟩,
 ⟨(none, .mv 22 (.t 5)), [], []⟩,
 ⟨(none, .idxS 23 3 (.t 21) (.t 22)), [], []⟩,
 ⟨(none, .loadN 24 3 (.t 23)), [], []⟩,
 ⟨(none, .eqs 25 true 3 (.t 20) (.t 24)), [], []⟩])
 (.cond (.t 25) (.seq (.ops [(none, .mv 4 (.c (.B false)))])
 (.ret))
 (.skip))))
 (.ops [(none, .mv 15 (.t 5)),
 (none, .bin 16 .add (.t 15) (.c (.I 1))),
 (none, .mv 5 (.t 16))]))))))
 (.seq (.ops [(none, .mv 4 (.c (.B true)))])
 (.ret))))⟩
def laws_vIn : AFn :=
 ⟨2, 18, [.tmp 4],
 .seq (.ops [(none, .box 3 (.t 1)),
 (none, .mv 4 (.c (.B false)))])
 (.seq (.seq (.ops [(none, .mv 5 (.c (.I 0)))])
 (.block 0 (.loop (.seq (.seq (.ops [(none, .mv 6 (.t 5)),
 (none, .mv 7 (.t 0)),
 (none, .len 8 (.t 7)),
 (none, .bin 9 .lss (.t 6) (.t 8))])
 (.cond (.t 9) (.skip)
 (.exit 0)))
 (.seq (.block 1 (.seq (.draw [⟨(none, .mv 12 (.t 0)), [], []⟩,
 ⟨(none, .mv 13 (.t 5)), [], []⟩,
 ⟨(none, .idxS 14 3 (.t 12) (.t 13)), [], []⟩,
 ⟨(none, .loadN 15 3 (.t 14)), [], []⟩,
 ⟨(none, .loadN 16 3 (.t 3)), [], []⟩,
 ⟨(none, .eqs 17 false 3 (.t 15) (.t 16)), [], []⟩])
 (.cond (.t 17) (.seq (.ops [(none, .mv 4 (.c (.B true)))])
 (.ret))
 (.skip))))
 (.ops [(none, .mv 10 (.t 5)),
 (none, .bin 11 .add (.t 10) (.c (.I 1))),
 (none, .mv 5 (.t 11))]))))))
 (.seq (.ops [(none, .mv 4 (.c (.B false)))])
 (.ret)))⟩
end Go.Ab.C

/- That the program has this code. -/
namespace Go.Ab.K
open Go Go.Ab
theorem laws_vCells : prepF Go.Proofs.Try.prog F.laws_vCells = some C.laws_vCells := by kernel_rfl
theorem laws_vIn : prepF Go.Proofs.Try.prog F.laws_vIn = some C.laws_vIn := by kernel_rfl
end Go.Ab.K

/- The abstract code of some functions (written by a program of mine from the translation, by way of prepF). -/
namespace Go.Ab.C
open Go.Ab
def laws_vBig : AFn :=
 ⟨1, 6, [.tmp 2],
 .seq (.ops [(none, .mv 2 (.c (.B false)))])
 (.seq (.ops [(none, .mv 3 (.t 0)),
 (none, .len 4 (.t 3)),
 (none, .bin 5 .gtr (.t 4) (.c (.I 65536))),
 (none, .mv 2 (.t 5))])
 (.ret))⟩
def laws_vInts : AFn :=
 ⟨2, 26, [.tmp 4],
 .seq (.ops [(none, .mv 4 (.c (.B false)))])
 (.seq (.seq (.ops [(none, .mv 6 (.t 0)),
 (none, .len 7 (.t 6)),
 (none, .mv 8 (.t 1)),
 (none, .len 9 (.t 8)),
 (none, .bin 10 .neq (.t 7) (.t 9))])
 (.cond (.t 10) (.seq (.ops [(none, .mv 4 (.c (.B false)))])
 (.ret))
 (.skip)))
 (.seq (.seq (.ops [(none, .mv 5 (.c (.I 0)))])
 (.block 0 (.loop (.seq (.seq (.ops [(none, .mv 11 (.t 5)),
 (none, .mv 12 (.t 0)),
 (none, .len 13 (.t 12)),
 (none, .bin 14 .lss (.t 11) (.t 13))])
 (.cond (.t 14) (.skip)
 (.exit 0)))
 (.seq (.block 1 (.seq (.draw [⟨(none, .mv 17 (.t 0)), [], []⟩,
 ⟨(none, .mv 18 (.t 5)), [], []⟩,
 ⟨(none, .idxS 19 1 (.t 17) (.t 18)), [], []⟩,
 ⟨(none, .load1 20 (.t 19)), [], []⟩,
 ⟨(none, .mv 21 (.t 1)), [], []⟩,
 ⟨(none, .mv 22 (.t 5)), [], []⟩,
 ⟨(none, .idxS 23 1 (.t 21) (.t 22)), [], []⟩,
 ⟨(none, .load1 24 (.t 23)), [], []⟩,
 ⟨(none, .bin 25 .neq (.t 20) (.t 24)), [], []⟩])
 (.cond (.t 25) (.seq (.ops [(none, .mv 4 (.c (.B false)))])
 (.ret))
 (.skip))))
 (.ops [(none, .mv 15 (.t 5)),
 (none, .bin 16 .add (.t 15) (.c (.I 1))),
 (none, .mv 5 (.t 16))]))))))
 (.seq (.ops [(none, .mv 4 (.c (.B true)))])
 (.ret))))⟩
end Go.Ab.C

/- That the program has this code. -/
namespace Go.Ab.K
open Go Go.Ab
theorem laws_vBig : prepF Go.Proofs.Try.prog F.laws_vBig = some C.laws_vBig := by kernel_rfl
theorem laws_vInts : prepF Go.Proofs.Try.prog F.laws_vInts = some C.laws_vInts := by kernel_rfl
end Go.Ab.K

/- The abstract code of some functions (written by a program of mine from the translation, by way of prepF). -/
namespace Go.Ab.C
open Go.Ab
def spec_l1Cur_next : AFn :=
 ⟨1, 62, [.tmp 2],
 .seq (.ops [(none, .mv 2 (.c (.I 0)))])
 (.seq (.ops [(none, .mv 3 (.c (.I 0)))])
 (.seq (.seq (.draw [⟨(none, .mv 4 (.t 0)), [], []⟩,
 ⟨(none, .nilck 5 (.t 4)), [], []⟩,
 ⟨(none, .fieldAddr 6 (.t 5) 1), [], []⟩,
 ⟨(none, .load1 7 (.t 6)), [], []⟩,
 ⟨(none, .mv 8 (.t 0)), [], []⟩,
 ⟨(none, .nilck 9 (.t 8)), [], []⟩,
 ⟨(none, .fieldAddr 10 (.t 9) 0), [], []⟩,
 ⟨(none, .load1 11 (.t 10)), [], []⟩,
 ⟨(none, .len 12 (.t 11)), [], []⟩,
 ⟨(none, .bin 13 .lss (.t 7) (.t 12)), [], []⟩])
 (.cond (.t 13) (.draw [⟨(none, .mv 14 (.t 0)), [], []⟩,
 ⟨(none, .nilck 15 (.t 14)), [], []⟩,
 ⟨(none, .fieldAddr 16 (.t 15) 0), [], []⟩,
 ⟨(none, .load1 17 (.t 16)), [], []⟩,
 ⟨(none, .mv 18 (.t 0)), [], []⟩,
 ⟨(none, .nilck 19 (.t 18)), [], []⟩,
 ⟨(none, .fieldAddr 20 (.t 19) 1), [], []⟩,
 ⟨(none, .load1 21 (.t 20)), [], []⟩,
 ⟨(none, .idxS 22 1 (.t 17) (.t 21)), [], []⟩,
 ⟨(none, .load1 23 (.t 22)), [], []⟩,
 ⟨(none, .conv 24 .i64 (.t 23)), [], []⟩,
 ⟨(none, .mv 3 (.t 24)), [], []⟩])
 (.skip)))
 (.seq (.ops [(none, .mv 25 (.t 0)),
 (none, .nilck 26 (.t 25)),
 (none, .fieldAddr 27 (.t 26) 1),
 (none, .load1 28 (.t 27)),
 (none, .bin 29 .add (.t 28) (.c (.I 1))),
 (none, .nilck 30 (.t 25)),
 (none, .fieldAddr 31 (.t 30) 1),
 (none, .store 1 (.t 31) (.t 29))])
 (.seq (.ops [(none, .mv 32 (.t 0)),
 (none, .mv 33 (.t 0)),
 (none, .nilck 34 (.t 33)),
 (none, .fieldAddr 35 (.t 34) 2),
 (none, .load1 36 (.t 35)),
 (none, .bin 37 .mul (.t 36) (.c (.U 6364136223846793005))),
 (none, .mv 38 (.t 3)),
 (none, .conv 39 .u64 (.t 38)),
 (none, .bin 40 .add (.t 37) (.t 39)),
 (none, .bin 41 .add (.t 40) (.c (.U 462197))),
 (none, .nilck 42 (.t 32)),
 (none, .fieldAddr 43 (.t 42) 2),
 (none, .store 1 (.t 43) (.t 41))])
 (.seq (.seq (.draw [⟨(none, .mv 44 (.t 0)), [], []⟩,
 ⟨(none, .nilck 45 (.t 44)), [], []⟩,
 ⟨(none, .fieldAddr 46 (.t 45) 1), [], []⟩,
 ⟨(none, .load1 47 (.t 46)), [], []⟩,
 ⟨(none, .mv 48 (.t 0)), [], []⟩,
 ⟨(none, .nilck 49 (.t 48)), [], []⟩,
 ⟨(none, .fieldAddr 50 (.t 49) 0), [], []⟩,
 ⟨(none, .load1 51 (.t 50)), [], []⟩,
 ⟨(none, .len 52 (.t 51)), [], []⟩,
 ⟨(none, .bin 53 .leq (.t 47) (.t 52)), [], []⟩])
 (.cond (.t 53) (.seq (.ops [(none, .mv 54 (.t 3)),
 (none, .mv 2 (.t 54))])
 (.ret))
 (.skip)))
 (.seq (.ops [(none, .mv 55 (.t 0)),
 (none, .nilck 56 (.t 55)),
 (none, .fieldAddr 57 (.t 56) 2),
 (none, .load1 58 (.t 57)),
 (none, .bin 59 .shr (.t 58) (.c (.U 40))),
 (none, .bin 60 .and (.t 59) (.c (.U 255))),
 (none, .conv 61 .i64 (.t 60)),
 (none, .mv 2 (.t 61))])
 (.ret)))))))⟩
def spec_l1Cur_pick : AFn :=
 ⟨2, 20, [.tmp 4],
 .seq (.ops [(none, .mv 4 (.c (.I 0)))])
 (.seq (.seq (.ops [(none, .mv 6 (.t 1)),
 (none, .bin 7 .leq (.t 6) (.c (.I 1)))])
 (.cond (.t 7) (.seq (.ops [(none, .mv 4 (.c (.I 0)))])
 (.ret))
 (.skip)))
 (.seq (.ops [(none, .mv 8 (.t 0)),
 (none, .call (some 9) F.spec_l1Cur_next [(.t 8)]),
 (none, .mv 5 (.t 9))])
 (.seq (.seq (.ops [(none, .mv 10 (.t 1)),
 (none, .bin 11 .gtr (.t 10) (.c (.I 200)))])
 (.cond (.t 11) (.ops [(none, .mv 12 (.t 5)),
 (none, .bin 13 .mul (.t 12) (.c (.I 256))),
 (none, .mv 14 (.t 0)),
 (none, .call (some 15) F.spec_l1Cur_next [(.t 14)]),
 (none, .bin 16 .add (.t 13) (.t 15)),
 (none, .mv 5 (.t 16))])
 (.skip)))
 (.seq (.ops [(none, .mv 17 (.t 5)),
 (none, .mv 18 (.t 1)),
 (none, .bin 19 .rem (.t 17) (.t 18)),
 (none, .mv 4 (.t 19))])
 (.ret)))))⟩
def spec_l1Cur_one : AFn :=
 ⟨2, 9, [.tmp 4],
 .seq (.ops [(none, .mv 4 (.c (.B false)))])
 (.seq (.ops [(none, .mv 5 (.t 0)),
 (none, .mv 6 (.t 1)),
 (none, .call (some 7) F.spec_l1Cur_pick [(.t 5), (.t 6)]),
 (none, .bin 8 .eql (.t 7) (.c (.I 0))),
 (none, .mv 4 (.t 8))])
 (.ret))⟩
def spec_l1Cur_among : AFn :=
 ⟨2, 12, [.tmp 4],
 .seq (.ops [(none, .mv 4 (.c (.I 0)))])
 (.seq (.ops [(none, .mv 5 (.t 1)),
 (none, .mv 6 (.t 0)),
 (none, .mv 7 (.t 1)),
 (none, .len 8 (.t 7)),
 (none, .call (some 9) F.spec_l1Cur_pick [(.t 6), (.t 8)]),
 (none, .idxS 10 1 (.t 5) (.t 9)),
 (none, .load1 11 (.t 10)),
 (none, .mv 4 (.t 11))])
 (.ret))⟩
end Go.Ab.C

/- That the program has this code. -/
namespace Go.Ab.K
open Go Go.Ab
theorem spec_l1Cur_next : prepF Go.Proofs.Try.prog F.spec_l1Cur_next = some C.spec_l1Cur_next := by kernel_rfl
theorem spec_l1Cur_pick : prepF Go.Proofs.Try.prog F.spec_l1Cur_pick = some C.spec_l1Cur_pick := by kernel_rfl
theorem spec_l1Cur_one : prepF Go.Proofs.Try.prog F.spec_l1Cur_one = some C.spec_l1Cur_one := by kernel_rfl
theorem spec_l1Cur_among : prepF Go.Proofs.Try.prog F.spec_l1Cur_among = some C.spec_l1Cur_among := by kernel_rfl
end Go.Ab.K

/- Contracts: what the laws draw from their bytes: numbers (only that there is one, and in which bounds). -/
namespace Go.Ab
open Go
set_option linter.unusedSimpArgs false
set_option linter.unusedVariables false
set_option maxRecDepth 20000

/-- Bytes in memory. -/
def byL (bs : List Nat) : List LV := bs.map fun (b : Nat) => LV.val (.int .u8 (b : Int))
theorem byL_len (bs : List Nat) : (byL bs).length = bs.length := by simp [byL]
def Bytes (M : Mem) (t o : Nat) (bs : List Nat) : Prop := Has M t o (byL bs)
theorem Bytes.get {M : Mem} {t o k : Nat} {bs : List Nat} (h : Bytes M t o bs) (hk : k < bs.length) : getCell M t (o + k) = some (.val (.int .u8 ((bs.getD k 0 : Nat) : Int))) := by
  rw [Has.get h (by rw [byL_len]; exact hk)]
  simp [byL, hk]
/-- The reader of the bytes, in block p; it has read at most a times. -/
def CurAt (M : Mem) (p t o : Nat) (bs : List Nat) (a : Nat) : Prop := (∃ (i : Nat) (s : Int), i ≤ a ∧ Live M p (.row [.ref t o bs.length, .I i, .val (.int .u64 s)] true 0)) ∧ Bytes M t o bs ∧ t ≠ p ∧ (∀ b ∈ bs, b ≤ 255) ∧ bs.length ≤ 1000000000
/-- What a draw leaves: all but the reader is as before. -/
def DrawN (M : Mem) (p t o : Nat) (bs : List Nat) (a : Nat) (N : Mem) : Prop := CurAt N p t o bs a ∧ M.length ≤ N.length ∧ ∀ q, q < M.length → q ≠ p → N[q]? = M[q]?
theorem Has.at' {M N : Mem} {t o : Nat} {vs : List LV} (h : Has M t o vs) (hk : N[t]? = M[t]?) : Has N t o vs := by
  obtain ⟨row, h1, h2⟩ := h
  refine ⟨row, ?_, h2⟩
  unfold getRow at *
  rw [hk]; exact h1
theorem CurAt.keep {M N : Mem} {p t o : Nat} {bs : List Nat} {a b : Nat} (h : CurAt M p t o bs a) (hk : ∀ q, q < M.length → N[q]? = M[q]?) (hab : a ≤ b) : CurAt N p t o bs b := by
  obtain ⟨⟨i, s, h1, h2⟩, h3, h4⟩ := h
  exact ⟨⟨i, s, by omega, Live.at h2 (hk _ h2.lt)⟩, Has.at' h3 (hk _ h3.lt), h4⟩
theorem DrawN.trans {M N N' : Mem} {p t o : Nat} {bs : List Nat} {a b : Nat} (h : DrawN M p t o bs a N) (k : DrawN N p t o bs b N') : DrawN M p t o bs b N' :=
  ⟨k.1, Nat.le_trans h.2.1 k.2.1, fun q h1 h2 => by rw [k.2.2 q (Nat.lt_of_lt_of_le h1 h.2.1) h2]; exact h.2.2 q h1 h2⟩
theorem DrawN.of_pre {M N N' : Mem} {p t o : Nat} {bs : List Nat} {a : Nat} (h : Pre M N) (k : DrawN N p t o bs a N') : DrawN M p t o bs a N' :=
  ⟨k.1, Nat.le_trans h.1 k.2.1, fun q h1 h2 => by rw [k.2.2 q (Nat.lt_of_lt_of_le h1 h.1) h2]; exact h.2 q h1⟩
theorem CurAt.pre {M N : Mem} {p t o : Nat} {bs : List Nat} {a : Nat} (h : CurAt M p t o bs a) (hp : Pre M N) : CurAt N p t o bs a := h.keep hp.2 (Nat.le_refl _)
theorem byte_and {a : BitVec 64} : (a &&& 255#64).toNat ≤ 255 := by
  rw [BitVec.toNat_and]
  exact Nat.and_le_right
theorem u64_small {n : Nat} (h : n ≤ 255) : IntKind.i64.wrap (IntKind.u64.wrap (n : Int)) = (n : Int) := by
  have : IntKind.u64.wrap (n : Int) = (n : Int) := by
    rw [IntKind.wrap_u64]; omega
  rw [this, wrap_id (by omega)]
theorem u64_key (a : BitVec 64) : LV.val (.int .i64 (IntKind.i64.wrap (IntKind.u64.wrap (((a &&& BitVec.ofInt 64 255).toNat : Nat) : Int)))) = LV.I (((a &&& 255#64).toNat : Nat) : Int) := by
  rw [show BitVec.ofInt 64 255 = 255#64 from rfl, u64_small byte_and]
section
variable {p t o a : Nat} {bs : List Nat} {M : Mem}
theorem d_next (h : CurAt M p t o bs a) (ha : a ≤ 1000000) : CallsR PG F.spec_l1Cur_next [.ptr p 0] M fun v N => (∃ b : Nat, v = .I b ∧ b ≤ 255) ∧ DrawN M p t o bs (a + 1) N := by
  obtain ⟨⟨i, s, hi, hp⟩, hB, htp, h255, hbl⟩ := id h
  have hpl := hp.lt
  refine callsR_run K.spec_l1Cur_next rfl ?_
  have fin : ∀ {N : Mem} {s' : Int}, N.length = M.length → Live N p (.row [.ref t o bs.length, .I (i + 1 : Nat), .val (.int .u64 s')] true 0) → (∀ q, q ≠ p → q < M.length → N[q]? = M[q]?) → DrawN M p t o bs (a + 1) N := fun {N s'} h1 h2 h3 =>
    ⟨⟨⟨i + 1, s', by omega, h2⟩, Has.at' hB (h3 t htp hB.lt), htp, h255, hbl⟩, by omega, fun q q1 q2 => h3 q q2 q1⟩
  by_cases hlt : i < bs.length
  · have hg := hB.get hlt
    have hb := h255 _ (getD_mem' (d := 0) hlt)
    generalize bs.getD i 0 = b at hg hb
    have hle : (i : Int) + 1 ≤ bs.length := by omega
    simp (disch := omega) only [C.spec_l1Cur_next, hp.cell, hlt, hg, Nat.mul_one, ↓SXd, SXu, slBounds, ↓sop, ↓aop, ↓reduceIte, LV.cells, AOp.dst, LV.I, LV.B, LV.U, LV.S, LV.nil, Nat.reduceEqDiff, Nat.reduceAdd, Nat.reduceMul, Nat.reduceSub, Nat.reduceLeDiff, Nat.reduceBEq, Nat.reduceDiv, Nat.reduceMod, Int.reduceToNat, Int.reduceLT, Int.reduceLE, Int.reduceAdd, Int.reduceSub, Int.reduceMul, Int.reduceEq, Int.reduceNeg, reduceCtorEq, resV, resAll, ARes.ev, LV.flat, ite_true, ite_false, exists_eq_left', exists_eq_left, keyOf, implies_true, fillC, capOf]
    refine memK_one hp (by simp) fun N1 j1 j2 j3 => ?_
    simp (disch := omega) only [j2.cell, bv_mul, bv_add, ↓SXd, SXu, slBounds, ↓sop, ↓aop, ↓reduceIte, LV.cells, AOp.dst, LV.I, LV.B, LV.U, LV.S, LV.nil, Nat.reduceEqDiff, Nat.reduceAdd, Nat.reduceMul, Nat.reduceSub, Nat.reduceLeDiff, Nat.reduceBEq, Nat.reduceDiv, Nat.reduceMod, Int.reduceToNat, Int.reduceLT, Int.reduceLE, Int.reduceAdd, Int.reduceSub, Int.reduceMul, Int.reduceEq, Int.reduceNeg, reduceCtorEq, resV, resAll, ARes.ev, LV.flat, ite_true, ite_false, exists_eq_left', exists_eq_left, keyOf, implies_true, fillC, capOf]
    refine memK_one j2 (by simp) fun N2 k1 k2 k3 => ?_
    simp (disch := omega) only [k2.cell, hle, ↓SXd, SXu, slBounds, ↓sop, ↓aop, ↓reduceIte, LV.cells, AOp.dst, LV.I, LV.B, LV.U, LV.S, LV.nil, Nat.reduceEqDiff, Nat.reduceAdd, Nat.reduceMul, Nat.reduceSub, Nat.reduceLeDiff, Nat.reduceBEq, Nat.reduceDiv, Nat.reduceMod, Int.reduceToNat, Int.reduceLT, Int.reduceLE, Int.reduceAdd, Int.reduceSub, Int.reduceMul, Int.reduceEq, Int.reduceNeg, reduceCtorEq, resV, resAll, ARes.ev, LV.flat, ite_true, ite_false, exists_eq_left', exists_eq_left, keyOf, implies_true, fillC, capOf]
    exact ⟨⟨b, rfl, hb⟩, fin (by omega) k2 fun q q1 q2 => by rw [k3 q q1 (by omega)]; exact j3 q q1 q2⟩
  · have hle : ¬ ((i : Int) + 1 ≤ bs.length) := by omega
    simp (disch := omega) only [C.spec_l1Cur_next, hp.cell, hlt, ↓SXd, SXu, slBounds, ↓sop, ↓aop, ↓reduceIte, LV.cells, AOp.dst, LV.I, LV.B, LV.U, LV.S, LV.nil, Nat.reduceEqDiff, Nat.reduceAdd, Nat.reduceMul, Nat.reduceSub, Nat.reduceLeDiff, Nat.reduceBEq, Nat.reduceDiv, Nat.reduceMod, Int.reduceToNat, Int.reduceLT, Int.reduceLE, Int.reduceAdd, Int.reduceSub, Int.reduceMul, Int.reduceEq, Int.reduceNeg, reduceCtorEq, resV, resAll, ARes.ev, LV.flat, ite_true, ite_false, exists_eq_left', exists_eq_left, keyOf, implies_true, fillC, capOf]
    refine memK_one hp (by simp) fun N1 j1 j2 j3 => ?_
    simp (disch := omega) only [j2.cell, bv_mul, bv_add, ↓SXd, SXu, slBounds, ↓sop, ↓aop, ↓reduceIte, LV.cells, AOp.dst, LV.I, LV.B, LV.U, LV.S, LV.nil, Nat.reduceEqDiff, Nat.reduceAdd, Nat.reduceMul, Nat.reduceSub, Nat.reduceLeDiff, Nat.reduceBEq, Nat.reduceDiv, Nat.reduceMod, Int.reduceToNat, Int.reduceLT, Int.reduceLE, Int.reduceAdd, Int.reduceSub, Int.reduceMul, Int.reduceEq, Int.reduceNeg, reduceCtorEq, resV, resAll, ARes.ev, LV.flat, ite_true, ite_false, exists_eq_left', exists_eq_left, keyOf, implies_true, fillC, capOf]
    refine memK_one j2 (by simp) fun N2 k1 k2 k3 => ?_
    simp (disch := omega) only [k2.cell, hle, bv_shr, bv_and, ↓SXd, SXu, slBounds, ↓sop, ↓aop, ↓reduceIte, LV.cells, AOp.dst, LV.I, LV.B, LV.U, LV.S, LV.nil, Nat.reduceEqDiff, Nat.reduceAdd, Nat.reduceMul, Nat.reduceSub, Nat.reduceLeDiff, Nat.reduceBEq, Nat.reduceDiv, Nat.reduceMod, Int.reduceToNat, Int.reduceLT, Int.reduceLE, Int.reduceAdd, Int.reduceSub, Int.reduceMul, Int.reduceEq, Int.reduceNeg, reduceCtorEq, resV, resAll, ARes.ev, LV.flat, ite_true, ite_false, exists_eq_left', exists_eq_left, keyOf, implies_true, fillC, capOf]
    refine ⟨⟨_, u64_key _, byte_and⟩, fin (by omega) k2 fun q q1 q2 => by rw [k3 q q1 (by omega)]; exact j3 q q1 q2⟩
theorem d_pick {n : Int} (h : CurAt M p t o bs a) (ha : a ≤ 999990) : CallsR PG F.spec_l1Cur_pick [.ptr p 0, .I n] M fun v N => (∃ b : Nat, v = .I b ∧ ((b : Int) < n ∨ b = 0)) ∧ DrawN M p t o bs (a + 2) N := by
  refine callsR_run K.spec_l1Cur_pick rfl ?_
  by_cases h1 : n ≤ 1
  · simp (disch := omega) only [C.spec_l1Cur_pick, h1, ↓SXd, SXu, slBounds, ↓sop, ↓aop, ↓reduceIte, LV.cells, AOp.dst, LV.I, LV.B, LV.U, LV.S, LV.nil, Nat.reduceEqDiff, Nat.reduceAdd, Nat.reduceMul, Nat.reduceSub, Nat.reduceLeDiff, Nat.reduceBEq, Nat.reduceDiv, Nat.reduceMod, Int.reduceToNat, Int.reduceLT, Int.reduceLE, Int.reduceAdd, Int.reduceSub, Int.reduceMul, Int.reduceEq, Int.reduceNeg, reduceCtorEq, resV, resAll, ARes.ev, LV.flat, ite_true, ite_false, exists_eq_left', exists_eq_left, keyOf, implies_true, fillC, capOf]
    exact ⟨⟨0, rfl, .inr rfl⟩, h.keep (fun _ _ => rfl) (by omega), Nat.le_refl _, fun _ _ _ => rfl⟩
  · have hn0 : ¬ (n = 0) := by omega
    simp (disch := omega) only [C.spec_l1Cur_pick, h1, ↓SXd, SXu, slBounds, ↓sop, ↓aop, ↓reduceIte, LV.cells, AOp.dst, LV.I, LV.B, LV.U, LV.S, LV.nil, Nat.reduceEqDiff, Nat.reduceAdd, Nat.reduceMul, Nat.reduceSub, Nat.reduceLeDiff, Nat.reduceBEq, Nat.reduceDiv, Nat.reduceMod, Int.reduceToNat, Int.reduceLT, Int.reduceLE, Int.reduceAdd, Int.reduceSub, Int.reduceMul, Int.reduceEq, Int.reduceNeg, reduceCtorEq, resV, resAll, ARes.ev, LV.flat, ite_true, ite_false, exists_eq_left', exists_eq_left, keyOf, implies_true, fillC, capOf]
    refine callR_of (d_next h (by omega)) ?_
    rintro _ N ⟨⟨b, rfl, hb⟩, hd⟩
    have hm := fun (m : Nat) => Int.tmod_eq_emod_of_nonneg (a := (m : Int)) (b := n) (by omega)
    have hm2 := fun (m : Nat) => Int.emod_nonneg (m : Int) (b := n) (by omega)
    have hm3 := fun (m : Nat) => Int.emod_lt_of_pos (m : Int) (b := n) (by omega)
    by_cases h2 : n > 200
    · simp (disch := omega) only [h2, ↓SXd, SXu, slBounds, ↓sop, ↓aop, ↓reduceIte, LV.cells, AOp.dst, LV.I, LV.B, LV.U, LV.S, LV.nil, Nat.reduceEqDiff, Nat.reduceAdd, Nat.reduceMul, Nat.reduceSub, Nat.reduceLeDiff, Nat.reduceBEq, Nat.reduceDiv, Nat.reduceMod, Int.reduceToNat, Int.reduceLT, Int.reduceLE, Int.reduceAdd, Int.reduceSub, Int.reduceMul, Int.reduceEq, Int.reduceNeg, reduceCtorEq, resV, resAll, ARes.ev, LV.flat, ite_true, ite_false, exists_eq_left', exists_eq_left, keyOf, implies_true, fillC, capOf]
      refine callR_of (d_next hd.1 (by omega)) ?_
      rintro _ N2 ⟨⟨b2, rfl, hb2⟩, hd2⟩
      simp (disch := omega) only [ne_eq, hn0, not_false_eq_true, ↓SXd, SXu, slBounds, ↓sop, ↓aop, ↓reduceIte, LV.cells, AOp.dst, LV.I, LV.B, LV.U, LV.S, LV.nil, Nat.reduceEqDiff, Nat.reduceAdd, Nat.reduceMul, Nat.reduceSub, Nat.reduceLeDiff, Nat.reduceBEq, Nat.reduceDiv, Nat.reduceMod, Int.reduceToNat, Int.reduceLT, Int.reduceLE, Int.reduceAdd, Int.reduceSub, Int.reduceMul, Int.reduceEq, Int.reduceNeg, reduceCtorEq, resV, resAll, ARes.ev, LV.flat, ite_true, ite_false, exists_eq_left', exists_eq_left, keyOf, implies_true, fillC, capOf]
      have e := hm (b * 256 + b2)
      have e2 := hm2 (b * 256 + b2)
      have e3 := hm3 (b * 256 + b2)
      refine ⟨⟨(((b * 256 + b2 : Nat) : Int) % n).toNat, ?_, .inl (by omega)⟩, hd.trans hd2⟩
      rw [Int.toNat_of_nonneg e2, ← e]
      rw [Int.natCast_add, Int.natCast_mul]; rfl
    · simp (disch := omega) only [h2, ne_eq, hn0, not_false_eq_true, ↓SXd, SXu, slBounds, ↓sop, ↓aop, ↓reduceIte, LV.cells, AOp.dst, LV.I, LV.B, LV.U, LV.S, LV.nil, Nat.reduceEqDiff, Nat.reduceAdd, Nat.reduceMul, Nat.reduceSub, Nat.reduceLeDiff, Nat.reduceBEq, Nat.reduceDiv, Nat.reduceMod, Int.reduceToNat, Int.reduceLT, Int.reduceLE, Int.reduceAdd, Int.reduceSub, Int.reduceMul, Int.reduceEq, Int.reduceNeg, reduceCtorEq, resV, resAll, ARes.ev, LV.flat, ite_true, ite_false, exists_eq_left', exists_eq_left, keyOf, implies_true, fillC, capOf]
      have e := hm b
      have e2 := hm2 b
      have e3 := hm3 b
      refine ⟨⟨((b : Int) % n).toNat, by rw [Int.toNat_of_nonneg e2, ← e], .inl (by omega)⟩, ?_⟩
      exact ⟨hd.1.keep (fun _ _ => rfl) (by omega), hd.2⟩
theorem d_one {n : Int} (h : CurAt M p t o bs a) (ha : a ≤ 999990) : CallsR PG F.spec_l1Cur_one [.ptr p 0, .I n] M fun v N => (∃ b : Bool, v = .B b) ∧ DrawN M p t o bs (a + 2) N := by
  refine callsR_run K.spec_l1Cur_one rfl ?_
  simp (disch := omega) only [C.spec_l1Cur_one, ↓SXd, SXu, slBounds, ↓sop, ↓aop, ↓reduceIte, LV.cells, AOp.dst, LV.I, LV.B, LV.U, LV.S, LV.nil, Nat.reduceEqDiff, Nat.reduceAdd, Nat.reduceMul, Nat.reduceSub, Nat.reduceLeDiff, Nat.reduceBEq, Nat.reduceDiv, Nat.reduceMod, Int.reduceToNat, Int.reduceLT, Int.reduceLE, Int.reduceAdd, Int.reduceSub, Int.reduceMul, Int.reduceEq, Int.reduceNeg, reduceCtorEq, resV, resAll, ARes.ev, LV.flat, ite_true, ite_false, exists_eq_left', exists_eq_left, keyOf, implies_true, fillC, capOf]
  refine callR_of (d_pick h ha) ?_
  rintro _ N ⟨⟨b, rfl, _⟩, hd⟩
  simp (disch := omega) only [↓SXd, SXu, slBounds, ↓sop, ↓aop, ↓reduceIte, LV.cells, AOp.dst, LV.I, LV.B, LV.U, LV.S, LV.nil, Nat.reduceEqDiff, Nat.reduceAdd, Nat.reduceMul, Nat.reduceSub, Nat.reduceLeDiff, Nat.reduceBEq, Nat.reduceDiv, Nat.reduceMod, Int.reduceToNat, Int.reduceLT, Int.reduceLE, Int.reduceAdd, Int.reduceSub, Int.reduceMul, Int.reduceEq, Int.reduceNeg, reduceCtorEq, resV, resAll, ARes.ev, LV.flat, ite_true, ite_false, exists_eq_left', exists_eq_left, keyOf, implies_true, fillC, capOf]
  exact ⟨⟨_, rfl⟩, hd⟩
theorem d_among {u q : Nat} {xs : List Int} (h : CurAt M p t o bs a) (ha : a ≤ 999990) (hx : Ints M u q xs) (hu : u ≠ p) (h0 : 0 < xs.length) (hxl : xs.length ≤ 1000) : CallsR PG F.spec_l1Cur_among [.ptr p 0, .ref u q xs.length] M fun v N => (∃ b : Int, v = .I b ∧ b ∈ xs) ∧ DrawN M p t o bs (a + 2) N := by
  refine callsR_run K.spec_l1Cur_among rfl ?_
  simp (disch := omega) only [C.spec_l1Cur_among, ↓SXd, SXu, slBounds, ↓sop, ↓aop, ↓reduceIte, LV.cells, AOp.dst, LV.I, LV.B, LV.U, LV.S, LV.nil, Nat.reduceEqDiff, Nat.reduceAdd, Nat.reduceMul, Nat.reduceSub, Nat.reduceLeDiff, Nat.reduceBEq, Nat.reduceDiv, Nat.reduceMod, Int.reduceToNat, Int.reduceLT, Int.reduceLE, Int.reduceAdd, Int.reduceSub, Int.reduceMul, Int.reduceEq, Int.reduceNeg, reduceCtorEq, resV, resAll, ARes.ev, LV.flat, ite_true, ite_false, exists_eq_left', exists_eq_left, keyOf, implies_true, fillC, capOf]
  refine callR_of (d_pick h ha) ?_
  rintro _ N ⟨⟨b, rfl, hb⟩, hd⟩
  have hbl : b < xs.length := by omega
  have hg := Ints.get (Has.at' hx (hd.2.2 u hx.lt hu)) hbl
  simp (disch := omega) only [hg, Nat.mul_one, ↓SXd, SXu, slBounds, ↓sop, ↓aop, ↓reduceIte, LV.cells, AOp.dst, LV.I, LV.B, LV.U, LV.S, LV.nil, Nat.reduceEqDiff, Nat.reduceAdd, Nat.reduceMul, Nat.reduceSub, Nat.reduceLeDiff, Nat.reduceBEq, Nat.reduceDiv, Nat.reduceMod, Int.reduceToNat, Int.reduceLT, Int.reduceLE, Int.reduceAdd, Int.reduceSub, Int.reduceMul, Int.reduceEq, Int.reduceNeg, reduceCtorEq, resV, resAll, ARes.ev, LV.flat, ite_true, ite_false, exists_eq_left', exists_eq_left, keyOf, implies_true, fillC, capOf]
  exact ⟨⟨_, rfl, getD_mem' hbl⟩, hd⟩
end
end Go.Ab

/- Contracts: the laws' helpers on lists of numbers; cuts at an if. -/
namespace Go.Ab
open Go
set_option linter.unusedSimpArgs false
set_option linter.unusedVariables false
set_option maxRecDepth 20000

/-- An if, and then the rest: the rest is shown once. -/
theorem cond_cut {P : Program} {v : LV} {a b c : ACode} {fr : Fr} {M : Mem} {Q : AExit → Fr → Mem → Prop} (I : Fr → Mem → Prop) (h : condC v P a b fr M (thenK I Q)) (hb : ∀ fr M, I fr M → EvC P c fr M Q) : condC v P a b fr M (seqK P c Q) := by
  have hm : ∀ e fr M, thenK I Q e fr M → seqK P c Q e fr M := fun e fr M hh => by
    cases e with
    | normal => exact hb _ _ hh
    | exit i => exact hh
    | ret => exact hh
  have key : ∀ {A A' B B' : Prop}, (A → A') → (B → B') → condV v A B → condV v A' B' := fun {A A' B B'} h1 h2 h => by
    unfold condV at *
    split
    · exact ⟨fun e => h1 (h.1 e), fun e => h2 (h.2 e)⟩
    · rename_i hne
      split at h
      · exact (hne _ rfl).elim
      · exact h
  exact key (evc_mono hm) (evc_mono hm) h
theorem put_cut {P : Program} {r : List GOp} {b c : ACode} {fr : Fr} {d : Option Nat} {v : LV} {N : Mem} {Q : AExit → Fr → Mem → Prop} (I : Fr → Mem → Prop) (h : putK (opsK P r (seqK P b (thenK I Q) .normal)) fr d v N) (hb : ∀ fr M, I fr M → EvC P c fr M Q) : putK (opsK P r (seqK P b (seqK P c Q) .normal)) fr d v N := by
  have hm : ∀ e fr M, thenK I Q e fr M → seqK P c Q e fr M := fun e fr M hh => by
    cases e with
    | normal => exact hb _ _ hh
    | exit i => exact hh
    | ret => exact hh
  exact evops_mono (fun fr M hh => evc_mono hm hh) h
theorem k_vBig {t o : Nat} {n : Nat} {M : Mem} (hn : n ≤ 9223372036854775807) : CallsTo PG F.laws_vBig [.ref t o n] M (.B (decide ((65536 : Int) < n))) M := by
  refine calls_run K.laws_vBig rfl ?_
  simp (disch := omega) only [C.laws_vBig, ↓SXd, SXu, slBounds, ↓sop, ↓aop, ↓reduceIte, LV.cells, AOp.dst, LV.I, LV.B, LV.U, LV.S, LV.nil, Nat.reduceEqDiff, Nat.reduceAdd, Nat.reduceMul, Nat.reduceSub, Nat.reduceLeDiff, Nat.reduceBEq, Nat.reduceDiv, Nat.reduceMod, Int.reduceToNat, Int.reduceLT, Int.reduceLE, Int.reduceAdd, Int.reduceSub, Int.reduceMul, Int.reduceEq, Int.reduceNeg, reduceCtorEq, resV, resAll, ARes.ev, LV.flat, ite_true, ite_false, exists_eq_left', exists_eq_left, keyOf, implies_true, fillC, capOf]
  exact cmp_drop0 rfl
theorem IntsV.lenV {N : Mem} {v : LV} {l : List Int} (h : IntsV N v l) : lenV v = some (l.length : Int) := by
  rcases h with ⟨rfl, rfl⟩ | ⟨t, o, rfl, _⟩ <;> rfl
theorem IntsV.at {N : Mem} {v : LV} {l : List Int} {k : Nat} (h : IntsV N v l) (hk : k < l.length) : ∃ t o, v = .ref t o l.length ∧ getCell N t (o + k) = some (.I (l.getD k 0)) := by
  rcases h with ⟨rfl, rfl⟩ | ⟨t, o, rfl, h⟩
  · simp at hk
  · exact ⟨t, o, rfl, Ints.get h hk⟩
theorem k_vInts {l : List Int} {v v' : LV} {M : Mem} (h : IntsV M v l) (h' : IntsV M v' l) (hn : l.length ≤ 1000000000) : CallsTo PG F.laws_vInts [v, v'] M (.B true) M := by
  refine calls_run K.laws_vInts rfl ?_
  have hv := h.lenV
  have hv' := h'.lenV
  simp (disch := omega) only [C.laws_vInts, hv, hv', ↓SXd, SXu, slBounds, ↓sop, ↓aop, ↓reduceIte, LV.cells, AOp.dst, LV.I, LV.B, LV.U, LV.S, LV.nil, Nat.reduceEqDiff, Nat.reduceAdd, Nat.reduceMul, Nat.reduceSub, Nat.reduceLeDiff, Nat.reduceBEq, Nat.reduceDiv, Nat.reduceMod, Int.reduceToNat, Int.reduceLT, Int.reduceLE, Int.reduceAdd, Int.reduceSub, Int.reduceMul, Int.reduceEq, Int.reduceNeg, reduceCtorEq, resV, resAll, ARes.ev, LV.flat, ite_true, ite_false, exists_eq_left', exists_eq_left, keyOf, implies_true, fillC, capOf]
  refine ev_loop (fun m fr M' => ∃ k : Nat, k + m = l.length ∧ M' = M ∧ fr 0 = v ∧ fr 1 = v' ∧ fr 5 = .I k) l.length ⟨0, by omega, rfl, rfl, rfl, rfl⟩ ?_
  rintro m fr M' ⟨k, hk, rfl, h0, h1, h5⟩
  simp (disch := omega) only [h0, h1, h5, hv, ↓SXd, SXu, slBounds, ↓sop, ↓aop, ↓reduceIte, LV.cells, AOp.dst, LV.I, LV.B, LV.U, LV.S, LV.nil, Nat.reduceEqDiff, Nat.reduceAdd, Nat.reduceMul, Nat.reduceSub, Nat.reduceLeDiff, Nat.reduceBEq, Nat.reduceDiv, Nat.reduceMod, Int.reduceToNat, Int.reduceLT, Int.reduceLE, Int.reduceAdd, Int.reduceSub, Int.reduceMul, Int.reduceEq, Int.reduceNeg, reduceCtorEq, resV, resAll, ARes.ev, LV.flat, ite_true, ite_false, exists_eq_left', exists_eq_left, keyOf, implies_true, fillC, capOf]
  refine condC_dec (fun hlt => ?_) (fun hlt => ?_)
  · obtain ⟨t, o, rfl, hg⟩ := h.at (k := k) (by omega)
    obtain ⟨t', o', rfl, hg'⟩ := h'.at (k := k) (by omega)
    simp (disch := omega) only [h0, h1, h5, hg, hg', Nat.mul_one, ↓SXd, SXu, slBounds, ↓sop, ↓aop, ↓reduceIte, LV.cells, AOp.dst, LV.I, LV.B, LV.U, LV.S, LV.nil, Nat.reduceEqDiff, Nat.reduceAdd, Nat.reduceMul, Nat.reduceSub, Nat.reduceLeDiff, Nat.reduceBEq, Nat.reduceDiv, Nat.reduceMod, Int.reduceToNat, Int.reduceLT, Int.reduceLE, Int.reduceAdd, Int.reduceSub, Int.reduceMul, Int.reduceEq, Int.reduceNeg, reduceCtorEq, resV, resAll, ARes.ev, LV.flat, ite_true, ite_false, exists_eq_left', exists_eq_left, keyOf, implies_true, fillC, capOf]
    exact ⟨m - 1, by omega, k + 1, by omega, rfl, h0, h1, eqI (natI _)⟩
  · simp (disch := omega) only [h0, h1, h5, ↓SXd, SXu, slBounds, ↓sop, ↓aop, ↓reduceIte, LV.cells, AOp.dst, LV.I, LV.B, LV.U, LV.S, LV.nil, Nat.reduceEqDiff, Nat.reduceAdd, Nat.reduceMul, Nat.reduceSub, Nat.reduceLeDiff, Nat.reduceBEq, Nat.reduceDiv, Nat.reduceMod, Int.reduceToNat, Int.reduceLT, Int.reduceLE, Int.reduceAdd, Int.reduceSub, Int.reduceMul, Int.reduceEq, Int.reduceNeg, reduceCtorEq, resV, resAll, ARes.ev, LV.flat, ite_true, ite_false, exists_eq_left', exists_eq_left, keyOf, implies_true, fillC, capOf]
    exact cmp_drop0 rfl
end Go.Ab

/- The abstract code of some functions (written by a program of mine from the translation, by way of prepF). -/
namespace Go.Ab.C
open Go.Ab
end Go.Ab.C

/- That the program has this code. -/
namespace Go.Ab.K
open Go Go.Ab
end Go.Ab.K

/- The abstract code of some functions (written by a program of mine from the translation, by way of prepF). -/
namespace Go.Ab.C
open Go.Ab
end Go.Ab.C

/- That the program has this code. -/
namespace Go.Ab.K
open Go Go.Ab
end Go.Ab.K

/- The abstract code of some functions (written by a program of mine from the translation, by way of prepF). -/
namespace Go.Ab.C
open Go.Ab
def spec_OtherCells : AFn :=
 ⟨1, 43, [.cellN 2 4, .tmp 3],
 .seq (.ops [(none, .box 1 (.t 0)),
 (none, .alloc 2 [(.I 0), (.I 0), (.I 0), .nil]),
 (none, .mv 3 (.c (.B false)))])
 (.seq (.seq (.ops [(none, .loadN 7 4 (.t 1)),
 (none, .call (some 8) F.spec_l2Heap [(.t 7)]),
 (none, .un 9 .not (.t 8))])
 (.cond (.t 9) (.seq (.ops [(none, .build 10 [(.I 0), (.I 0), (.I 0), .nil] []),
 (none, .store 4 (.t 2) (.t 10)),
 (none, .mv 3 (.c (.B false)))])
 (.ret))
 (.skip)))
 (.seq (.draw [⟨(none, .fieldAddr 11 (.t 1) 0), [], []⟩,
 ⟨(none, .load1 12 (.t 11)), [], []⟩,
 ⟨(none, .fieldAddr 13 (.t 1) 1), [], []⟩,
 ⟨(none, .load1 14 (.t 13)), [], []⟩,
 ⟨(none, .fieldAddr 15 (.t 1) 2), [], []⟩,
 ⟨(none, .load1 16 (.t 15)), [], []⟩,
 ⟨(none, .loadN 18 4 (.t 1)), [], []⟩,
 ⟨(none, .alloc 4 [(.I 0), (.I 0), (.I 0), .nil]), [], []⟩,
 ⟨(none, .call (some 17) F.spec_l2Empty [(.t 12), (.t 14), (.t 16)]), [7], [6]⟩,
 ⟨(none, .call (some 19) F.spec_l2All [(.t 18)]), [7], []⟩,
 ⟨(none, .store 4 (.t 4) (.t 17)), [], []⟩,
 ⟨(none, .mv 5 (.t 19)), [], []⟩])
 (.seq (.seq (.ops [(none, .mv 6 (.c (.I 0)))])
 (.block 0 (.loop (.seq (.seq (.ops [(none, .mv 20 (.t 6)),
 (none, .mv 21 (.t 5)),
 (none, .len 22 (.t 21)),
 (none, .bin 23 .lss (.t 20) (.t 22))])
 (.cond (.t 23) (.skip)
 (.exit 0)))
 (.seq (.block 1 (.seq (.draw [⟨(none, .loadN 26 4 (.t 1)), [], []⟩,
 ⟨(none, .mv 27 (.t 5)), [], []⟩,
 ⟨(none, .mv 28 (.t 6)), [], []⟩,
 ⟨(none, .idxS 29 3 (.t 27) (.t 28)), [], []⟩,
 ⟨(none, .loadN 30 3 (.t 29)), [], []⟩,
 ⟨(none, .call (some 31) F.spec_l2Has [(.t 26), (.t 30)]), [], []⟩,
 ⟨(none, .un 32 .not (.t 31)), [], []⟩])
 (.cond (.t 32) (.draw [⟨(none, .fieldAddr 33 (.t 4) 3), [], []⟩,
 ⟨(none, .load1 34 (.t 33)), [], []⟩,
 ⟨(none, .mv 35 (.t 5)), [], []⟩,
 ⟨(none, .mv 36 (.t 6)), [], []⟩,
 ⟨(none, .idxS 37 3 (.t 35) (.t 36)), [], []⟩,
 ⟨(none, .loadN 38 3 (.t 37)), [], []⟩,
 ⟨(none, .buildSl 39 1 3 [(.I 0), (.I 0), (.I 0)] [(0, 3, (.t 38))]), [], []⟩,
 ⟨(none, .append 40 3 24 (.t 34) (.t 39)), [], []⟩,
 ⟨(none, .fieldAddr 41 (.t 4) 3), [], []⟩,
 ⟨(none, .store 1 (.t 41) (.t 40)), [], []⟩])
 (.skip))))
 (.ops [(none, .mv 24 (.t 6)),
 (none, .bin 25 .add (.t 24) (.c (.I 1))),
 (none, .mv 6 (.t 25))]))))))
 (.seq (.ops [(none, .loadN 42 4 (.t 4)),
 (none, .store 4 (.t 2) (.t 42)),
 (none, .mv 3 (.c (.B true)))])
 (.ret)))))⟩
def spec_l2Stack : AFn :=
 ⟨4, 56, [.cellN 8 4],
 .seq (.ops [(none, .alloc 8 [(.I 0), (.I 0), (.I 0), .nil])])
 (.seq (.ops [(none, .mv 12 (.t 0)),
 (none, .mv 13 (.t 1)),
 (none, .mv 14 (.t 2)),
 (none, .call (some 15) F.spec_l2Empty [(.t 12), (.t 13), (.t 14)]),
 (none, .alloc 9 [(.I 0), (.I 0), (.I 0), .nil]),
 (none, .store 4 (.t 9) (.t 15))])
 (.seq (.ops [(none, .loadN 16 4 (.t 9)),
 (none, .call (some 17) F.spec_l2All [(.t 16)]),
 (none, .mv 10 (.t 17))])
 (.seq (.seq (.ops [(none, .mv 11 (.c (.I 0)))])
 (.block 0 (.loop (.seq (.seq (.ops [(none, .mv 18 (.t 11)),
 (none, .mv 19 (.t 10)),
 (none, .len 20 (.t 19)),
 (none, .bin 21 .lss (.t 18) (.t 20))])
 (.cond (.t 21) (.skip)
 (.exit 0)))
 (.seq (.block 1 (.seq (.draw [⟨(none, .mv 24 (.t 10)), [], []⟩,
 ⟨(none, .mv 25 (.t 11)), [], []⟩,
 ⟨(none, .idxS 26 3 (.t 24) (.t 25)), [], []⟩,
 ⟨(none, .idxA 27 3 1 (.t 26) (.c (.I 2))), [], []⟩,
 ⟨(none, .load1 28 (.t 27)), [], []⟩,
 ⟨(none, .mv 29 (.t 3)), [], []⟩,
 ⟨(none, .mv 30 (.t 10)), [], []⟩,
 ⟨(none, .mv 31 (.t 11)), [], []⟩,
 ⟨(none, .idxS 32 3 (.t 30) (.t 31)), [], []⟩,
 ⟨(none, .idxA 33 3 1 (.t 32) (.c (.I 0))), [], []⟩,
 ⟨(none, .load1 34 (.t 33)), [], []⟩,
 ⟨(none, .mv 35 (.t 1)), [], []⟩,
 ⟨(none, .bin 36 .mul (.t 34) (.t 35)), [], []⟩,
 ⟨(none, .mv 37 (.t 10)), [], []⟩,
 ⟨(none, .mv 38 (.t 11)), [], []⟩,
 ⟨(none, .idxS 39 3 (.t 37) (.t 38)), [], []⟩,
 ⟨(none, .idxA 40 3 1 (.t 39) (.c (.I 1))), [], []⟩,
 ⟨(none, .load1 41 (.t 40)), [], []⟩,
 ⟨(none, .bin 42 .add (.t 36) (.t 41)), [], []⟩,
 ⟨(none, .idxS 43 1 (.t 29) (.t 42)), [], []⟩,
 ⟨(none, .load1 44 (.t 43)), [], []⟩,
 ⟨(none, .bin 45 .lss (.t 28) (.t 44)), [], []⟩])
 (.cond (.t 45) (.draw [⟨(none, .fieldAddr 46 (.t 9) 3), [], []⟩,
 ⟨(none, .load1 47 (.t 46)), [], []⟩,
 ⟨(none, .mv 48 (.t 10)), [], []⟩,
 ⟨(none, .mv 49 (.t 11)), [], []⟩,
 ⟨(none, .idxS 50 3 (.t 48) (.t 49)), [], []⟩,
 ⟨(none, .loadN 51 3 (.t 50)), [], []⟩,
 ⟨(none, .buildSl 52 1 3 [(.I 0), (.I 0), (.I 0)] [(0, 3, (.t 51))]), [], []⟩,
 ⟨(none, .append 53 3 24 (.t 47) (.t 52)), [], []⟩,
 ⟨(none, .fieldAddr 54 (.t 9) 3), [], []⟩,
 ⟨(none, .store 1 (.t 54) (.t 53)), [], []⟩])
 (.skip))))
 (.ops [(none, .mv 22 (.t 11)),
 (none, .bin 23 .add (.t 22) (.c (.I 1))),
 (none, .mv 11 (.t 23))]))))))
 (.seq (.ops [(none, .loadN 55 4 (.t 9)),
 (none, .store 4 (.t 8) (.t 55))])
 (.ret)))))⟩
end Go.Ab.C

/- That the program has this code. -/
namespace Go.Ab.K
open Go Go.Ab
theorem spec_OtherCells : prepF Go.Proofs.Try.prog F.spec_OtherCells = some C.spec_OtherCells := by kernel_rfl
theorem spec_l2Stack : prepF Go.Proofs.Try.prog F.spec_l2Stack = some C.spec_l2Stack := by kernel_rfl
end Go.Ab.K

/- Contracts: the cells without cubes, as a heap, and stacks; the reference's side. -/
namespace Go.Ab
open Go
set_option linter.unusedSimpArgs false
set_option linter.unusedVariables false
set_option maxRecDepth 20000

theorem take_snoc' {α : Type} {l : List α} {i : Nat} {d : α} (h : i < l.length) : l.take (i + 1) = l.take i ++ [l.getD i d] := by
  rw [List.take_succ, List.getElem?_eq_getElem h]; simp [h]
section
variable {x y z : Int} {t o : Nat} {cs : List Cell} {M : Mem} (h : Tri M t o cs) (hn : cs.length ≤ 1000000000)
include h hn
theorem h_OtherCells : CallsR PG F.spec_OtherCells [.agg [.I x, .I y, .I z, .ref t o cs.length]] M fun v N => (HeapOK x y z cs → ∃ u, v = .tup [.agg [.I x, .I y, .I z, .ref u 0 (pick x y z (freeP cs)).length], .B true] ∧ Live N u (.row (triL (pick x y z (freeP cs))) true 3) ∧ M.length ≤ u) ∧ (¬ HeapOK x y z cs → v = .tup [.agg [.I 0, .I 0, .I 0, .nil], .B false]) ∧ Pre M N := by
  refine callsR_run K.spec_OtherCells rfl ?_
  simp (disch := omega) only [C.spec_OtherCells, ↓SXd, SXu, slBounds, ↓sop, ↓aop, ↓reduceIte, LV.cells, AOp.dst, LV.I, LV.B, LV.U, LV.S, LV.nil, Nat.reduceEqDiff, Nat.reduceAdd, Nat.reduceMul, Nat.reduceSub, Nat.reduceLeDiff, Nat.reduceBEq, Nat.reduceDiv, Nat.reduceMod, Int.reduceToNat, Int.reduceLT, Int.reduceLE, Int.reduceAdd, Int.reduceSub, Int.reduceMul, Int.reduceEq, Int.reduceNeg, reduceCtorEq, resV, resAll, ARes.ev, LV.flat, ite_true, ite_false, exists_eq_left', exists_eq_left, keyOf, implies_true, fillC, capOf]
  refine callK_of (h_l2Heap h.app hn) ?_
  simp (disch := omega) only [↓SXd, SXu, slBounds, ↓sop, ↓aop, ↓reduceIte, LV.cells, AOp.dst, LV.I, LV.B, LV.U, LV.S, LV.nil, Nat.reduceEqDiff, Nat.reduceAdd, Nat.reduceMul, Nat.reduceSub, Nat.reduceLeDiff, Nat.reduceBEq, Nat.reduceDiv, Nat.reduceMod, Int.reduceToNat, Int.reduceLT, Int.reduceLE, Int.reduceAdd, Int.reduceSub, Int.reduceMul, Int.reduceEq, Int.reduceNeg, reduceCtorEq, resV, resAll, ARes.ev, LV.flat, ite_true, ite_false, exists_eq_left', exists_eq_left, keyOf, implies_true, fillC, capOf]
  by_cases hH : HeapOK x y z cs
  · rw [decide_eq_true hH]
    have hS := hH.1
    have hv := vol_cast hS
    have ht := h.lt
    have hcl : (cellsOf x y z).length = vol x y z := by simp [cellsOf]
    simp (disch := omega) only [↓SXd, SXu, slBounds, ↓sop, ↓aop, ↓reduceIte, LV.cells, AOp.dst, LV.I, LV.B, LV.U, LV.S, LV.nil, Nat.reduceEqDiff, Nat.reduceAdd, Nat.reduceMul, Nat.reduceSub, Nat.reduceLeDiff, Nat.reduceBEq, Nat.reduceDiv, Nat.reduceMod, Int.reduceToNat, Int.reduceLT, Int.reduceLE, Int.reduceAdd, Int.reduceSub, Int.reduceMul, Int.reduceEq, Int.reduceNeg, reduceCtorEq, resV, resAll, ARes.ev, LV.flat, ite_true, ite_false, exists_eq_left', exists_eq_left, keyOf, implies_true, fillC, capOf]
    refine callK_of (h_l2Empty) ?_
    simp (disch := omega) only [splice, ↓SXd, SXu, slBounds, ↓sop, ↓aop, ↓reduceIte, LV.cells, AOp.dst, LV.I, LV.B, LV.U, LV.S, LV.nil, Nat.reduceEqDiff, Nat.reduceAdd, Nat.reduceMul, Nat.reduceSub, Nat.reduceLeDiff, Nat.reduceBEq, Nat.reduceDiv, Nat.reduceMod, Int.reduceToNat, Int.reduceLT, Int.reduceLE, Int.reduceAdd, Int.reduceSub, Int.reduceMul, Int.reduceEq, Int.reduceNeg, reduceCtorEq, resV, resAll, ARes.ev, LV.flat, ite_true, ite_false, exists_eq_left', exists_eq_left, keyOf, implies_true, fillC, capOf]
    refine callK_of (h_l2All hS) ?_
    simp (disch := omega) only [splice, ↓SXd, SXu, slBounds, ↓sop, ↓aop, ↓reduceIte, LV.cells, AOp.dst, LV.I, LV.B, LV.U, LV.S, LV.nil, Nat.reduceEqDiff, Nat.reduceAdd, Nat.reduceMul, Nat.reduceSub, Nat.reduceLeDiff, Nat.reduceBEq, Nat.reduceDiv, Nat.reduceMod, Int.reduceToNat, Int.reduceLT, Int.reduceLE, Int.reduceAdd, Int.reduceSub, Int.reduceMul, Int.reduceEq, Int.reduceNeg, reduceCtorEq, resV, resAll, ARes.ev, LV.flat, ite_true, ite_false, exists_eq_left', exists_eq_left, keyOf, implies_true, fillC, capOf]
    refine ev_loop (fun m fr1 M' => ∃ i u : Nat, i + m = (cellsOf x y z).length ∧ Pre M M' ∧ Live M' M.length (.row [.I x, .I y, .I z, .ref t o cs.length] true 0) ∧ Live M' (M.length + 1) (.row [.I 0, .I 0, .I 0, .nil] true 0) ∧
      Live M' (M.length + 2) (.row [.I x, .I y, .I z, .ref u 0 (((cellsOf x y z).take i).filter (freeP cs)).length] true 0) ∧ Live M' (M.length + 4) (.row (triL (cellsOf x y z)) true 3) ∧ Live M' u (.row (triL (((cellsOf x y z).take i).filter (freeP cs))) true 3) ∧ (u = M.length + 3 ∨ M.length + 4 < u) ∧
      fr1 1 = .ptr M.length 0 ∧ fr1 2 = .ptr (M.length + 1) 0 ∧ fr1 4 = .ptr (M.length + 2) 0 ∧ fr1 5 = .ref (M.length + 4) 0 (cellsOf x y z).length ∧ fr1 6 = .I i) (cellsOf x y z).length
      ⟨0, M.length + 3, by omega, Pre.app _ _, Live.new, Live.newj rfl, Live.newj rfl, Live.newj rfl, Live.newj rfl, .inl rfl, rfl, rfl, rfl, rfl, rfl⟩ ?_
    rintro m fr1 M' ⟨i, u, hi, hpre, b1, b2, b3, b4, bu, hu, f1, f2, f4, f5, f6⟩
    simp (disch := omega) only [f1, f2, f4, f5, f6, ↓SXd, SXu, slBounds, ↓sop, ↓aop, ↓reduceIte, LV.cells, AOp.dst, LV.I, LV.B, LV.U, LV.S, LV.nil, Nat.reduceEqDiff, Nat.reduceAdd, Nat.reduceMul, Nat.reduceSub, Nat.reduceLeDiff, Nat.reduceBEq, Nat.reduceDiv, Nat.reduceMod, Int.reduceToNat, Int.reduceLT, Int.reduceLE, Int.reduceAdd, Int.reduceSub, Int.reduceMul, Int.reduceEq, Int.reduceNeg, reduceCtorEq, resV, resAll, ARes.ev, LV.flat, ite_true, ite_false, exists_eq_left', exists_eq_left, keyOf, implies_true, fillC, capOf]
    refine condC_dec (fun hlt => ?_) (fun hlt => ?_)
    · have hil : i < (cellsOf x y z).length := by omega
      have hci := b4.tri0 hil
      have hts := take_snoc' (d := default) hil
      have hal : (((cellsOf x y z).take i).filter (freeP cs)).length ≤ 64 := by
        have q1 := List.length_filter_le (freeP cs) ((cellsOf x y z).take i)
        have q2 := List.length_take_le i (cellsOf x y z)
        omega
      generalize (cellsOf x y z).getD i default = c at hci hts
      have hstep : ((cellsOf x y z).take (i + 1)).filter (freeP cs) = ((cellsOf x y z).take i).filter (freeP cs) ++ (if freeP cs c then [c] else []) := by
        rw [hts, List.filter_append, List.filter_cons, List.filter_nil]
      simp (disch := omega) only [f1, f2, f4, f5, f6, b1.cells, hci, Cell.row, ↓SXd, SXu, slBounds, ↓sop, ↓aop, ↓reduceIte, LV.cells, AOp.dst, LV.I, LV.B, LV.U, LV.S, LV.nil, Nat.reduceEqDiff, Nat.reduceAdd, Nat.reduceMul, Nat.reduceSub, Nat.reduceLeDiff, Nat.reduceBEq, Nat.reduceDiv, Nat.reduceMod, Int.reduceToNat, Int.reduceLT, Int.reduceLE, Int.reduceAdd, Int.reduceSub, Int.reduceMul, Int.reduceEq, Int.reduceNeg, reduceCtorEq, resV, resAll, ARes.ev, LV.flat, ite_true, ite_false, exists_eq_left', exists_eq_left, keyOf, implies_true, fillC, capOf]
      refine callK_of (h_l2Has (h.pre hpre) (by omega)) ?_
      simp (disch := omega) only [f1, f2, f4, f5, f6, ↓SXd, SXu, slBounds, ↓sop, ↓aop, ↓reduceIte, LV.cells, AOp.dst, LV.I, LV.B, LV.U, LV.S, LV.nil, Nat.reduceEqDiff, Nat.reduceAdd, Nat.reduceMul, Nat.reduceSub, Nat.reduceLeDiff, Nat.reduceBEq, Nat.reduceDiv, Nat.reduceMod, Int.reduceToNat, Int.reduceLT, Int.reduceLE, Int.reduceAdd, Int.reduceSub, Int.reduceMul, Int.reduceEq, Int.reduceNeg, reduceCtorEq, resV, resAll, ARes.ev, LV.flat, ite_true, ite_false, exists_eq_left', exists_eq_left, keyOf, implies_true, fillC, capOf]
      rw [cell_eta]
      have hfp : freeP cs c = !decide (c ∈ cs) := rfl
      by_cases hm : c ∈ cs
      · rw [decide_eq_true hm] at hfp ⊢
        simp (disch := omega) only [f1, f2, f4, f5, f6, ↓SXd, SXu, slBounds, ↓sop, ↓aop, ↓reduceIte, LV.cells, AOp.dst, LV.I, LV.B, LV.U, LV.S, LV.nil, Nat.reduceEqDiff, Nat.reduceAdd, Nat.reduceMul, Nat.reduceSub, Nat.reduceLeDiff, Nat.reduceBEq, Nat.reduceDiv, Nat.reduceMod, Int.reduceToNat, Int.reduceLT, Int.reduceLE, Int.reduceAdd, Int.reduceSub, Int.reduceMul, Int.reduceEq, Int.reduceNeg, reduceCtorEq, resV, resAll, ARes.ev, LV.flat, ite_true, ite_false, exists_eq_left', exists_eq_left, keyOf, implies_true, fillC, capOf]
        rw [hfp, if_neg (by simp), List.append_nil] at hstep
        rw [← hstep] at b3 bu
        exact ⟨m - 1, by omega, i + 1, u, by omega, hpre, b1, b2, b3, b4, bu, hu, f1, f2, f4, f5, eqI (natI _)⟩
      · rw [decide_eq_false hm] at hfp ⊢
        simp (disch := omega) only [f1, f2, f4, f5, f6, b3.cell, hci, Cell.row, splice, ↓SXd, SXu, slBounds, ↓sop, ↓aop, ↓reduceIte, LV.cells, AOp.dst, LV.I, LV.B, LV.U, LV.S, LV.nil, Nat.reduceEqDiff, Nat.reduceAdd, Nat.reduceMul, Nat.reduceSub, Nat.reduceLeDiff, Nat.reduceBEq, Nat.reduceDiv, Nat.reduceMod, Int.reduceToNat, Int.reduceLT, Int.reduceLE, Int.reduceAdd, Int.reduceSub, Int.reduceMul, Int.reduceEq, Int.reduceNeg, reduceCtorEq, resV, resAll, ARes.ev, LV.flat, ite_true, ite_false, exists_eq_left', exists_eq_left, keyOf, implies_true, fillC, capOf]
        rw [hfp, if_pos (by rfl)] at hstep
        refine appendK_cell bu (by omega) fun N' l1 l2 l3 => ?_
        have hl4 := b4.lt
        have d3 := live_step b3 (by omega) l3
        simp (disch := omega) only [f1, f2, f4, f5, f6, ↓SXd, SXu, slBounds, ↓sop, ↓aop, ↓reduceIte, LV.cells, AOp.dst, LV.I, LV.B, LV.U, LV.S, LV.nil, Nat.reduceEqDiff, Nat.reduceAdd, Nat.reduceMul, Nat.reduceSub, Nat.reduceLeDiff, Nat.reduceBEq, Nat.reduceDiv, Nat.reduceMod, Int.reduceToNat, Int.reduceLT, Int.reduceLE, Int.reduceAdd, Int.reduceSub, Int.reduceMul, Int.reduceEq, Int.reduceNeg, reduceCtorEq, resV, resAll, ARes.ev, LV.flat, ite_true, ite_false, exists_eq_left', exists_eq_left, keyOf, implies_true, fillC, capOf]
        refine memK_one d3 (by simp) fun N3 j1 j2 j3 => ?_
        simp (disch := omega) only [f1, f2, f4, f5, f6, ↓SXd, SXu, slBounds, ↓sop, ↓aop, ↓reduceIte, LV.cells, AOp.dst, LV.I, LV.B, LV.U, LV.S, LV.nil, Nat.reduceEqDiff, Nat.reduceAdd, Nat.reduceMul, Nat.reduceSub, Nat.reduceLeDiff, Nat.reduceBEq, Nat.reduceDiv, Nat.reduceMod, Int.reduceToNat, Int.reduceLT, Int.reduceLE, Int.reduceAdd, Int.reduceSub, Int.reduceMul, Int.reduceEq, Int.reduceNeg, reduceCtorEq, resV, resAll, ARes.ev, LV.flat, ite_true, ite_false, exists_eq_left', exists_eq_left, keyOf, implies_true, fillC, capOf]
        rw [cell_eta, ← hstep] at l2 j2
        exact ⟨m - 1, by omega, i + 1, M'.length + 1, by omega, pre_step (pre_step hpre (by omega) l1 l3) (by omega) (j := 0) j1 j3, live_step (live_step b1 (by omega) l3) (by omega) j3, live_step (live_step b2 (by omega) l3) (by omega) j3, j2, live_step (live_step b4 (by omega) l3) (by omega) j3, live_step l2 (by omega) j3, by omega, f1, f2, f4, f5, eqI (natI _)⟩
    · simp (disch := omega) only [f1, f2, f4, f5, f6, b3.cells, ↓SXd, SXu, slBounds, ↓sop, ↓aop, ↓reduceIte, LV.cells, AOp.dst, LV.I, LV.B, LV.U, LV.S, LV.nil, Nat.reduceEqDiff, Nat.reduceAdd, Nat.reduceMul, Nat.reduceSub, Nat.reduceLeDiff, Nat.reduceBEq, Nat.reduceDiv, Nat.reduceMod, Int.reduceToNat, Int.reduceLT, Int.reduceLE, Int.reduceAdd, Int.reduceSub, Int.reduceMul, Int.reduceEq, Int.reduceNeg, reduceCtorEq, resV, resAll, ARes.ev, LV.flat, ite_true, ite_false, exists_eq_left', exists_eq_left, keyOf, implies_true, fillC, capOf]
      have : i = (cellsOf x y z).length := by omega
      subst this
      rw [List.take_length] at b3 bu
      change Live M' u (.row (triL (pick x y z (freeP cs))) true 3) at bu
      refine memK_box b2 (by simp) fun N3 k1 k2 k3 => ?_
      simp (disch := omega) only [f1, f2, f4, f5, f6, k2.cells, ↓SXd, SXu, slBounds, ↓sop, ↓aop, ↓reduceIte, LV.cells, AOp.dst, LV.I, LV.B, LV.U, LV.S, LV.nil, Nat.reduceEqDiff, Nat.reduceAdd, Nat.reduceMul, Nat.reduceSub, Nat.reduceLeDiff, Nat.reduceBEq, Nat.reduceDiv, Nat.reduceMod, Int.reduceToNat, Int.reduceLT, Int.reduceLE, Int.reduceAdd, Int.reduceSub, Int.reduceMul, Int.reduceEq, Int.reduceNeg, reduceCtorEq, resV, resAll, ARes.ev, LV.flat, ite_true, ite_false, exists_eq_left', exists_eq_left, keyOf, implies_true, fillC, capOf]
      exact ⟨fun _ => ⟨u, by rw [List.take_length]; rfl, live_step bu (by omega) k3, by omega⟩, fun hno => absurd hH hno, pre_step hpre (by omega) (j := 0) k1 k3⟩
  · rw [decide_eq_false hH]
    simp (disch := omega) only [splice, ↓SXd, SXu, slBounds, ↓sop, ↓aop, ↓reduceIte, LV.cells, AOp.dst, LV.I, LV.B, LV.U, LV.S, LV.nil, Nat.reduceEqDiff, Nat.reduceAdd, Nat.reduceMul, Nat.reduceSub, Nat.reduceLeDiff, Nat.reduceBEq, Nat.reduceDiv, Nat.reduceMod, Int.reduceToNat, Int.reduceLT, Int.reduceLE, Int.reduceAdd, Int.reduceSub, Int.reduceMul, Int.reduceEq, Int.reduceNeg, reduceCtorEq, resV, resAll, ARes.ev, LV.flat, ite_true, ite_false, exists_eq_left', exists_eq_left, keyOf, implies_true, fillC, capOf]
    exact ⟨fun hh => absurd hh hH, fun _ => rfl, Pre.app _ _⟩
end
def stackP (y : Int) (hs : List Int) (c : Cell) : Bool := decide (c.c < hs.getD (c.a * y + c.b).toNat 0)
theorem h_l2Stack {x y z : Int} {u q : Nat} {hs : List Int} {M : Mem} (hS : Sides x y z) (hX : Ints M u q hs) (hl : (hs.length : Int) = x * y) : CallsR PG F.spec_l2Stack [.I x, .I y, .I z, .ref u q hs.length] M fun v N => ∃ w, v = .agg [.I x, .I y, .I z, .ref w 0 (pick x y z (stackP y hs)).length] ∧ Live N w (.row (triL (pick x y z (stackP y hs))) true 3) ∧ M.length ≤ w ∧ Pre M N := by
  have hv := vol_cast hS
  have hul := hX.lt
  have hcl : (cellsOf x y z).length = vol x y z := by simp [cellsOf]
  obtain ⟨⟨_, _⟩, ⟨_, _⟩, ⟨_, _⟩⟩ := id hS
  refine callsR_run K.spec_l2Stack rfl ?_
  simp (disch := omega) only [C.spec_l2Stack, ↓SXd, SXu, slBounds, ↓sop, ↓aop, ↓reduceIte, LV.cells, AOp.dst, LV.I, LV.B, LV.U, LV.S, LV.nil, Nat.reduceEqDiff, Nat.reduceAdd, Nat.reduceMul, Nat.reduceSub, Nat.reduceLeDiff, Nat.reduceBEq, Nat.reduceDiv, Nat.reduceMod, Int.reduceToNat, Int.reduceLT, Int.reduceLE, Int.reduceAdd, Int.reduceSub, Int.reduceMul, Int.reduceEq, Int.reduceNeg, reduceCtorEq, resV, resAll, ARes.ev, LV.flat, ite_true, ite_false, exists_eq_left', exists_eq_left, keyOf, implies_true, fillC, capOf]
  refine callK_of (h_l2Empty) ?_
  simp (disch := omega) only [splice, ↓SXd, SXu, slBounds, ↓sop, ↓aop, ↓reduceIte, LV.cells, AOp.dst, LV.I, LV.B, LV.U, LV.S, LV.nil, Nat.reduceEqDiff, Nat.reduceAdd, Nat.reduceMul, Nat.reduceSub, Nat.reduceLeDiff, Nat.reduceBEq, Nat.reduceDiv, Nat.reduceMod, Int.reduceToNat, Int.reduceLT, Int.reduceLE, Int.reduceAdd, Int.reduceSub, Int.reduceMul, Int.reduceEq, Int.reduceNeg, reduceCtorEq, resV, resAll, ARes.ev, LV.flat, ite_true, ite_false, exists_eq_left', exists_eq_left, keyOf, implies_true, fillC, capOf]
  refine callK_of (h_l2All hS) ?_
  simp (disch := omega) only [splice, ↓SXd, SXu, slBounds, ↓sop, ↓aop, ↓reduceIte, LV.cells, AOp.dst, LV.I, LV.B, LV.U, LV.S, LV.nil, Nat.reduceEqDiff, Nat.reduceAdd, Nat.reduceMul, Nat.reduceSub, Nat.reduceLeDiff, Nat.reduceBEq, Nat.reduceDiv, Nat.reduceMod, Int.reduceToNat, Int.reduceLT, Int.reduceLE, Int.reduceAdd, Int.reduceSub, Int.reduceMul, Int.reduceEq, Int.reduceNeg, reduceCtorEq, resV, resAll, ARes.ev, LV.flat, ite_true, ite_false, exists_eq_left', exists_eq_left, keyOf, implies_true, fillC, capOf]
  refine ev_loop (fun m fr1 M' => ∃ i u' : Nat, i + m = (cellsOf x y z).length ∧ Pre M M' ∧ Live M' M.length (.row [.I 0, .I 0, .I 0, .nil] true 0) ∧
    Live M' (M.length + 2) (.row [.I x, .I y, .I z, .ref u' 0 (((cellsOf x y z).take i).filter (stackP y hs)).length] true 0) ∧ Live M' (M.length + 3) (.row (triL (cellsOf x y z)) true 3) ∧ Live M' u' (.row (triL (((cellsOf x y z).take i).filter (stackP y hs))) true 3) ∧ (u' = M.length + 1 ∨ M.length + 3 < u') ∧
    fr1 1 = .I y ∧ fr1 3 = .ref u q hs.length ∧ fr1 8 = .ptr M.length 0 ∧ fr1 9 = .ptr (M.length + 2) 0 ∧ fr1 10 = .ref (M.length + 3) 0 (cellsOf x y z).length ∧ fr1 11 = .I i) (cellsOf x y z).length
    ⟨0, M.length + 1, by omega, Pre.app _ _, Live.new, Live.newj rfl, Live.newj rfl, Live.newj rfl, .inl rfl, rfl, rfl, rfl, rfl, rfl, rfl⟩ ?_
  rintro m fr1 M' ⟨i, u', hi, hpre, b2, b3, b4, bu, hu, f1, f3, f8, f9, f10, f11⟩
  simp (disch := omega) only [f1, f3, f8, f9, f10, f11, ↓SXd, SXu, slBounds, ↓sop, ↓aop, ↓reduceIte, LV.cells, AOp.dst, LV.I, LV.B, LV.U, LV.S, LV.nil, Nat.reduceEqDiff, Nat.reduceAdd, Nat.reduceMul, Nat.reduceSub, Nat.reduceLeDiff, Nat.reduceBEq, Nat.reduceDiv, Nat.reduceMod, Int.reduceToNat, Int.reduceLT, Int.reduceLE, Int.reduceAdd, Int.reduceSub, Int.reduceMul, Int.reduceEq, Int.reduceNeg, reduceCtorEq, resV, resAll, ARes.ev, LV.flat, ite_true, ite_false, exists_eq_left', exists_eq_left, keyOf, implies_true, fillC, capOf]
  refine condC_dec (fun hlt => ?_) (fun hlt => ?_)
  · have hil : i < (cellsOf x y z).length := by omega
    have hci := b4.tri0 hil
    have ga := Tri.get_a b4.has hil
    have gb := Tri.get_b b4.has hil
    have gc := Tri.get_c b4.has hil
    have hcin := (mem_cellsOf hS).1 (getD_mem' (d := default) hil)
    have hts := take_snoc' (d := default) hil
    have hal : (((cellsOf x y z).take i).filter (stackP y hs)).length ≤ 64 := by
      have q1 := List.length_filter_le (stackP y hs) ((cellsOf x y z).take i)
      have q2 := List.length_take_le i (cellsOf x y z)
      omega
    generalize (cellsOf x y z).getD i default = c at hci hts ga gb gc hcin
    have hstep : ((cellsOf x y z).take (i + 1)).filter (stackP y hs) = ((cellsOf x y z).take i).filter (stackP y hs) ++ (if stackP y hs c then [c] else []) := by
      rw [hts, List.filter_append, List.filter_cons, List.filter_nil]
    rw [Nat.zero_add] at ga gb gc
    obtain ⟨⟨_, _⟩, ⟨_, _⟩, ⟨_, _⟩⟩ := id hcin
    have hpk : 0 ≤ c.a * y + c.b ∧ c.a * y + c.b < x * y ∧ 0 ≤ c.a * y ∧ c.a * y ≤ 12 := by
      rcases (show y = 1 ∨ y = 2 ∨ y = 3 ∨ y = 4 by omega) with rfl | rfl | rfl | rfl <;> omega
    obtain ⟨_, _, _, _⟩ := hpk
    have hkl : (c.a * y + c.b).toNat < hs.length := by omega
    have hx := Ints.get (hX.pre hpre) hkl
    have hidx : ((c.a * y + c.b).toNat : Int) = c.a * y + c.b := by omega
    have hfp : stackP y hs c = decide (c.c < hs.getD (c.a * y + c.b).toNat 0) := rfl
    generalize hs.getD (c.a * y + c.b).toNat 0 = hh at hx hfp
    by_cases hm : c.c < hh
    · rw [decide_eq_true hm] at hfp
      simp (disch := omega) only [f1, f3, f8, f9, f10, f11, ga, gb, gc, Nat.add_zero, Nat.mul_one, hx, hm, b3.cell, hci, Cell.row, splice, ↓SXd, SXu, slBounds, ↓sop, ↓aop, ↓reduceIte, LV.cells, AOp.dst, LV.I, LV.B, LV.U, LV.S, LV.nil, Nat.reduceEqDiff, Nat.reduceAdd, Nat.reduceMul, Nat.reduceSub, Nat.reduceLeDiff, Nat.reduceBEq, Nat.reduceDiv, Nat.reduceMod, Int.reduceToNat, Int.reduceLT, Int.reduceLE, Int.reduceAdd, Int.reduceSub, Int.reduceMul, Int.reduceEq, Int.reduceNeg, reduceCtorEq, resV, resAll, ARes.ev, LV.flat, ite_true, ite_false, exists_eq_left', exists_eq_left, keyOf, implies_true, fillC, capOf]
      rw [hfp, if_pos (by rfl)] at hstep
      refine appendK_cell bu (by omega) fun N' l1 l2 l3 => ?_
      have hl4 := b4.lt
      have d3 := live_step b3 (by omega) l3
      simp (disch := omega) only [f1, f3, f8, f9, f10, f11, ↓SXd, SXu, slBounds, ↓sop, ↓aop, ↓reduceIte, LV.cells, AOp.dst, LV.I, LV.B, LV.U, LV.S, LV.nil, Nat.reduceEqDiff, Nat.reduceAdd, Nat.reduceMul, Nat.reduceSub, Nat.reduceLeDiff, Nat.reduceBEq, Nat.reduceDiv, Nat.reduceMod, Int.reduceToNat, Int.reduceLT, Int.reduceLE, Int.reduceAdd, Int.reduceSub, Int.reduceMul, Int.reduceEq, Int.reduceNeg, reduceCtorEq, resV, resAll, ARes.ev, LV.flat, ite_true, ite_false, exists_eq_left', exists_eq_left, keyOf, implies_true, fillC, capOf]
      refine memK_one d3 (by simp) fun N3 j1 j2 j3 => ?_
      simp (disch := omega) only [f1, f3, f8, f9, f10, f11, ↓SXd, SXu, slBounds, ↓sop, ↓aop, ↓reduceIte, LV.cells, AOp.dst, LV.I, LV.B, LV.U, LV.S, LV.nil, Nat.reduceEqDiff, Nat.reduceAdd, Nat.reduceMul, Nat.reduceSub, Nat.reduceLeDiff, Nat.reduceBEq, Nat.reduceDiv, Nat.reduceMod, Int.reduceToNat, Int.reduceLT, Int.reduceLE, Int.reduceAdd, Int.reduceSub, Int.reduceMul, Int.reduceEq, Int.reduceNeg, reduceCtorEq, resV, resAll, ARes.ev, LV.flat, ite_true, ite_false, exists_eq_left', exists_eq_left, keyOf, implies_true, fillC, capOf]
      rw [cell_eta, ← hstep] at l2 j2
      exact ⟨m - 1, by omega, i + 1, M'.length + 1, by omega, pre_step (pre_step hpre (by omega) l1 l3) (by omega) (j := 0) j1 j3, live_step (live_step b2 (by omega) l3) (by omega) j3, j2, live_step (live_step b4 (by omega) l3) (by omega) j3, live_step l2 (by omega) j3, by omega, f1, f3, f8, f9, f10, eqI (natI _)⟩
    · rw [decide_eq_false hm] at hfp
      simp (disch := omega) only [f1, f3, f8, f9, f10, f11, ga, gb, gc, Nat.add_zero, Nat.mul_one, hx, hm, ↓SXd, SXu, slBounds, ↓sop, ↓aop, ↓reduceIte, LV.cells, AOp.dst, LV.I, LV.B, LV.U, LV.S, LV.nil, Nat.reduceEqDiff, Nat.reduceAdd, Nat.reduceMul, Nat.reduceSub, Nat.reduceLeDiff, Nat.reduceBEq, Nat.reduceDiv, Nat.reduceMod, Int.reduceToNat, Int.reduceLT, Int.reduceLE, Int.reduceAdd, Int.reduceSub, Int.reduceMul, Int.reduceEq, Int.reduceNeg, reduceCtorEq, resV, resAll, ARes.ev, LV.flat, ite_true, ite_false, exists_eq_left', exists_eq_left, keyOf, implies_true, fillC, capOf]
      rw [hfp, if_neg (by simp), List.append_nil] at hstep
      rw [← hstep] at b3 bu
      exact ⟨m - 1, by omega, i + 1, u', by omega, hpre, b2, b3, b4, bu, hu, f1, f3, f8, f9, f10, eqI (natI _)⟩
  · simp (disch := omega) only [f1, f3, f8, f9, f10, f11, b3.cells, ↓SXd, SXu, slBounds, ↓sop, ↓aop, ↓reduceIte, LV.cells, AOp.dst, LV.I, LV.B, LV.U, LV.S, LV.nil, Nat.reduceEqDiff, Nat.reduceAdd, Nat.reduceMul, Nat.reduceSub, Nat.reduceLeDiff, Nat.reduceBEq, Nat.reduceDiv, Nat.reduceMod, Int.reduceToNat, Int.reduceLT, Int.reduceLE, Int.reduceAdd, Int.reduceSub, Int.reduceMul, Int.reduceEq, Int.reduceNeg, reduceCtorEq, resV, resAll, ARes.ev, LV.flat, ite_true, ite_false, exists_eq_left', exists_eq_left, keyOf, implies_true, fillC, capOf]
    have : i = (cellsOf x y z).length := by omega
    subst this
    rw [List.take_length] at b3 bu
    change Live M' u' (.row (triL (pick x y z (stackP y hs))) true 3) at bu
    refine memK_box b2 (by simp) fun N3 k1 k2 k3 => ?_
    simp (disch := omega) only [f1, f3, f8, f9, f10, f11, k2.cells, ↓SXd, SXu, slBounds, ↓sop, ↓aop, ↓reduceIte, LV.cells, AOp.dst, LV.I, LV.B, LV.U, LV.S, LV.nil, Nat.reduceEqDiff, Nat.reduceAdd, Nat.reduceMul, Nat.reduceSub, Nat.reduceLeDiff, Nat.reduceBEq, Nat.reduceDiv, Nat.reduceMod, Int.reduceToNat, Int.reduceLT, Int.reduceLE, Int.reduceAdd, Int.reduceSub, Int.reduceMul, Int.reduceEq, Int.reduceNeg, reduceCtorEq, resV, resAll, ARes.ev, LV.flat, ite_true, ite_false, exists_eq_left', exists_eq_left, keyOf, implies_true, fillC, capOf]
    exact ⟨u', by rw [List.take_length]; rfl, live_step bu (by omega) k3, by omega, pre_step hpre (by omega) (j := 0) k1 k3⟩
end Go.Ab

/- The abstract code of some functions (written by a program of mine from the translation, by way of prepF). -/
namespace Go.Ab.C
open Go.Ab
end Go.Ab.C

/- That the program has this code. -/
namespace Go.Ab.K
open Go Go.Ab
end Go.Ab.K

/- Contracts: full boxes of the reference. -/
namespace Go.Ab
open Go
set_option linter.unusedSimpArgs false
set_option linter.unusedVariables false
set_option maxRecDepth 20000

/-- A heap as a value, all of whose cells are new. -/
def HeapV (M : Mem) (x y z : Int) (cs : List Cell) (v : LV) (N : Mem) : Prop := ∃ u : Nat, v = .agg [.I x, .I y, .I z, .ref u 0 cs.length] ∧ Live N u (.row (triL cs) true 3) ∧ M.length ≤ u
end Go.Ab

/- Contracts: pieces that fit, places, boxes, parities: the reference's side. -/
namespace Go.Ab
open Go
set_option linter.unusedSimpArgs false
set_option linter.unusedVariables false
set_option maxRecDepth 20000

theorem PieceOK.le {l : List Cell} (h : PieceOK l) : l.length ≤ 5 := h.1.2
def FitQ (x y z : Int) (cs l : List Cell) : Prop := HeapOK x y z cs ∧ PieceOK l
noncomputable def fitOf (x y z : Int) (cs l : List Cell) (p : Cell) : Option Bool := by
  classical
  exact if FitQ x y z cs l then some (decide (FitsP x y z cs l p)) else none
noncomputable def placesOf (x y z : Int) (cs l : List Cell) : Option (List Cell) := by
  classical
  exact if FitQ x y z cs l then some (pick x y z fun c => decide (FitsP x y z cs l c)) else none
noncomputable def boxOf (x y z : Int) : Option (List Cell) := by
  classical
  exact if Sides x y z ∧ vol x y z ≤ 5 then some (cellsOf x y z) else none
noncomputable def ppOf (l : List Cell) : Option Int := by
  classical
  exact if PieceOK l then some (max (parL l) (0 - parL l)) else none
noncomputable def fpOf (x y z : Int) (cs : List Cell) : Option Int := by
  classical
  exact if HeapOK x y z cs then some (parL (pick x y z (freeP cs))) else none
section
variable {x y z : Int} {t o u q : Nat} {cs l : List Cell} {M : Mem} (h : Tri M t o cs) (hn : cs.length ≤ 1000000000) (hl : Tri M u q l) (hln : l.length ≤ 1000000000)
include hl hln
include h hn
end
end Go.Ab

/- Contracts: pieces that fit, places, boxes, parities, other cells: the program's side. -/
namespace Go.Ab
open Go
set_option linter.unusedSimpArgs false
set_option linter.unusedVariables false
set_option maxRecDepth 20000

noncomputable instance {x y z : Int} {cs l : List Cell} : Decidable (FitQ x y z cs l) := Classical.propDecidable _
section
variable {x y z : Int} {t o u q : Nat} {cs l : List Cell} {M : Mem} (h : Tri M t o cs) (hn : cs.length ≤ 1000000000) (hl : Tri M u q l) (hln : l.length ≤ 1000000000)
include hl hln
include h hn
end
end Go.Ab

/- Plain: boxes as pieces; parities of all cells; places. -/
namespace Go.Ab
open Go
set_option linter.unusedSimpArgs false
set_option linter.unusedVariables false
set_option maxRecDepth 20000

end Go.Ab

/- Contracts: the law of pieces' helpers. -/
namespace Go.Ab
open Go
set_option linter.unusedSimpArgs false
set_option linter.unusedVariables false
set_option maxRecDepth 20000

theorem CellsV.lenV {N : Mem} {v : LV} {l : List Cell} (h : CellsV N v l) : lenV v = some (l.length : Int) := by
  rcases h with ⟨rfl, rfl⟩ | ⟨t, o, rfl, _⟩ <;> rfl
theorem CellsV.at {N : Mem} {v : LV} {l : List Cell} {k : Nat} (h : CellsV N v l) (hk : k < l.length) : ∃ t o, v = .ref t o l.length ∧ getCells N t (o + k * 3) 3 = some (l.getD k default).row := by
  rcases h with ⟨rfl, rfl⟩ | ⟨t, o, rfl, h⟩
  · simp at hk
  · exact ⟨t, o, rfl, Tri.get h hk⟩
theorem list_ext {α : Type} {l l' : List α} {d : α} (hl : l.length = l'.length) (h : ∀ j, j < l.length → l.getD j d = l'.getD j d) : l = l' := by
  apply List.ext_getElem hl
  intro i h2 h3
  have := h i h2
  simpa [h2, h3] using this
theorem k_vCells {l l' : List Cell} {v v' : LV} {M : Mem} (h : CellsV M v l) (h' : CellsV M v' l') (hn : l.length ≤ 1000000000) (hn' : l'.length ≤ 1000000000) : CallsTo PG F.laws_vCells [v, v'] M (.B (decide (l = l'))) M := by
  refine calls_run K.laws_vCells rfl ?_
  have hv := h.lenV
  have hv' := h'.lenV
  by_cases hl : (l.length : Int) = l'.length
  rotate_left
  · rw [decide_eq_false (fun e => hl (by rw [e]))]
    simp (disch := omega) only [C.laws_vCells, hv, hv', hl, ↓SXd, SXu, slBounds, ↓sop, ↓aop, ↓reduceIte, LV.cells, AOp.dst, LV.I, LV.B, LV.U, LV.S, LV.nil, Nat.reduceEqDiff, Nat.reduceAdd, Nat.reduceMul, Nat.reduceSub, Nat.reduceLeDiff, Nat.reduceBEq, Nat.reduceDiv, Nat.reduceMod, Int.reduceToNat, Int.reduceLT, Int.reduceLE, Int.reduceAdd, Int.reduceSub, Int.reduceMul, Int.reduceEq, Int.reduceNeg, reduceCtorEq, resV, resAll, ARes.ev, LV.flat, ite_true, ite_false, exists_eq_left', exists_eq_left, keyOf, implies_true, fillC, capOf]
    exact cmp_drop0 rfl
  have hln : l.length = l'.length := by omega
  simp (disch := omega) only [C.laws_vCells, hv, hv', hl, ↓SXd, SXu, slBounds, ↓sop, ↓aop, ↓reduceIte, LV.cells, AOp.dst, LV.I, LV.B, LV.U, LV.S, LV.nil, Nat.reduceEqDiff, Nat.reduceAdd, Nat.reduceMul, Nat.reduceSub, Nat.reduceLeDiff, Nat.reduceBEq, Nat.reduceDiv, Nat.reduceMod, Int.reduceToNat, Int.reduceLT, Int.reduceLE, Int.reduceAdd, Int.reduceSub, Int.reduceMul, Int.reduceEq, Int.reduceNeg, reduceCtorEq, resV, resAll, ARes.ev, LV.flat, ite_true, ite_false, exists_eq_left', exists_eq_left, keyOf, implies_true, fillC, capOf]
  refine ev_loop (fun m fr M' => ∃ k : Nat, k + m = l.length ∧ M' = M ∧ fr 0 = v ∧ fr 1 = v' ∧ fr 5 = .I k ∧ ∀ j, j < k → l.getD j default = l'.getD j default) l.length ⟨0, by omega, rfl, rfl, rfl, rfl, by omega⟩ ?_
  rintro m fr M' ⟨k, hk, rfl, h0, h1, h5, hj⟩
  simp (disch := omega) only [h0, h1, h5, hv, ↓SXd, SXu, slBounds, ↓sop, ↓aop, ↓reduceIte, LV.cells, AOp.dst, LV.I, LV.B, LV.U, LV.S, LV.nil, Nat.reduceEqDiff, Nat.reduceAdd, Nat.reduceMul, Nat.reduceSub, Nat.reduceLeDiff, Nat.reduceBEq, Nat.reduceDiv, Nat.reduceMod, Int.reduceToNat, Int.reduceLT, Int.reduceLE, Int.reduceAdd, Int.reduceSub, Int.reduceMul, Int.reduceEq, Int.reduceNeg, reduceCtorEq, resV, resAll, ARes.ev, LV.flat, ite_true, ite_false, exists_eq_left', exists_eq_left, keyOf, implies_true, fillC, capOf]
  refine condC_dec (fun hlt => ?_) (fun hlt => ?_)
  · obtain ⟨t, o, rfl, hg⟩ := h.at (k := k) (by omega)
    obtain ⟨t', o', rfl, hg'⟩ := h'.at (k := k) (by omega)
    simp (disch := omega) only [h0, h1, h5, hg, hg', Cell.row, eqV, eqC, if_true, ite_true, Bool.and_true, ↓SXd, SXu, slBounds, ↓sop, ↓aop, ↓reduceIte, LV.cells, AOp.dst, LV.I, LV.B, LV.U, LV.S, LV.nil, Nat.reduceEqDiff, Nat.reduceAdd, Nat.reduceMul, Nat.reduceSub, Nat.reduceLeDiff, Nat.reduceBEq, Nat.reduceDiv, Nat.reduceMod, Int.reduceToNat, Int.reduceLT, Int.reduceLE, Int.reduceAdd, Int.reduceSub, Int.reduceMul, Int.reduceEq, Int.reduceNeg, reduceCtorEq, resV, resAll, ARes.ev, LV.flat, ite_true, ite_false, exists_eq_left', exists_eq_left, keyOf, implies_true, fillC, capOf]
    rw [beq3]
    by_cases he : l.getD k default = l'.getD k default
    · simp (disch := omega) only [h0, h1, h5, he, ↓SXd, SXu, slBounds, ↓sop, ↓aop, ↓reduceIte, LV.cells, AOp.dst, LV.I, LV.B, LV.U, LV.S, LV.nil, Nat.reduceEqDiff, Nat.reduceAdd, Nat.reduceMul, Nat.reduceSub, Nat.reduceLeDiff, Nat.reduceBEq, Nat.reduceDiv, Nat.reduceMod, Int.reduceToNat, Int.reduceLT, Int.reduceLE, Int.reduceAdd, Int.reduceSub, Int.reduceMul, Int.reduceEq, Int.reduceNeg, reduceCtorEq, resV, resAll, ARes.ev, LV.flat, ite_true, ite_false, exists_eq_left', exists_eq_left, keyOf, implies_true, fillC, capOf]
      exact ⟨m - 1, by omega, k + 1, by omega, rfl, h0, h1, eqI (natI _), fun j hj1 => by
        rcases Nat.lt_or_ge j k with h2 | h2
        · exact hj j h2
        · rw [show j = k by omega]; exact he⟩
    · simp (disch := omega) only [h0, h1, h5, he, ↓SXd, SXu, slBounds, ↓sop, ↓aop, ↓reduceIte, LV.cells, AOp.dst, LV.I, LV.B, LV.U, LV.S, LV.nil, Nat.reduceEqDiff, Nat.reduceAdd, Nat.reduceMul, Nat.reduceSub, Nat.reduceLeDiff, Nat.reduceBEq, Nat.reduceDiv, Nat.reduceMod, Int.reduceToNat, Int.reduceLT, Int.reduceLE, Int.reduceAdd, Int.reduceSub, Int.reduceMul, Int.reduceEq, Int.reduceNeg, reduceCtorEq, resV, resAll, ARes.ev, LV.flat, ite_true, ite_false, exists_eq_left', exists_eq_left, keyOf, implies_true, fillC, capOf]
      rw [decide_eq_false (fun e => he (by rw [e]))]
      exact cmp_drop0 rfl
  · simp (disch := omega) only [h0, h1, h5, ↓SXd, SXu, slBounds, ↓sop, ↓aop, ↓reduceIte, LV.cells, AOp.dst, LV.I, LV.B, LV.U, LV.S, LV.nil, Nat.reduceEqDiff, Nat.reduceAdd, Nat.reduceMul, Nat.reduceSub, Nat.reduceLeDiff, Nat.reduceBEq, Nat.reduceDiv, Nat.reduceMod, Int.reduceToNat, Int.reduceLT, Int.reduceLE, Int.reduceAdd, Int.reduceSub, Int.reduceMul, Int.reduceEq, Int.reduceNeg, reduceCtorEq, resV, resAll, ARes.ev, LV.flat, ite_true, ite_false, exists_eq_left', exists_eq_left, keyOf, implies_true, fillC, capOf]
    rw [decide_eq_true (list_ext hln fun j hj1 => hj j (by omega))]
    exact cmp_drop0 rfl
theorem k_vIn {l : List Cell} {v : LV} {c : Cell} {M : Mem} (h : CellsV M v l) (hn : l.length ≤ 1000000000) : CallsTo PG F.laws_vIn [v, .agg [.I c.a, .I c.b, .I c.c]] M (.B (decide (c ∈ l))) M := by
  refine calls_run K.laws_vIn rfl ?_
  have hv := h.lenV
  simp (disch := omega) only [C.laws_vIn, ↓SXd, SXu, slBounds, ↓sop, ↓aop, ↓reduceIte, LV.cells, AOp.dst, LV.I, LV.B, LV.U, LV.S, LV.nil, Nat.reduceEqDiff, Nat.reduceAdd, Nat.reduceMul, Nat.reduceSub, Nat.reduceLeDiff, Nat.reduceBEq, Nat.reduceDiv, Nat.reduceMod, Int.reduceToNat, Int.reduceLT, Int.reduceLE, Int.reduceAdd, Int.reduceSub, Int.reduceMul, Int.reduceEq, Int.reduceNeg, reduceCtorEq, resV, resAll, ARes.ev, LV.flat, ite_true, ite_false, exists_eq_left', exists_eq_left, keyOf, implies_true, fillC, capOf]
  refine ev_loop (fun m fr M' => ∃ k : Nat, k + m = l.length ∧ Pre M M' ∧ Live M' M.length (.row c.row true 0) ∧ fr 0 = v ∧ fr 3 = .ptr M.length 0 ∧ fr 5 = .I k ∧ ∀ j, j < k → l.getD j default ≠ c) l.length ⟨0, by omega, Pre.app _ _, Live.new, rfl, rfl, rfl, by omega⟩ ?_
  rintro m fr M' ⟨k, hk, hpre, b3, h0, h3, h5, hj⟩
  simp (disch := omega) only [h0, h3, h5, hv, ↓SXd, SXu, slBounds, ↓sop, ↓aop, ↓reduceIte, LV.cells, AOp.dst, LV.I, LV.B, LV.U, LV.S, LV.nil, Nat.reduceEqDiff, Nat.reduceAdd, Nat.reduceMul, Nat.reduceSub, Nat.reduceLeDiff, Nat.reduceBEq, Nat.reduceDiv, Nat.reduceMod, Int.reduceToNat, Int.reduceLT, Int.reduceLE, Int.reduceAdd, Int.reduceSub, Int.reduceMul, Int.reduceEq, Int.reduceNeg, reduceCtorEq, resV, resAll, ARes.ev, LV.flat, ite_true, ite_false, exists_eq_left', exists_eq_left, keyOf, implies_true, fillC, capOf]
  refine condC_dec (fun hlt => ?_) (fun hlt => ?_)
  · obtain ⟨t, o, rfl, hg⟩ := (h.pre hpre).at (k := k) (by omega)
    simp (disch := omega) only [h0, h3, h5, hg, b3.cells, Cell.row, eqV, eqC, if_true, ite_true, Bool.and_true, ↓SXd, SXu, slBounds, ↓sop, ↓aop, ↓reduceIte, LV.cells, AOp.dst, LV.I, LV.B, LV.U, LV.S, LV.nil, Nat.reduceEqDiff, Nat.reduceAdd, Nat.reduceMul, Nat.reduceSub, Nat.reduceLeDiff, Nat.reduceBEq, Nat.reduceDiv, Nat.reduceMod, Int.reduceToNat, Int.reduceLT, Int.reduceLE, Int.reduceAdd, Int.reduceSub, Int.reduceMul, Int.reduceEq, Int.reduceNeg, reduceCtorEq, resV, resAll, ARes.ev, LV.flat, ite_true, ite_false, exists_eq_left', exists_eq_left, keyOf, implies_true, fillC, capOf]
    rw [beq3]
    by_cases he : l.getD k default = c
    · have hin : c ∈ l := by rw [← he]; exact getD_mem' (by omega)
      simp (disch := omega) only [h0, h3, h5, he, ↓SXd, SXu, slBounds, ↓sop, ↓aop, ↓reduceIte, LV.cells, AOp.dst, LV.I, LV.B, LV.U, LV.S, LV.nil, Nat.reduceEqDiff, Nat.reduceAdd, Nat.reduceMul, Nat.reduceSub, Nat.reduceLeDiff, Nat.reduceBEq, Nat.reduceDiv, Nat.reduceMod, Int.reduceToNat, Int.reduceLT, Int.reduceLE, Int.reduceAdd, Int.reduceSub, Int.reduceMul, Int.reduceEq, Int.reduceNeg, reduceCtorEq, resV, resAll, ARes.ev, LV.flat, ite_true, ite_false, exists_eq_left', exists_eq_left, keyOf, implies_true, fillC, capOf]
      rw [decide_eq_true hin]
      exact cmp_pre hpre rfl
    · simp (disch := omega) only [h0, h3, h5, he, ↓SXd, SXu, slBounds, ↓sop, ↓aop, ↓reduceIte, LV.cells, AOp.dst, LV.I, LV.B, LV.U, LV.S, LV.nil, Nat.reduceEqDiff, Nat.reduceAdd, Nat.reduceMul, Nat.reduceSub, Nat.reduceLeDiff, Nat.reduceBEq, Nat.reduceDiv, Nat.reduceMod, Int.reduceToNat, Int.reduceLT, Int.reduceLE, Int.reduceAdd, Int.reduceSub, Int.reduceMul, Int.reduceEq, Int.reduceNeg, reduceCtorEq, resV, resAll, ARes.ev, LV.flat, ite_true, ite_false, exists_eq_left', exists_eq_left, keyOf, implies_true, fillC, capOf]
      exact ⟨m - 1, by omega, k + 1, by omega, hpre, b3, h0, h3, eqI (natI _), fun j hj1 => by
        rcases Nat.lt_or_ge j k with h2 | h2
        · exact hj j h2
        · rw [show j = k by omega]; exact he⟩
  · simp (disch := omega) only [h0, h3, h5, ↓SXd, SXu, slBounds, ↓sop, ↓aop, ↓reduceIte, LV.cells, AOp.dst, LV.I, LV.B, LV.U, LV.S, LV.nil, Nat.reduceEqDiff, Nat.reduceAdd, Nat.reduceMul, Nat.reduceSub, Nat.reduceLeDiff, Nat.reduceBEq, Nat.reduceDiv, Nat.reduceMod, Int.reduceToNat, Int.reduceLT, Int.reduceLE, Int.reduceAdd, Int.reduceSub, Int.reduceMul, Int.reduceEq, Int.reduceNeg, reduceCtorEq, resV, resAll, ARes.ev, LV.flat, ite_true, ite_false, exists_eq_left', exists_eq_left, keyOf, implies_true, fillC, capOf]
    have hno : c ∉ l := fun hin => by
      obtain ⟨j, hjl, rfl⟩ := List.getElem_of_mem hin
      exact hj j (by omega) (by simp [hjl])
    rw [decide_eq_false hno]
    exact cmp_pre hpre rfl
end Go.Ab

/- The abstract code of some functions (written by a program of mine from the translation, by way of prepF). -/
namespace Go.Ab.C
open Go.Ab
end Go.Ab.C

/- That the program has this code. -/
namespace Go.Ab.K
open Go Go.Ab
end Go.Ab.K

/- Contracts: shadows of sets, the program's side. -/
namespace Go.Ab
open Go
set_option linter.unusedSimpArgs false
set_option linter.unusedVariables false
set_option maxRecDepth 20000

theorem keepL_pr {M N : Mem} (h : Pre M N) (ks : List Nat) : KeepL ks M N = True := by
  simp only [eq_iff_iff, iff_true]
  intro k _ b hb
  rw [h.2 k (by
    rcases Nat.lt_or_ge k M.length with h1 | h1
    · exact h1
    · rw [List.getElem?_eq_none h1] at hb; cases hb)]
  exact hb
def onesTo (k : Nat) (v : List Int) : List Int := onesL (v.take k) ++ v.drop k
end Go.Ab

/- Contracts: keys, taking orders and their number, the reference's side. -/
namespace Go.Ab
open Go
set_option linter.unusedSimpArgs false
set_option linter.unusedVariables false
set_option maxRecDepth 20000

/-- A list of cells and a truth value. -/
def CellsY (M : Mem) (r : Option (List Cell)) (v : LV) (N : Mem) : Prop := ∃ w, v = .tup [w, .B r.isSome] ∧ CellsV N w (r.getD []) ∧ Pre M N
theorem CellsRes.y {M N : Mem} {r : Option (List Cell)} {v : LV} (h : CellsRes M r v N) : CellsY M r v N := by
  obtain ⟨w, h1, h2, _, h3⟩ := h
  exact ⟨w, h1, h2.v, h3⟩
noncomputable def canB (x y z : Int) (cs : List Cell) (c : Cell) : Bool := stdB x y z cs && decide (c.inBox x y z)
noncomputable def canR (x y z : Int) (cs : List Cell) (c : Cell) : Bool := canB x y z cs c && canTake x y z (fun d => decide (d ∈ cs)) c
noncomputable def ordR (x y z : Int) (cs l : List Cell) : Bool := stdB x y z cs && tkOrd x y z cs l
noncomputable def tksB (x y z : Int) (cs : List Cell) : Bool := stdB x y z cs && decide (cs.length ≤ 8)
noncomputable def tksN (x y z : Int) (cs : List Cell) : Nat := if tksB x y z cs = true then tkN x y z cs.length (fun d => decide (d ∈ cs)) else 0

section
variable {x y z : Int} {t : Nat} {w : Bool} {cs : List Cell} {M : Mem} (h : Live M t (.row (triL cs) w 3)) (hn : cs.length ≤ 1000000000)
include h hn
end
end Go.Ab

/- Contracts: keys, taking orders, the program's side. Maps with sets as keys. -/
namespace Go.Ab
open Go
set_option linter.unusedSimpArgs false
set_option linter.unusedVariables false
set_option maxRecDepth 20000

section
variable {x y z : Int} {t : Nat} {w : Bool} {cs : List Cell} {M : Mem} (h : Live M t (.row (triL cs) w 3)) (hn : cs.length ≤ 1000000000)
include h hn
end

end Go.Ab

/- Contracts: the number of taking orders, with a map of what was counted. -/
namespace Go.Ab
open Go
set_option linter.unusedSimpArgs false
set_option linter.unusedVariables false
set_option maxRecDepth 20000

/-- A map from sets to numbers. -/
def memE (L : List (BitVec 64 × Int)) : List (LV × LV) := L.map fun q => (LV.W q.1, LV.I q.2)
/-- All blocks but one stay. -/
def But1 (t : Nat) (M N : Mem) : Prop := M.length ≤ N.length ∧ ∀ u, u ≠ t → u < M.length → N[u]? = M[u]?
theorem But1.trans {t : Nat} {M N N' : Mem} (h : But1 t M N) (k : But1 t N N') : But1 t M N' := ⟨Nat.le_trans h.1 k.1, fun u h1 h2 => by rw [k.2 u h1 (Nat.lt_of_lt_of_le h2 h.1)]; exact h.2 u h1 h2⟩
theorem But1.of {t : Nat} {M N : Mem} (h : Pre M N) : But1 t M N := ⟨h.1, fun u _ h2 => h.2 u h2⟩
theorem Live.but {t q : Nat} {M N : Mem} {b : Blk} (h : Live M q b) (k : But1 t M N) (h1 : q ≠ t) : Live N q b := Live.at h (k.2 q h1 h.lt)

section
variable {x y z : Int} (hS : Sides x y z)
include hS
end

/-- What the map says is true. -/
def MemoT (x y z : Int) (L : List (BitVec 64 × Int)) : Prop := (∃ q ∈ L, q.1 = 0#64) ∧ ∀ q ∈ L, ∀ p : Cell → Bool, q.1 = bs x y z p → q.2 = (tkN x y z (pick x y z p).length p : Nat)

end Go.Ab

/- A nil slice may be taken for an empty one that lies nowhere. -/
namespace Go.Ab
open Go

def Den1 (t : Nat) (a b : LV) : Prop := a = b ∨ (a = .nil ∧ b = .ref t 0 0)
def Den0 (t : Nat) (a b : LV) : Prop := Den1 t a b ∨ ∃ cs ds, a = .agg cs ∧ b = .agg ds ∧ All2 (Den1 t) cs ds
def Den (t : Nat) (a b : LV) : Prop := Den0 t a b ∨ ∃ cs ds, a = .tup cs ∧ b = .tup ds ∧ All2 (Den0 t) cs ds
theorem Den1.rfl {t : Nat} {a : LV} : Den1 t a a := .inl (Eq.refl a)
theorem Den0.rfl {t : Nat} {a : LV} : Den0 t a a := .inl .rfl
theorem Den1.nil {t : Nat} : Den1 t .nil (.ref t 0 0) := .inr ⟨Eq.refl _, Eq.refl _⟩
theorem All2.thru {α β γ : Type} {R : α → β → Prop} {S : α → γ → Prop} {T : γ → β → Prop} (h : ∀ a b c, R a b → S a c → T c b) : ∀ {l1 : List α} {l2 : List β} {l3 : List γ}, All2 R l1 l2 → All2 S l1 l3 → All2 T l3 l2
  | [], [], [], _, _ => trivial
  | _ :: _, _ :: _, _ :: _, h1, h2 => ⟨h _ _ _ h1.1 h2.1, All2.thru h h1.2 h2.2⟩
  | [], _ :: _, _, h1, _ => h1.elim
  | _ :: _, [], _, h1, _ => h1.elim
  | [], _, _ :: _, _, h2 => h2.elim
  | _ :: _, _, [], _, h2 => h2.elim
section
variable {G : Gh} {t : Nat} {β : Base} (hg : G t = some β)
include hg
theorem VR1.den {a b : LV} {x : Value} (h : VR1 G a x) (k : Den1 t a b) : VR1 G b x := by
  rcases k with rfl | ⟨rfl, rfl⟩
  · exact h
  · obtain ⟨rfl, _⟩ := h
    exact ⟨β, hg, none, 0, rfl, .inl ⟨rfl, rfl⟩⟩
theorem VR0.den {a b : LV} {x : Value} (h : VR0 G a x) (k : Den0 t a b) : VR0 G b x := by
  rcases k with k | ⟨cs, ds, rfl, rfl, k⟩
  · rcases k with rfl | ⟨rfl, rfl⟩
    · exact h
    · exact VR1.den hg (a := .nil) (b := .ref t 0 0) h .nil
  · obtain ⟨xs, h1, h2⟩ := h
    exact ⟨xs, h1, All2.thru (R := VR1 G) (S := Den1 t) (T := VR1 G) (fun _ _ _ p q => VR1.den hg p q) h2 k⟩
theorem VR.den {a b : LV} {x : Value} (h : VR G a x) (k : Den t a b) : VR G b x := by
  rcases k with k | ⟨cs, ds, rfl, rfl, k⟩
  · rcases k with k | ⟨cs, ds, rfl, rfl, k⟩
    · rcases k with rfl | ⟨rfl, rfl⟩
      · exact h
      · exact VR1.den hg (a := .nil) (b := .ref t 0 0) h .nil
    · exact VR0.den hg (a := .agg cs) (b := .agg ds) h (.inr ⟨cs, ds, rfl, rfl, k⟩)
  · obtain ⟨xs, h1, h2⟩ := h
    exact ⟨xs, h1, All2.thru (R := VR0 G) (S := Den0 t) (T := VR0 G) (fun _ _ _ p q => VR0.den hg p q) h2 k⟩
end
theorem CallsR.den {P : Program} {f : FuncId} {args : List LV} {M : Mem} {A B : LV → Mem → Prop} {e : Nat} (h : CallsR P f args M A) (hab : ∀ v N, A v N → B v N ∨ ∃ v', Den N.length v v' ∧ B v' (N ++ [some (.row [] true e)])) : CallsR P f args M B := by
  refine ⟨h.1, fun G w xs hi hx => (h.2 G w xs hi hx).mono fun r w' ⟨v, N, x, G', h1, h2, h3, h4, h5⟩ => ?_⟩
  rcases hab v N h1 with hb | ⟨v', hd, hb⟩
  · exact ⟨v, N, x, G', hb, h2, h3, h4, h5⟩
  have hno := h4.top N.length (Nat.le_refl _)
  have hxt : Ext G' (G'.put N.length ⟨0, 0, e, 0, true⟩) := Gh.put_ext hno
  have hat : (G'.put N.length ⟨0, 0, e, 0, true⟩) N.length = some ⟨0, 0, e, 0, true⟩ := by simp [Gh.put]
  refine ⟨v', _, x, G'.put N.length ⟨0, 0, e, 0, true⟩, hb, h2, VR.den hat (VR.ext hxt h3) hd, ⟨fun t b hl => ?_, fun t t' b b' γ γ' hne hl hl' ho hγ hγ' hv hv' => ?_, fun t ht => ?_⟩, ⟨fun t ht => ?_, by have := h5.len; simp; omega, h5.size, h5.os, h5.tape, h5.output, h5.keep, fun b hb => ?_, fun t b hl ho => ?_⟩⟩
  · rcases live_push hl with ⟨_, h6⟩ | ⟨rfl, rfl⟩
    · obtain ⟨γ, hγ, he⟩ := h4.emb t b h6
      exact ⟨γ, hxt _ _ hγ, he.ext hxt fun _ => rfl⟩
    · exact ⟨_, hat, rfl, .inl ⟨rfl, rfl⟩⟩
  · rcases live_push hl with ⟨hlt, h6⟩ | ⟨rfl, rfl⟩
    · rcases live_push hl' with ⟨hlt', h7⟩ | ⟨rfl, rfl⟩
      · unfold Gh.put at hγ hγ'
        rw [if_neg (by omega)] at hγ hγ'
        exact h4.sep t t' b b' γ γ' hne h6 h7 ho hγ hγ' hv hv'
      · rw [hat] at hγ'; cases hγ'; cases hv'
    · rw [hat] at hγ; cases hγ; cases hv
  · simp at ht
    unfold Gh.put
    rw [if_neg (by omega)]
    exact h4.top t (by omega)
  · have := h5.len
    unfold Gh.put
    rw [if_neg (by omega)]
    exact h5.gh t ht
  · refine h5.own b ?_
    obtain ⟨t, blk, γ, hl, ho, hγ, hv, hbb⟩ := hb
    rcases live_push hl with ⟨hlt, h6⟩ | ⟨rfl, rfl⟩
    · unfold Gh.put at hγ
      rw [if_neg (by omega)] at hγ
      exact ⟨t, blk, γ, h6, ho, hγ, hv, hbb⟩
    · rw [hat] at hγ; cases hγ; cases hv
  · rcases live_push hl with ⟨_, h6⟩ | ⟨rfl, rfl⟩
    · exact h5.ro t b h6 ho
    · cases ho
end Go.Ab

/- The abstract code of some functions (written by a program of mine from the translation, by way of prepF). -/
namespace Go.Ab.C
open Go.Ab
end Go.Ab.C

/- That the program has this code. -/
namespace Go.Ab.K
open Go Go.Ab
end Go.Ab.K

/- The abstract code of some functions (written by a program of mine from the translation, by way of prepF). -/
namespace Go.Ab.C
open Go.Ab
end Go.Ab.C

/- That the program has this code. -/
namespace Go.Ab.K
open Go Go.Ab
end Go.Ab.K

/- The abstract code of some functions (written by a program of mine from the translation, by way of prepF). -/
namespace Go.Ab.C
open Go.Ab
end Go.Ab.C

/- That the program has this code. -/
namespace Go.Ab.K
open Go Go.Ab
end Go.Ab.K

/- The abstract code of some functions (written by a program of mine from the translation, by way of prepF). -/
namespace Go.Ab.C
open Go.Ab
def spec_l1Cur_heap : AFn :=
 ⟨1, 56, [.cellN 2 4],
 .seq (.ops [(none, .alloc 2 [(.I 0), (.I 0), (.I 0), .nil])])
 (.seq (.ops [(none, .mv 8 (.t 0)),
 (none, .call (some 9) F.spec_l1Cur_sides [(.t 8)]),
 (none, .mv 7 (.t 9)),
 (none, .extract 10 (.t 7) 0),
 (none, .extract 11 (.t 7) 1),
 (none, .extract 12 (.t 7) 2),
 (none, .mv 3 (.t 10)),
 (none, .mv 4 (.t 11)),
 (none, .mv 5 (.t 12))])
 (.seq (.ops [(none, .mv 13 (.t 0)),
 (none, .mv 14 (.t 3)),
 (none, .mv 15 (.t 4)),
 (none, .mv 16 (.t 5)),
 (none, .call (some 17) F.spec_l1Cur_someHeap [(.t 13), (.t 14), (.t 15), (.t 16)]),
 (none, .alloc 6 [(.I 0), (.I 0), (.I 0), .nil]),
 (none, .store 4 (.t 6) (.t 17))])
 (.seq (.seq (.ops [(none, .mv 18 (.t 0)),
 (none, .call (some 19) F.spec_l1Cur_pick [(.t 18), (.c (.I 60))])])
 (.block 0 (.seq (.ops [(none, .bin 21 .eql (.t 19) (.c (.I 0))),
 (none, .mv 20 (.t 21))])
 (.cond (.t 20) (.ops [(none, .fieldAddr 22 (.t 6) 3),
 (none, .load1 23 (.t 22)),
 (none, .mv 24 (.t 3)),
 (none, .build 25 [(.I 0), (.I 0), (.I 0)] [(0, 1, (.t 24)), (1, 1, (.c (.I 0))), (2, 1, (.c (.I 0)))]),
 (none, .buildSl 26 1 3 [(.I 0), (.I 0), (.I 0)] [(0, 3, (.t 25))]),
 (none, .append 27 3 24 (.t 23) (.t 26)),
 (none, .fieldAddr 28 (.t 6) 3),
 (none, .store 1 (.t 28) (.t 27))])
 (.seq (.ops [(none, .bin 30 .eql (.t 19) (.c (.I 1))),
 (none, .mv 29 (.t 30))])
 (.cond (.t 29) (.ops [(none, .fieldAddr 31 (.t 6) 3),
 (none, .load1 32 (.t 31)),
 (none, .build 33 [(.I 0), (.I 0), (.I 0)] [(0, 1, (.c (.I (-1)))), (1, 1, (.c (.I 0))), (2, 1, (.c (.I 0)))]),
 (none, .buildSl 34 1 3 [(.I 0), (.I 0), (.I 0)] [(0, 3, (.t 33))]),
 (none, .append 35 3 24 (.t 32) (.t 34)),
 (none, .fieldAddr 36 (.t 6) 3),
 (none, .store 1 (.t 36) (.t 35))])
 (.seq (.ops [(none, .bin 38 .eql (.t 19) (.c (.I 2))),
 (none, .mv 37 (.t 38))])
 (.cond (.t 37) (.seq (.ops [(none, .fieldAddr 39 (.t 6) 3),
 (none, .load1 40 (.t 39)),
 (none, .len 41 (.t 40)),
 (none, .bin 42 .gtr (.t 41) (.c (.I 0)))])
 (.cond (.t 42) (.draw [⟨(none, .fieldAddr 43 (.t 6) 3), [], []⟩,
 ⟨(none, .load1 44 (.t 43)), [], []⟩,
 ⟨(none, .fieldAddr 45 (.t 6) 3), [], []⟩,
 ⟨(none, .load1 46 (.t 45)), [], []⟩,
 ⟨(none, .idxS 47 3 (.t 46) (.c (.I 0))), [], []⟩,
 ⟨(none, .loadN 48 3 (.t 47)), [], []⟩,
 ⟨(none, .buildSl 49 1 3 [(.I 0), (.I 0), (.I 0)] [(0, 3, (.t 48))]), [], []⟩,
 ⟨(none, .append 50 3 24 (.t 44) (.t 49)), [], []⟩,
 ⟨(none, .fieldAddr 51 (.t 6) 3), [], []⟩,
 ⟨(none, .store 1 (.t 51) (.t 50)), [], []⟩])
 (.skip)))
 (.seq (.ops [(none, .bin 53 .eql (.t 19) (.c (.I 3))),
 (none, .mv 52 (.t 53))])
 (.cond (.t 52) (.seq (.ops [(none, .build 54 [(.I 0), (.I 0), (.I 0), .nil] []),
 (none, .store 4 (.t 2) (.t 54))])
 (.ret))
 (.skip)))))))))))
 (.seq (.ops [(none, .loadN 55 4 (.t 6)),
 (none, .store 4 (.t 2) (.t 55))])
 (.ret)))))⟩
end Go.Ab.C

/- That the program has this code. -/
namespace Go.Ab.K
open Go Go.Ab
theorem spec_l1Cur_heap : prepF Go.Proofs.Try.prog F.spec_l1Cur_heap = some C.spec_l1Cur_heap := by kernel_rfl
end Go.Ab.K

/- The abstract code of some functions (written by a program of mine from the translation, by way of prepF). -/
namespace Go.Ab.C
open Go.Ab
def spec_l1Cur_sides : AFn :=
 ⟨1, 37, [.tmp 2, .tmp 3, .tmp 4],
 .seq (.ops [(none, .mv 2 (.c (.I 0))),
 (none, .mv 3 (.c (.I 0))),
 (none, .mv 4 (.c (.I 0)))])
 (.seq (.ops [(none, .mv 8 (.t 0)),
 (none, .buildSl 9 5 1 [(.I 0), (.I 0), (.I 0), (.I 0), (.I 0)] [(0, 1, (.c (.I 2))), (1, 1, (.c (.I 3))), (2, 1, (.c (.I 3))), (3, 1, (.c (.I 1))), (4, 1, (.c (.I 4)))]),
 (none, .call (some 10) F.spec_l1Cur_among [(.t 8), (.t 9)]),
 (none, .mv 11 (.t 0)),
 (none, .buildSl 12 5 1 [(.I 0), (.I 0), (.I 0), (.I 0), (.I 0)] [(0, 1, (.c (.I 2))), (1, 1, (.c (.I 3))), (2, 1, (.c (.I 2))), (3, 1, (.c (.I 1))), (4, 1, (.c (.I 4)))]),
 (none, .call (some 13) F.spec_l1Cur_among [(.t 11), (.t 12)]),
 (none, .mv 14 (.t 0)),
 (none, .buildSl 15 5 1 [(.I 0), (.I 0), (.I 0), (.I 0), (.I 0)] [(0, 1, (.c (.I 2))), (1, 1, (.c (.I 3))), (2, 1, (.c (.I 3))), (3, 1, (.c (.I 1))), (4, 1, (.c (.I 4)))]),
 (none, .call (some 16) F.spec_l1Cur_among [(.t 14), (.t 15)]),
 (none, .mv 5 (.t 10)),
 (none, .mv 6 (.t 13)),
 (none, .mv 7 (.t 16))])
 (.seq (.seq (.ops [(none, .mv 17 (.t 0)),
 (none, .call (some 18) F.spec_l1Cur_pick [(.t 17), (.c (.I 60))])])
 (.block 0 (.seq (.ops [(none, .bin 20 .eql (.t 18) (.c (.I 0))),
 (none, .mv 19 (.t 20))])
 (.cond (.t 19) (.ops [(none, .mv 21 (.t 0)),
 (none, .buildSl 22 4 1 [(.I 0), (.I 0), (.I 0), (.I 0)] [(0, 1, (.c (.I 0))), (1, 1, (.c (.I 5))), (2, 1, (.c (.I (-1)))), (3, 1, (.c (.I 4611686018427387904)))]),
 (none, .call (some 23) F.spec_l1Cur_among [(.t 21), (.t 22)]),
 (none, .mv 5 (.t 23))])
 (.seq (.ops [(none, .bin 25 .eql (.t 18) (.c (.I 1))),
 (none, .mv 24 (.t 25))])
 (.cond (.t 24) (.ops [(none, .mv 26 (.t 0)),
 (none, .buildSl 27 3 1 [(.I 0), (.I 0), (.I 0)] [(0, 1, (.c (.I 0))), (1, 1, (.c (.I 5))), (2, 1, (.c (.I (-1))))]),
 (none, .call (some 28) F.spec_l1Cur_among [(.t 26), (.t 27)]),
 (none, .mv 6 (.t 28))])
 (.seq (.ops [(none, .bin 30 .eql (.t 18) (.c (.I 2))),
 (none, .mv 29 (.t 30))])
 (.cond (.t 29) (.ops [(none, .mv 31 (.t 0)),
 (none, .buildSl 32 3 1 [(.I 0), (.I 0), (.I 0)] [(0, 1, (.c (.I 0))), (1, 1, (.c (.I 5))), (2, 1, (.c (.I (-1))))]),
 (none, .call (some 33) F.spec_l1Cur_among [(.t 31), (.t 32)]),
 (none, .mv 7 (.t 33))])
 (.skip)))))))))
 (.seq (.ops [(none, .mv 34 (.t 5)),
 (none, .mv 35 (.t 6)),
 (none, .mv 36 (.t 7)),
 (none, .mv 2 (.t 34)),
 (none, .mv 3 (.t 35)),
 (none, .mv 4 (.t 36))])
 (.ret))))⟩
def spec_l1Cur_someHeap : AFn :=
 ⟨4, 64, [.cellN 8 4],
 .seq (.ops [(none, .alloc 8 [(.I 0), (.I 0), (.I 0), .nil])])
 (.seq (.ops [(none, .mv 13 (.t 1)),
 (none, .mv 14 (.t 2)),
 (none, .mv 15 (.t 3)),
 (none, .call (some 16) F.spec_l2Empty [(.t 13), (.t 14), (.t 15)]),
 (none, .mv 17 (.t 0)),
 (none, .buildSl 18 4 1 [(.I 0), (.I 0), (.I 0), (.I 0)] [(0, 1, (.c (.I 2))), (1, 1, (.c (.I 3))), (2, 1, (.c (.I 2))), (3, 1, (.c (.I 4)))]),
 (none, .call (some 19) F.spec_l1Cur_among [(.t 17), (.t 18)]),
 (none, .alloc 9 [(.I 0), (.I 0), (.I 0), .nil]),
 (none, .store 4 (.t 9) (.t 16)),
 (none, .mv 10 (.t 19))])
 (.seq (.seq (.ops [(none, .mv 20 (.t 1)),
 (none, .mv 21 (.t 2)),
 (none, .mv 22 (.t 3)),
 (none, .call (some 23) F.spec_l2Sides [(.t 20), (.t 21), (.t 22)]),
 (none, .un 24 .not (.t 23))])
 (.cond (.t 24) (.seq (.ops [(none, .loadN 25 4 (.t 9)),
 (none, .store 4 (.t 8) (.t 25))])
 (.ret))
 (.skip)))
 (.seq (.ops [(none, .loadN 26 4 (.t 9)),
 (none, .call (some 27) F.spec_l2All [(.t 26)]),
 (none, .mv 11 (.t 27))])
 (.seq (.seq (.ops [(none, .mv 12 (.c (.I 0)))])
 (.block 0 (.loop (.seq (.seq (.ops [(none, .mv 28 (.t 12)),
 (none, .mv 29 (.t 11)),
 (none, .len 30 (.t 29)),
 (none, .bin 31 .lss (.t 28) (.t 30))])
 (.cond (.t 31) (.skip)
 (.exit 0)))
 (.seq (.block 1 (.seq (.ops [(none, .mv 34 (.t 0)),
 (none, .mv 35 (.t 10)),
 (none, .call (some 36) F.spec_l1Cur_one [(.t 34), (.t 35)])])
 (.cond (.t 36) (.draw [⟨(none, .fieldAddr 37 (.t 9) 3), [], []⟩,
 ⟨(none, .load1 38 (.t 37)), [], []⟩,
 ⟨(none, .mv 39 (.t 11)), [], []⟩,
 ⟨(none, .mv 40 (.t 12)), [], []⟩,
 ⟨(none, .idxS 41 3 (.t 39) (.t 40)), [], []⟩,
 ⟨(none, .loadN 42 3 (.t 41)), [], []⟩,
 ⟨(none, .buildSl 43 1 3 [(.I 0), (.I 0), (.I 0)] [(0, 3, (.t 42))]), [], []⟩,
 ⟨(none, .append 44 3 24 (.t 38) (.t 43)), [], []⟩,
 ⟨(none, .fieldAddr 45 (.t 9) 3), [], []⟩,
 ⟨(none, .store 1 (.t 45) (.t 44)), [], []⟩])
 (.skip))))
 (.ops [(none, .mv 32 (.t 12)),
 (none, .bin 33 .add (.t 32) (.c (.I 1))),
 (none, .mv 12 (.t 33))]))))))
 (.seq (.seq (.ops [(none, .mv 46 (.t 0)),
 (none, .call (some 47) F.spec_l1Cur_pick [(.t 46), (.c (.I 12))])])
 (.block 2 (.seq (.ops [(none, .bin 49 .eql (.t 47) (.c (.I 0))),
 (none, .mv 48 (.t 49))])
 (.cond (.t 48) (.ops [(none, .loadN 51 4 (.t 9)),
 (none, .call (some 52) F.spec_OtherCells [(.t 51)]),
 (none, .mv 50 (.t 52)),
 (none, .extract 53 (.t 50) 0),
 (none, .extract 54 (.t 50) 1),
 (none, .store 4 (.t 9) (.t 53))])
 (.seq (.ops [(none, .bin 56 .eql (.t 47) (.c (.I 1))),
 (none, .mv 55 (.t 56))])
 (.cond (.t 55) (.ops [(none, .mv 57 (.t 1)),
 (none, .mv 58 (.t 2)),
 (none, .mv 59 (.t 3)),
 (none, .loadN 60 4 (.t 9)),
 (none, .call (some 61) F.spec_l2Heights [(.t 60)]),
 (none, .call (some 62) F.spec_l2Stack [(.t 57), (.t 58), (.t 59), (.t 61)]),
 (none, .store 4 (.t 9) (.t 62))])
 (.skip)))))))
 (.seq (.ops [(none, .loadN 63 4 (.t 9)),
 (none, .store 4 (.t 8) (.t 63))])
 (.ret)))))))⟩
def spec_l2Heights : AFn :=
 ⟨1, 5, [.tmp 2],
 .seq (.ops [(none, .box 1 (.t 0)),
 (none, .mv 2 (.c .nil))])
 (.seq (.ops [(none, .loadN 3 4 (.t 1)),
 (none, .call (some 4) F.spec_l2View [(.t 3), (.c (.I 2))]),
 (none, .mv 2 (.t 4))])
 (.ret))⟩
end Go.Ab.C

/- That the program has this code. -/
namespace Go.Ab.K
open Go Go.Ab
theorem spec_l1Cur_sides : prepF Go.Proofs.Try.prog F.spec_l1Cur_sides = some C.spec_l1Cur_sides := by kernel_rfl
theorem spec_l1Cur_someHeap : prepF Go.Proofs.Try.prog F.spec_l1Cur_someHeap = some C.spec_l1Cur_someHeap := by kernel_rfl
theorem spec_l2Heights : prepF Go.Proofs.Try.prog F.spec_l2Heights = some C.spec_l2Heights := by kernel_rfl
end Go.Ab.K
