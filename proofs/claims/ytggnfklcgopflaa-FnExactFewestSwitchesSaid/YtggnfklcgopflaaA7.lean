/- Parts of the proof of FnExactFewestSwitchesSaid: Va Wa C_Uk K_Uk C_Uj K_Uj C_Ui K_Ui C_Uh K_Uh Uh Ui Uj Uk C_Vb K_Vb Vb Wb Zd Ze Zf Ka C_Xb K_Xb C_Bw K_Bw C_Bv K_Bv C_Bu K_Bu C_Je K_Je C_Hg K_Hg C_Ha K_Ha Ha Hg C_Jb K_Jb C_Ja K_Ja C_Hb K_Hb Hb C_Hh0 K_Hh0 Hh0 Ja Jb Jc Je C_Ul K_Ul Ul Bu Bv Bw Sg C_Hi K_Hi C_Hh K_Hh C_He K_He C_Hd K_Hd C_Hc K_Hc Hc Hd C_Dc2 K_Dc2 Dc2 C_De2 K_De2 C_De K_De De C_Dd2 K_Dd2 Dd2 De2 He C_Th K_Th C_Tg K_Tg Tg Th C_Pe K_Pe C_Pc K_Pc C_Pb K_Pb Pa Pb Pc Pd Pe Hh Tt Hi Jf Xb Kb C_Vc K_Vc C_Um K_Um Um Pw Vc Kc C_Kd K_Kd Kd Cb Cc Kq C_Kn K_Kn C_Cf K_Cf C_Bc K_Bc C_Bb K_Bb Bb C_Ba K_Ba C_Jw K_Jw C_Jv K_Jv C_Ju K_Ju Tx C_Vd K_Vd Vd Ve Jo Js Ju C_Ty K_Ty Ty C_Pf K_Pf Pf Jv Jt C_Tr K_Tr. -/
import Derived.Test.YtggnfklcgopflaaA6
import Derived.Test.YtggnfklcgopflaaA3
import Derived.Test.YtggnfklcgopflaaA4
import Derived.Test.YtggnfklcgopflaaProg
import Derived.KernelRfl
import Derived.Test.YtggnfklcgopflaaA5
import Derived.Test.YtggnfklcgopflaaA2
set_option linter.all false
/- Plain: how often a line of a box is met by cells of a list; cells that are alone in a line. -/
namespace Go.Ab
open Go
set_option linter.unusedSimpArgs false
set_option linter.unusedVariables false

def onLine (y z : Int) (d : Nat) (i : Nat) (c : Cell) : Bool := decide ((lineOf y z c d).toNat = i)
theorem fold_get {y z : Int} {d : Nat} : ∀ {cs : List Cell} {v : List Int} {i : Nat}, i < v.length → (cs.foldl (viewStep y z d) v).getD i 0 = v.getD i 0 + (cs.countP (onLine y z d i) : Nat)
  | [], v, i, _ => by simp
  | c :: cs, v, i, h => by
    rw [List.foldl_cons, fold_get (by simpa [viewStep] using h), List.countP_cons]
    unfold viewStep
    rw [getD_set]
    by_cases e : (lineOf y z c d).toNat = i
    · rw [if_pos ⟨e.symm, by omega⟩, show onLine y z d i c = true from decide_eq_true e]
      subst e; simp; omega
    · rw [if_neg (fun h => e h.1.symm), show onLine y z d i c = false from decide_eq_false e]
      simp
theorem viewL_get {x y z : Int} {d i : Nat} {cs : List Cell} (h : i < (linesOf x y z d).toNat) : (viewL x y z d cs).getD i 0 = (cs.countP (onLine y z d i) : Nat) := by
  unfold viewL
  rw [fold_get (by simpa using h)]
  simp [List.getD_eq_getElem?_getD, List.getElem?_replicate, h]

/-- A cell alone, among cells, in one of its lines of the first k directions. -/
def aloneK (y z : Int) (cs : List Cell) : Nat → Cell → Bool
  | 0, _ => false
  | k + 1, c => aloneK y z cs k c || decide (cs.countP (onLine y z k (lineOf y z c k).toNat) = 1)
/-- The lit lines of a shadow. -/
def litL (xs : List Int) (n : Nat) : List Nat := (List.range n).filter fun i => decide (xs.getD i 0 = 1)
def litTo (tp fr sd : List Int) (d i : Nat) : List (Nat × Nat) := ((List.range d).flatMap fun e => (litL (shdList e tp fr sd) (shdList e tp fr sd).length).map fun j => (e, j)) ++ (litL (shdList d tp fr sd) i).map fun j => (d, j)
def lits (tp fr sd : List Int) : List (Nat × Nat) := litTo tp fr sd 3 0
/-- The cells of p in a line. -/
def inLine (y z : Int) (p : Cell → Bool) (q : Nat × Nat) (c : Cell) : Bool := p c && onLine y z q.1 q.2 c
/-- The lines as sets. -/
def lineSets (x y z : Int) (p : Cell → Bool) (L : List (Nat × Nat)) : List LV := L.map fun q => .W (bs x y z (inLine y z p q))
/-- Among the first k lit lines one has the cell, and no other allowed one. -/
def mustTo (x y z : Int) (p : Cell → Bool) (L : List (Nat × Nat)) (c : Cell) : Bool := decide (∃ q ∈ L, (pick x y z (inLine y z p q)).length = 1 ∧ inLine y z p q c = true)
end Go.Ab

/- Plain: lit lines without a cube, as the reference lists them. -/
namespace Go.Ab
open Go
set_option linter.unusedSimpArgs false
set_option linter.unusedVariables false

def offL (tp fr : List Int) (d : Nat) : Nat := if d = 2 then 0 else if d = 1 then tp.length else tp.length + fr.length
/-- The place of a cell's line among all lines. -/
def gl (y z : Int) (tp fr : List Int) (d : Nat) (c : Cell) : Nat := offL tp fr d + (lineOf y z c d).toNat
def darkStep (y z : Int) (tp fr : List Int) (v : List Bool) (c : Cell) : List Bool := ((v.set (gl y z tp fr 2 c) false).set (gl y z tp fr 1 c) false).set (gl y z tp fr 0 c) false
def darkL (y z : Int) (tp fr sd : List Int) (cs : List Cell) : List Bool := cs.foldl (darkStep y z tp fr) ((tp ++ fr ++ sd).map fun n => decide (n = 1))
/-- Cells meet all lit lines. -/
def Meets (y z : Int) (L : List (Nat × Nat)) (cs : List Cell) : Prop := ∀ q ∈ L, ∃ c ∈ cs, onLine y z q.1 q.2 c = true
instance (y z : Int) (L : List (Nat × Nat)) (cs : List Cell) : Decidable (Meets y z L cs) := by unfold Meets; exact inferInstance
end Go.Ab

/- The abstract code of some functions (written by a program of mine from the translation, by way of prepF). -/
namespace Go.Ab.C
open Go.Ab
end Go.Ab.C

/- That the program has this code. -/
namespace Go.Ab.K
open Go Go.Ab
end Go.Ab.K

/- The abstract code of some functions (written by a program of mine from the translation, by way of prepF). -/
namespace Go.Ab.C
open Go.Ab
end Go.Ab.C

/- That the program has this code. -/
namespace Go.Ab.K
open Go Go.Ab
end Go.Ab.K

/- The abstract code of some functions (written by a program of mine from the translation, by way of prepF). -/
namespace Go.Ab.C
open Go.Ab
def spec_l1Same : AFn :=
 ⟨2, 26, [.tmp 4],
 .seq (.ops [(none, .mv 4 (.c (.B false)))])
 (.seq (.seq (.ops [(none, .mv 6 (.t 0)),
 (none, .len 7 (.t 6)),
 (none, .mv 8 (.t 1)),
 (none, .len 9 (.t 8)),
 (none, .bin 10 .neq (.t 7) (.t 9))])
 (.cond (.t 10) (.seq (.ops [(none, .mv 4 (.c (.B false)))])
 (.ret))
 (.skip)))
 (.seq (.seq (.ops [(none, .mv 5 (.c (.I 0)))])
 (.block 0 (.loop (.seq (.seq (.ops [(none, .mv 11 (.t 5)),
 (none, .mv 12 (.t 0)),
 (none, .len 13 (.t 12)),
 (none, .bin 14 .lss (.t 11) (.t 13))])
 (.cond (.t 14) (.skip)
 (.exit 0)))
 (.seq (.block 1 (.seq (.draw [⟨(none, .mv 17 (.t 0)), [], []⟩,
 ⟨(none, .mv 18 (.t 5)), [], []⟩,
 ⟨(none, .idxS 19 1 (.t 17) (.t 18)), [], []⟩,
 ⟨(none, .load1 20 (.t 19)), [], []⟩,
 ⟨(none, .mv 21 (.t 1)), [], []⟩,
 ⟨(none, .mv 22 (.t 5)), [], []⟩,
 ⟨(none, .idxS 23 1 (.t 21) (.t 22)), [], []⟩,
 ⟨(none, .load1 24 (.t 23)), [], []⟩,
 ⟨(none, .bin 25 .neq (.t 20) (.t 24)), [], []⟩])
 (.cond (.t 25) (.seq (.ops [(none, .mv 4 (.c (.B false)))])
 (.ret))
 (.skip))))
 (.ops [(none, .mv 15 (.t 5)),
 (none, .bin 16 .add (.t 15) (.c (.I 1))),
 (none, .mv 5 (.t 16))]))))))
 (.seq (.ops [(none, .mv 4 (.c (.B true)))])
 (.ret))))⟩
def slices_Equal_Sint_int : AFn :=
 ⟨2, 26, [.tmp 4],
 .seq (.ops [(none, .mv 4 (.c (.B false)))])
 (.seq (.seq (.ops [(none, .mv 6 (.t 0)),
 (none, .len 7 (.t 6)),
 (none, .mv 8 (.t 1)),
 (none, .len 9 (.t 8)),
 (none, .bin 10 .neq (.t 7) (.t 9))])
 (.cond (.t 10) (.seq (.ops [(none, .mv 4 (.c (.B false)))])
 (.ret))
 (.skip)))
 (.seq (.seq (.ops [(none, .mv 11 (.t 0)),
 (none, .len 12 (.t 11)),
 (none, .mv 13 (.c (.I 0)))])
 (.block 0 (.loop (.seq (.ops [(none, .bin 14 .lss (.t 13) (.t 12))])
 (.seq (.cond (.t 14) (.skip)
 (.exit 0))
 (.seq (.block 1 (.seq (.ops [(none, .mv 15 (.t 13)),
 (none, .mv 5 (.t 15))])
 (.seq (.draw [⟨(none, .mv 16 (.t 0)), [], []⟩,
 ⟨(none, .mv 17 (.t 5)), [], []⟩,
 ⟨(none, .idxS 18 1 (.t 16) (.t 17)), [], []⟩,
 ⟨(none, .load1 19 (.t 18)), [], []⟩,
 ⟨(none, .mv 20 (.t 1)), [], []⟩,
 ⟨(none, .mv 21 (.t 5)), [], []⟩,
 ⟨(none, .idxS 22 1 (.t 20) (.t 21)), [], []⟩,
 ⟨(none, .load1 23 (.t 22)), [], []⟩,
 ⟨(none, .bin 24 .neq (.t 19) (.t 23)), [], []⟩])
 (.cond (.t 24) (.seq (.ops [(none, .mv 4 (.c (.B false)))])
 (.ret))
 (.skip)))))
 (.ops [(none, .bin 25 .add (.t 13) (.c (.I 1))),
 (none, .mv 13 (.t 25))])))))))
 (.seq (.ops [(none, .mv 4 (.c (.B true)))])
 (.ret))))⟩
end Go.Ab.C

/- That the program has this code. -/
namespace Go.Ab.K
open Go Go.Ab
theorem spec_l1Same : prepF Go.Proofs.Try.prog F.spec_l1Same = some C.spec_l1Same := by kernel_rfl
theorem slices_Equal_Sint_int : prepF Go.Proofs.Try.prog F.slices_Equal_Sint_int = some C.slices_Equal_Sint_int := by kernel_rfl
end Go.Ab.K

/- The abstract code of some functions (written by a program of mine from the translation, by way of prepF). -/
namespace Go.Ab.C
open Go.Ab
def spec_l2Others : AFn :=
 ⟨1, 9, [.tmp 2, .tmp 3],
 .seq (.ops [(none, .mv 2 (.c (.I 0))),
 (none, .mv 3 (.c (.I 0)))])
 (.seq (.seq (.ops [(none, .mv 4 (.t 0))])
 (.block 0 (.seq (.ops [(none, .bin 6 .eql (.t 4) (.c (.I 0))),
 (none, .mv 5 (.t 6))])
 (.cond (.t 5) (.seq (.ops [(none, .mv 2 (.c (.I 1))),
 (none, .mv 3 (.c (.I 2)))])
 (.ret))
 (.seq (.ops [(none, .bin 8 .eql (.t 4) (.c (.I 1))),
 (none, .mv 7 (.t 8))])
 (.cond (.t 7) (.seq (.ops [(none, .mv 2 (.c (.I 0))),
 (none, .mv 3 (.c (.I 2)))])
 (.ret))
 (.skip)))))))
 (.seq (.ops [(none, .mv 2 (.c (.I 0))),
 (none, .mv 3 (.c (.I 1)))])
 (.ret)))⟩
def spec_l2View : AFn :=
 ⟨2, 54, [.tmp 4],
 .seq (.ops [(none, .box 2 (.t 0)),
 (none, .mv 4 (.c .nil))])
 (.seq (.ops [(none, .mv 10 (.t 1)),
 (none, .call (some 11) F.spec_l2Others [(.t 10)]),
 (none, .mv 9 (.t 11)),
 (none, .extract 12 (.t 9) 0),
 (none, .extract 13 (.t 9) 1),
 (none, .mv 5 (.t 12)),
 (none, .mv 6 (.t 13))])
 (.seq (.draw [⟨(none, .loadN 14 4 (.t 2)), [], []⟩,
 ⟨(none, .mv 15 (.t 5)), [], []⟩,
 ⟨(none, .loadN 17 4 (.t 2)), [], []⟩,
 ⟨(none, .mv 18 (.t 6)), [], []⟩,
 ⟨(none, .call (some 16) F.spec_l2Long [(.t 14), (.t 15)]), [], [2, 3]⟩,
 ⟨(none, .call (some 19) F.spec_l2Long [(.t 17), (.t 18)]), [], []⟩,
 ⟨(none, .bin 20 .mul (.t 16) (.t 19)), [], []⟩,
 ⟨(none, .mksl 21 1 8 [(.I 0)] (.t 20) (.t 20)), [], []⟩,
 ⟨(none, .mv 7 (.t 21)), [], []⟩])
 (.seq (.seq (.ops [(none, .mv 8 (.c (.I 0)))])
 (.block 0 (.loop (.seq (.seq (.ops [(none, .mv 22 (.t 8)),
 (none, .fieldAddr 23 (.t 2) 3),
 (none, .load1 24 (.t 23)),
 (none, .len 25 (.t 24)),
 (none, .bin 26 .lss (.t 22) (.t 25))])
 (.cond (.t 26) (.skip)
 (.exit 0)))
 (.seq (.block 1 (.draw [⟨(none, .mv 29 (.t 7)), [], []⟩,
 ⟨(none, .fieldAddr 30 (.t 2) 3), [], []⟩,
 ⟨(none, .load1 31 (.t 30)), [], []⟩,
 ⟨(none, .mv 32 (.t 8)), [], []⟩,
 ⟨(none, .mv 33 (.t 5)), [], []⟩,
 ⟨(none, .idxS 34 3 (.t 31) (.t 32)), [], []⟩,
 ⟨(none, .idxA 35 3 1 (.t 34) (.t 33)), [], []⟩,
 ⟨(none, .load1 36 (.t 35)), [], []⟩,
 ⟨(none, .loadN 37 4 (.t 2)), [], []⟩,
 ⟨(none, .mv 38 (.t 6)), [], []⟩,
 ⟨(none, .fieldAddr 41 (.t 2) 3), [], []⟩,
 ⟨(none, .load1 42 (.t 41)), [], []⟩,
 ⟨(none, .mv 43 (.t 8)), [], []⟩,
 ⟨(none, .mv 44 (.t 6)), [], []⟩,
 ⟨(none, .idxS 45 3 (.t 42) (.t 43)), [], []⟩,
 ⟨(none, .idxA 46 3 1 (.t 45) (.t 44)), [], []⟩,
 ⟨(none, .load1 47 (.t 46)), [], []⟩,
 ⟨(none, .call (some 39) F.spec_l2Long [(.t 37), (.t 38)]), [], [0, 1, 2, 3, 4, 5, 6, 7, 10, 11, 12, 13, 14, 15, 16]⟩,
 ⟨(none, .bin 40 .mul (.t 36) (.t 39)), [], []⟩,
 ⟨(none, .bin 48 .add (.t 40) (.t 47)), [], []⟩,
 ⟨(none, .idxS 49 1 (.t 29) (.t 48)), [], []⟩,
 ⟨(none, .load1 50 (.t 49)), [], []⟩,
 ⟨(none, .bin 51 .add (.t 50) (.c (.I 1))), [], []⟩,
 ⟨(none, .idxS 52 1 (.t 29) (.t 48)), [], []⟩,
 ⟨(none, .store 1 (.t 52) (.t 51)), [], []⟩]))
 (.ops [(none, .mv 27 (.t 8)),
 (none, .bin 28 .add (.t 27) (.c (.I 1))),
 (none, .mv 8 (.t 28))]))))))
 (.seq (.ops [(none, .mv 53 (.t 7)),
 (none, .mv 4 (.t 53))])
 (.ret)))))⟩
end Go.Ab.C

/- That the program has this code. -/
namespace Go.Ab.K
open Go Go.Ab
theorem spec_l2Others : prepF Go.Proofs.Try.prog F.spec_l2Others = some C.spec_l2Others := by kernel_rfl
theorem spec_l2View : prepF Go.Proofs.Try.prog F.spec_l2View = some C.spec_l2View := by kernel_rfl
end Go.Ab.K

/- Contracts: views, the reference's side. -/
namespace Go.Ab
open Go
set_option linter.unusedSimpArgs false
set_option linter.unusedVariables false
set_option maxRecDepth 20000

theorem h_l2Others {d : Nat} {M : Mem} (hd : d < 3) : CallsTo PG F.spec_l2Others [.I d] M (.tup [.I (if d = 0 then 1 else 0), .I (if d = 2 then 1 else 2)]) M := by
  refine calls_run K.spec_l2Others rfl ?_
  rcases (show d = 0 ∨ d = 1 ∨ d = 2 by omega) with rfl | rfl | rfl
  all_goals
    simp (disch := omega) only [C.spec_l2Others, ↓SXd, SXu, slBounds, ↓sop, ↓aop, ↓reduceIte, LV.cells, AOp.dst, LV.I, LV.B, LV.U, LV.S, LV.nil, Nat.reduceEqDiff, Nat.reduceAdd, Nat.reduceMul, Nat.reduceSub, Nat.reduceLeDiff, Nat.reduceBEq, Nat.reduceDiv, Nat.reduceMod, Int.reduceToNat, Int.reduceLT, Int.reduceLE, Int.reduceAdd, Int.reduceSub, Int.reduceMul, Int.reduceEq, Int.reduceNeg, reduceCtorEq, resV, resAll, ARes.ev, LV.flat, ite_true, ite_false, exists_eq_left', exists_eq_left, keyOf, implies_true, fillC, capOf]
    exact cmp_drop0 rfl
theorem h_l2View {x y z : Int} {d t o : Nat} {cs : List Cell} {M : Mem} (h : Tri M t o cs) (hH : HeapOK x y z cs) (hd : d < 3) : CallsTo PG F.spec_l2View [.agg [.I x, .I y, .I z, .ref t o cs.length], .I d] M (.ref M.length 0 (viewL x y z d cs).length) (M ++ [some (.row (intL (viewL x y z d cs)) true 1)]) := by
  have hS := hH.1
  have hlp : 1 ≤ linesOf x y z d ∧ linesOf x y z d ≤ 16 := by
    have := prod_le hS
    rcases (show d = 0 ∨ d = 1 ∨ d = 2 by omega) with rfl | rfl | rfl
    · exact this.2.2
    · exact this.2.1
    · exact this.1
  have hlen := hH.len
  have ht := h.lt
  have hz : ∀ j, 0 ≤ (List.replicate (linesOf x y z d).toNat (0 : Int)).getD j 0 ∧ (List.replicate (linesOf x y z d).toNat (0 : Int)).getD j 0 ≤ 0 := fun j => by
    rw [List.getD_eq_getElem?_getD, List.getElem?_replicate]; split <;> simp
  have hvl := viewL_len (x := x) (y := y) (z := z) (d := d) (cs := cs)
  have hda : Dir (if d = 0 then 1 else 0) := by unfold Dir; split <;> omega
  have hdb : Dir (if d = 2 then 1 else 2) := by unfold Dir; split <;> omega
  have hprod : sideOf x y z (if d = 0 then 1 else 0) * sideOf x y z (if d = 2 then 1 else 2) = linesOf x y z d := by
    rcases (show d = 0 ∨ d = 1 ∨ d = 2 by omega) with rfl | rfl | rfl <;> rfl
  have hline : ∀ c : Cell, c.at (if d = 0 then 1 else 0) * sideOf x y z (if d = 2 then 1 else 2) + c.at (if d = 2 then 1 else 2) = lineOf y z c d := fun c => by
    rcases (show d = 0 ∨ d = 1 ∨ d = 2 by omega) with rfl | rfl | rfl <;> rfl
  have hrA : 0 ≤ (if d = 0 then (1 : Int) else 0) ∧ (if d = 0 then (1 : Int) else 0) < 3 := by split <;> omega
  have hrB : 0 ≤ (if d = 2 then (1 : Int) else 2) ∧ (if d = 2 then (1 : Int) else 2) < 3 := by split <;> omega
  refine calls_run K.spec_l2View rfl ?_
  simp (disch := omega) only [C.spec_l2View, ↓SXd, SXu, slBounds, ↓sop, ↓aop, ↓reduceIte, LV.cells, AOp.dst, LV.I, LV.B, LV.U, LV.S, LV.nil, Nat.reduceEqDiff, Nat.reduceAdd, Nat.reduceMul, Nat.reduceSub, Nat.reduceLeDiff, Nat.reduceBEq, Nat.reduceDiv, Nat.reduceMod, Int.reduceToNat, Int.reduceLT, Int.reduceLE, Int.reduceAdd, Int.reduceSub, Int.reduceMul, Int.reduceEq, Int.reduceNeg, reduceCtorEq, resV, resAll, ARes.ev, LV.flat, ite_true, ite_false, exists_eq_left', exists_eq_left, keyOf, implies_true, fillC, capOf]
  refine callK_of (h_l2Others hd) ?_
  simp (disch := omega) only [↓SXd, SXu, slBounds, ↓sop, ↓aop, ↓reduceIte, LV.cells, AOp.dst, LV.I, LV.B, LV.U, LV.S, LV.nil, Nat.reduceEqDiff, Nat.reduceAdd, Nat.reduceMul, Nat.reduceSub, Nat.reduceLeDiff, Nat.reduceBEq, Nat.reduceDiv, Nat.reduceMod, Int.reduceToNat, Int.reduceLT, Int.reduceLE, Int.reduceAdd, Int.reduceSub, Int.reduceMul, Int.reduceEq, Int.reduceNeg, reduceCtorEq, resV, resAll, ARes.ev, LV.flat, ite_true, ite_false, exists_eq_left', exists_eq_left, keyOf, implies_true, fillC, capOf]
  generalize (if d = 0 then (1 : Int) else 0) = A at hda hprod hline hrA ⊢
  generalize (if d = 2 then (1 : Int) else 2) = B at hdb hprod hline hrB ⊢
  obtain ⟨rA1, rA2⟩ := hrA
  obtain ⟨rB1, rB2⟩ := hrB
  refine callK_of (h_l2Long hda) ?_
  simp (disch := omega) only [↓SXd, SXu, slBounds, ↓sop, ↓aop, ↓reduceIte, LV.cells, AOp.dst, LV.I, LV.B, LV.U, LV.S, LV.nil, Nat.reduceEqDiff, Nat.reduceAdd, Nat.reduceMul, Nat.reduceSub, Nat.reduceLeDiff, Nat.reduceBEq, Nat.reduceDiv, Nat.reduceMod, Int.reduceToNat, Int.reduceLT, Int.reduceLE, Int.reduceAdd, Int.reduceSub, Int.reduceMul, Int.reduceEq, Int.reduceNeg, reduceCtorEq, resV, resAll, ARes.ev, LV.flat, ite_true, ite_false, exists_eq_left', exists_eq_left, keyOf, implies_true, fillC, capOf]
  refine callK_of (h_l2Long hdb) ?_
  simp (disch := omega) only [hprod, made_int, ↓SXd, SXu, slBounds, ↓sop, ↓aop, ↓reduceIte, LV.cells, AOp.dst, LV.I, LV.B, LV.U, LV.S, LV.nil, Nat.reduceEqDiff, Nat.reduceAdd, Nat.reduceMul, Nat.reduceSub, Nat.reduceLeDiff, Nat.reduceBEq, Nat.reduceDiv, Nat.reduceMod, Int.reduceToNat, Int.reduceLT, Int.reduceLE, Int.reduceAdd, Int.reduceSub, Int.reduceMul, Int.reduceEq, Int.reduceNeg, reduceCtorEq, resV, resAll, ARes.ev, LV.flat, ite_true, ite_false, exists_eq_left', exists_eq_left, keyOf, implies_true, fillC, capOf]
  refine ev_loop (fun m fr M' => ∃ i : Nat, i + m = cs.length ∧ Pre M M' ∧ Live M' M.length (.row [.I x, .I y, .I z, .ref t o cs.length] true 0) ∧ Live M' (M.length + 1) (.row (intL ((cs.take i).foldl (viewStep y z d) (List.replicate (linesOf x y z d).toNat 0))) true 1) ∧
    fr 2 = .ptr M.length 0 ∧ fr 5 = .I A ∧ fr 6 = .I B ∧ fr 7 = .ref (M.length + 1) 0 (linesOf x y z d).toNat ∧ fr 8 = .I i) cs.length
    ⟨0, by omega, Pre.app _ _, Live.new, Live.newj rfl, rfl, rfl, rfl, rfl, rfl⟩ ?_
  rintro m fr M' ⟨i, hi, hpre, b2, bo, f2, f5, f6, f7, f8⟩
  simp (disch := omega) only [f2, f5, f6, f7, f8, b2.cell, ↓SXd, SXu, slBounds, ↓sop, ↓aop, ↓reduceIte, LV.cells, AOp.dst, LV.I, LV.B, LV.U, LV.S, LV.nil, Nat.reduceEqDiff, Nat.reduceAdd, Nat.reduceMul, Nat.reduceSub, Nat.reduceLeDiff, Nat.reduceBEq, Nat.reduceDiv, Nat.reduceMod, Int.reduceToNat, Int.reduceLT, Int.reduceLE, Int.reduceAdd, Int.reduceSub, Int.reduceMul, Int.reduceEq, Int.reduceNeg, reduceCtorEq, resV, resAll, ARes.ev, LV.flat, ite_true, ite_false, exists_eq_left', exists_eq_left, keyOf, implies_true, fillC, capOf]
  refine condC_dec (fun hlt => ?_) (fun hlt => ?_)
  · have hil : i < cs.length := by omega
    have hc := hH.mem (getD_mem' (d := default) hil)
    have gA := Tri.gets_at (h.pre hpre) hil hda
    have gB := Tri.gets_at (h.pre hpre) hil hdb
    have htf := take_foldl (y := y) (z := z) (d := d) (v := List.replicate (linesOf x y z d).toNat 0) hil
    have hbd := fold_bound (y := y) (z := z) (d := d) (cs := cs.take i) hz
    have hfl := foldl_len (y := y) (z := z) (d := d) (cs := cs.take i) (v := List.replicate (linesOf x y z d).toNat 0)
    have htl := List.length_take_le i cs
    rw [List.length_replicate] at hfl
    generalize cs.getD i default = c at gA gB hc htf
    generalize (cs.take i).foldl (viewStep y z d) (List.replicate (linesOf x y z d).toNat 0) = v at bo htf hbd hfl
    obtain ⟨l1, l2⟩ := lineOf_in hS hc hd
    obtain ⟨v1, v2⟩ := hbd (lineOf y z c d).toNat
    have hlt2 : (lineOf y z c d).toNat < v.length := by omega
    have hlc := hline c
    have aA := at_in hc A
    have aB := at_in hc B
    have sB := sideOf_in hS B
    have sA := sideOf_in hS A
    have hmul : 0 ≤ c.at A * sideOf x y z B ∧ c.at A * sideOf x y z B ≤ 16 := by
      rcases (show sideOf x y z B = 1 ∨ sideOf x y z B = 2 ∨ sideOf x y z B = 3 ∨ sideOf x y z B = 4 by omega) with e | e | e | e <;> rw [e] <;> omega
    have hcell := bo.cell (o := (lineOf y z c d).toNat)
    rw [intL_get hlt2] at hcell
    simp (disch := omega) only [f2, f5, f6, f7, f8, b2.cell, b2.cells, gA, gB, Nat.mul_one, Nat.zero_add, ↓SXd, SXu, slBounds, ↓sop, ↓aop, ↓reduceIte, LV.cells, AOp.dst, LV.I, LV.B, LV.U, LV.S, LV.nil, Nat.reduceEqDiff, Nat.reduceAdd, Nat.reduceMul, Nat.reduceSub, Nat.reduceLeDiff, Nat.reduceBEq, Nat.reduceDiv, Nat.reduceMod, Int.reduceToNat, Int.reduceLT, Int.reduceLE, Int.reduceAdd, Int.reduceSub, Int.reduceMul, Int.reduceEq, Int.reduceNeg, reduceCtorEq, resV, resAll, ARes.ev, LV.flat, ite_true, ite_false, exists_eq_left', exists_eq_left, keyOf, implies_true, fillC, capOf]
    refine callK_of (h_l2Long hdb) ?_
    simp (disch := omega) only [f2, f5, f6, f7, f8, hlc, hcell, Nat.mul_one, Nat.zero_add, ↓SXd, SXu, slBounds, ↓sop, ↓aop, ↓reduceIte, LV.cells, AOp.dst, LV.I, LV.B, LV.U, LV.S, LV.nil, Nat.reduceEqDiff, Nat.reduceAdd, Nat.reduceMul, Nat.reduceSub, Nat.reduceLeDiff, Nat.reduceBEq, Nat.reduceDiv, Nat.reduceMod, Int.reduceToNat, Int.reduceLT, Int.reduceLE, Int.reduceAdd, Int.reduceSub, Int.reduceMul, Int.reduceEq, Int.reduceNeg, reduceCtorEq, resV, resAll, ARes.ev, LV.flat, ite_true, ite_false, exists_eq_left', exists_eq_left, keyOf, implies_true, fillC, capOf]
    refine memK_int bo hlt2 fun N k1 k2 k3 => ?_
    simp (disch := omega) only [f2, f5, f6, f7, f8, ↓SXd, SXu, slBounds, ↓sop, ↓aop, ↓reduceIte, LV.cells, AOp.dst, LV.I, LV.B, LV.U, LV.S, LV.nil, Nat.reduceEqDiff, Nat.reduceAdd, Nat.reduceMul, Nat.reduceSub, Nat.reduceLeDiff, Nat.reduceBEq, Nat.reduceDiv, Nat.reduceMod, Int.reduceToNat, Int.reduceLT, Int.reduceLE, Int.reduceAdd, Int.reduceSub, Int.reduceMul, Int.reduceEq, Int.reduceNeg, reduceCtorEq, resV, resAll, ARes.ev, LV.flat, ite_true, ite_false, exists_eq_left', exists_eq_left, keyOf, implies_true, fillC, capOf]
    rw [show v.set (lineOf y z c d).toNat (v.getD (lineOf y z c d).toNat 0 + 1) = viewStep y z d v c from rfl, ← htf] at k2
    exact ⟨m - 1, by omega, i + 1, by omega, pre_step hpre (by omega) (j := 0) k1 k3, live_step b2 (by omega) k3, k2, f2, f5, f6, f7, eqI (natI _)⟩
  · simp (disch := omega) only [f2, f5, f6, f7, f8, ↓SXd, SXu, slBounds, ↓sop, ↓aop, ↓reduceIte, LV.cells, AOp.dst, LV.I, LV.B, LV.U, LV.S, LV.nil, Nat.reduceEqDiff, Nat.reduceAdd, Nat.reduceMul, Nat.reduceSub, Nat.reduceLeDiff, Nat.reduceBEq, Nat.reduceDiv, Nat.reduceMod, Int.reduceToNat, Int.reduceLT, Int.reduceLE, Int.reduceAdd, Int.reduceSub, Int.reduceMul, Int.reduceEq, Int.reduceNeg, reduceCtorEq, resV, resAll, ARes.ev, LV.flat, ite_true, ite_false, exists_eq_left', exists_eq_left, keyOf, implies_true, fillC, capOf]
    have : i = cs.length := by omega
    subst this
    rw [List.take_length] at bo
    change Live M' (M.length + 1) (.row (intL (viewL x y z d cs)) true 1) at bo
    exact cmp_keepL hpre (by omega) bo (intL_lo _) (by simp [rn, rn0, rn1, hvl])
end Go.Ab

/- Contracts: lists of numbers that are the same; shadows of heaps, the reference's side. -/
namespace Go.Ab
open Go
set_option linter.unusedSimpArgs false
set_option linter.unusedVariables false

theorem h_l1Same {l m : List Int} {t o t' o' : Nat} {M : Mem} (hg : Ints M t o l) (hh : Ints M t' o' m) (hn : l.length ≤ 1000000000) (hn' : m.length ≤ 1000000000) :
    CallsTo PG F.spec_l1Same [.ref t o l.length, .ref t' o' m.length] M (.B (decide (l = m))) M := by
  refine calls_run K.spec_l1Same rfl ?_
  simp (disch := omega) only [C.spec_l1Same, ↓SXd, SXu, slBounds, ↓sop, ↓aop, ↓reduceIte, LV.cells, AOp.dst, LV.I, LV.B, LV.U, LV.S, LV.nil, Nat.reduceEqDiff, Nat.reduceAdd, Nat.reduceMul, Nat.reduceSub, Nat.reduceLeDiff, Nat.reduceBEq, Nat.reduceDiv, Nat.reduceMod, Int.reduceToNat, Int.reduceLT, Int.reduceLE, Int.reduceAdd, Int.reduceSub, Int.reduceMul, Int.reduceEq, Int.reduceNeg, reduceCtorEq, resV, resAll, ARes.ev, LV.flat, ite_true, ite_false, exists_eq_left', exists_eq_left, keyOf, implies_true, fillC, capOf]
  by_cases hl : (l.length : Int) = m.length
  · simp (disch := omega) only [hl, ↓SXd, SXu, slBounds, ↓sop, ↓aop, ↓reduceIte, LV.cells, AOp.dst, LV.I, LV.B, LV.U, LV.S, LV.nil, Nat.reduceEqDiff, Nat.reduceAdd, Nat.reduceMul, Nat.reduceSub, Nat.reduceLeDiff, Nat.reduceBEq, Nat.reduceDiv, Nat.reduceMod, Int.reduceToNat, Int.reduceLT, Int.reduceLE, Int.reduceAdd, Int.reduceSub, Int.reduceMul, Int.reduceEq, Int.reduceNeg, reduceCtorEq, resV, resAll, ARes.ev, LV.flat, ite_true, ite_false, exists_eq_left', exists_eq_left, keyOf, implies_true, fillC, capOf]
    have hl' : l.length = m.length := by omega
    refine ev_loop (fun n fr M' => ∃ k : Nat, k + n = l.length ∧ M' = M ∧ (∀ j, j < k → l.getD j 0 = m.getD j 0) ∧ fr 0 = .ref t o l.length ∧ fr 1 = .ref t' o' m.length ∧ fr 5 = .I k) l.length
      ⟨0, by omega, rfl, by omega, rfl, rfl, rfl⟩ ?_
    rintro n fr M' ⟨k, hk, rfl, hj, f0, f1, f5⟩
    simp (disch := omega) only [f0, f1, f5, ↓SXd, SXu, slBounds, ↓sop, ↓aop, ↓reduceIte, LV.cells, AOp.dst, LV.I, LV.B, LV.U, LV.S, LV.nil, Nat.reduceEqDiff, Nat.reduceAdd, Nat.reduceMul, Nat.reduceSub, Nat.reduceLeDiff, Nat.reduceBEq, Nat.reduceDiv, Nat.reduceMod, Int.reduceToNat, Int.reduceLT, Int.reduceLE, Int.reduceAdd, Int.reduceSub, Int.reduceMul, Int.reduceEq, Int.reduceNeg, reduceCtorEq, resV, resAll, ARes.ev, LV.flat, ite_true, ite_false, exists_eq_left', exists_eq_left, keyOf, implies_true, fillC, capOf]
    refine condC_dec (fun h1 => ?_) (fun h1 => ?_)
    · have hk1 : k < l.length := by omega
      have g1 := Ints.get hg hk1
      have g2 := Ints.get hh (show k < m.length by omega)
      simp (disch := omega) only [f0, f1, f5, g1, g2, Nat.mul_one, ↓SXd, SXu, slBounds, ↓sop, ↓aop, ↓reduceIte, LV.cells, AOp.dst, LV.I, LV.B, LV.U, LV.S, LV.nil, Nat.reduceEqDiff, Nat.reduceAdd, Nat.reduceMul, Nat.reduceSub, Nat.reduceLeDiff, Nat.reduceBEq, Nat.reduceDiv, Nat.reduceMod, Int.reduceToNat, Int.reduceLT, Int.reduceLE, Int.reduceAdd, Int.reduceSub, Int.reduceMul, Int.reduceEq, Int.reduceNeg, reduceCtorEq, resV, resAll, ARes.ev, LV.flat, ite_true, ite_false, exists_eq_left', exists_eq_left, keyOf, implies_true, fillC, capOf]
      by_cases he : l.getD k 0 = m.getD k 0
      · simp (disch := omega) only [f0, f1, f5, he, ↓SXd, SXu, slBounds, ↓sop, ↓aop, ↓reduceIte, LV.cells, AOp.dst, LV.I, LV.B, LV.U, LV.S, LV.nil, Nat.reduceEqDiff, Nat.reduceAdd, Nat.reduceMul, Nat.reduceSub, Nat.reduceLeDiff, Nat.reduceBEq, Nat.reduceDiv, Nat.reduceMod, Int.reduceToNat, Int.reduceLT, Int.reduceLE, Int.reduceAdd, Int.reduceSub, Int.reduceMul, Int.reduceEq, Int.reduceNeg, reduceCtorEq, resV, resAll, ARes.ev, LV.flat, ite_true, ite_false, exists_eq_left', exists_eq_left, keyOf, implies_true, fillC, capOf]
        exact ⟨n - 1, by omega, k + 1, by omega, rfl, fun j hj' => by
          rcases Nat.lt_or_ge j k with h2 | h2
          · exact hj j h2
          · rw [show j = k by omega]; exact he, f0, f1, eqI (natI _)⟩
      · simp (disch := omega) only [f0, f1, f5, he, ↓SXd, SXu, slBounds, ↓sop, ↓aop, ↓reduceIte, LV.cells, AOp.dst, LV.I, LV.B, LV.U, LV.S, LV.nil, Nat.reduceEqDiff, Nat.reduceAdd, Nat.reduceMul, Nat.reduceSub, Nat.reduceLeDiff, Nat.reduceBEq, Nat.reduceDiv, Nat.reduceMod, Int.reduceToNat, Int.reduceLT, Int.reduceLE, Int.reduceAdd, Int.reduceSub, Int.reduceMul, Int.reduceEq, Int.reduceNeg, reduceCtorEq, resV, resAll, ARes.ev, LV.flat, ite_true, ite_false, exists_eq_left', exists_eq_left, keyOf, implies_true, fillC, capOf]
        rw [decide_eq_false (fun e => he (by rw [e]))]
        exact cmp_drop0 rfl
    · simp (disch := omega) only [f0, f1, f5, ↓SXd, SXu, slBounds, ↓sop, ↓aop, ↓reduceIte, LV.cells, AOp.dst, LV.I, LV.B, LV.U, LV.S, LV.nil, Nat.reduceEqDiff, Nat.reduceAdd, Nat.reduceMul, Nat.reduceSub, Nat.reduceLeDiff, Nat.reduceBEq, Nat.reduceDiv, Nat.reduceMod, Int.reduceToNat, Int.reduceLT, Int.reduceLE, Int.reduceAdd, Int.reduceSub, Int.reduceMul, Int.reduceEq, Int.reduceNeg, reduceCtorEq, resV, resAll, ARes.ev, LV.flat, ite_true, ite_false, exists_eq_left', exists_eq_left, keyOf, implies_true, fillC, capOf]
      rw [decide_eq_true (by
        apply List.ext_getElem hl'
        intro i h2 h3
        have := hj i (by omega)
        simpa [h2, h3] using this)]
      exact cmp_drop0 rfl
  · simp (disch := omega) only [hl, ↓SXd, SXu, slBounds, ↓sop, ↓aop, ↓reduceIte, LV.cells, AOp.dst, LV.I, LV.B, LV.U, LV.S, LV.nil, Nat.reduceEqDiff, Nat.reduceAdd, Nat.reduceMul, Nat.reduceSub, Nat.reduceLeDiff, Nat.reduceBEq, Nat.reduceDiv, Nat.reduceMod, Int.reduceToNat, Int.reduceLT, Int.reduceLE, Int.reduceAdd, Int.reduceSub, Int.reduceMul, Int.reduceEq, Int.reduceNeg, reduceCtorEq, resV, resAll, ARes.ev, LV.flat, ite_true, ite_false, exists_eq_left', exists_eq_left, keyOf, implies_true, fillC, capOf]
    rw [decide_eq_false (fun e => hl (by rw [e]))]
    exact cmp_drop0 rfl
theorem g_equalI {l m : List Int} {t o t' o' : Nat} {M : Mem} (hg : Ints M t o l) (hh : Ints M t' o' m) (hn : l.length ≤ 1000000000) (hn' : m.length ≤ 1000000000) :
    CallsTo PG F.slices_Equal_Sint_int [.ref t o l.length, .ref t' o' m.length] M (.B (decide (l = m))) M := by
  refine calls_run K.slices_Equal_Sint_int rfl ?_
  simp (disch := omega) only [C.slices_Equal_Sint_int, ↓SXd, SXu, slBounds, ↓sop, ↓aop, ↓reduceIte, LV.cells, AOp.dst, LV.I, LV.B, LV.U, LV.S, LV.nil, Nat.reduceEqDiff, Nat.reduceAdd, Nat.reduceMul, Nat.reduceSub, Nat.reduceLeDiff, Nat.reduceBEq, Nat.reduceDiv, Nat.reduceMod, Int.reduceToNat, Int.reduceLT, Int.reduceLE, Int.reduceAdd, Int.reduceSub, Int.reduceMul, Int.reduceEq, Int.reduceNeg, reduceCtorEq, resV, resAll, ARes.ev, LV.flat, ite_true, ite_false, exists_eq_left', exists_eq_left, keyOf, implies_true, fillC, capOf]
  by_cases hl : (l.length : Int) = m.length
  · simp (disch := omega) only [hl, ↓SXd, SXu, slBounds, ↓sop, ↓aop, ↓reduceIte, LV.cells, AOp.dst, LV.I, LV.B, LV.U, LV.S, LV.nil, Nat.reduceEqDiff, Nat.reduceAdd, Nat.reduceMul, Nat.reduceSub, Nat.reduceLeDiff, Nat.reduceBEq, Nat.reduceDiv, Nat.reduceMod, Int.reduceToNat, Int.reduceLT, Int.reduceLE, Int.reduceAdd, Int.reduceSub, Int.reduceMul, Int.reduceEq, Int.reduceNeg, reduceCtorEq, resV, resAll, ARes.ev, LV.flat, ite_true, ite_false, exists_eq_left', exists_eq_left, keyOf, implies_true, fillC, capOf]
    have hl' : l.length = m.length := by omega
    refine ev_loop (fun n fr M' => ∃ k : Nat, k + n = l.length ∧ M' = M ∧ (∀ j, j < k → l.getD j 0 = m.getD j 0) ∧ fr 0 = .ref t o l.length ∧ fr 1 = .ref t' o' m.length ∧ fr 12 = .I l.length ∧ fr 13 = .I k) l.length
      ⟨0, by omega, rfl, by omega, rfl, rfl, by rw [hl']; rfl, rfl⟩ ?_
    rintro n fr M' ⟨k, hk, rfl, hj, f0, f1, f12, f13⟩
    simp (disch := omega) only [f0, f1, f12, f13, ↓SXd, SXu, slBounds, ↓sop, ↓aop, ↓reduceIte, LV.cells, AOp.dst, LV.I, LV.B, LV.U, LV.S, LV.nil, Nat.reduceEqDiff, Nat.reduceAdd, Nat.reduceMul, Nat.reduceSub, Nat.reduceLeDiff, Nat.reduceBEq, Nat.reduceDiv, Nat.reduceMod, Int.reduceToNat, Int.reduceLT, Int.reduceLE, Int.reduceAdd, Int.reduceSub, Int.reduceMul, Int.reduceEq, Int.reduceNeg, reduceCtorEq, resV, resAll, ARes.ev, LV.flat, ite_true, ite_false, exists_eq_left', exists_eq_left, keyOf, implies_true, fillC, capOf]
    refine condC_dec (fun h1 => ?_) (fun h1 => ?_)
    · have hk1 : k < l.length := by omega
      have g1 := Ints.get hg hk1
      have g2 := Ints.get hh (show k < m.length by omega)
      simp (disch := omega) only [f0, f1, f12, f13, g1, g2, Nat.mul_one, ↓SXd, SXu, slBounds, ↓sop, ↓aop, ↓reduceIte, LV.cells, AOp.dst, LV.I, LV.B, LV.U, LV.S, LV.nil, Nat.reduceEqDiff, Nat.reduceAdd, Nat.reduceMul, Nat.reduceSub, Nat.reduceLeDiff, Nat.reduceBEq, Nat.reduceDiv, Nat.reduceMod, Int.reduceToNat, Int.reduceLT, Int.reduceLE, Int.reduceAdd, Int.reduceSub, Int.reduceMul, Int.reduceEq, Int.reduceNeg, reduceCtorEq, resV, resAll, ARes.ev, LV.flat, ite_true, ite_false, exists_eq_left', exists_eq_left, keyOf, implies_true, fillC, capOf]
      by_cases he : l.getD k 0 = m.getD k 0
      · simp (disch := omega) only [f0, f1, f12, f13, he, ↓SXd, SXu, slBounds, ↓sop, ↓aop, ↓reduceIte, LV.cells, AOp.dst, LV.I, LV.B, LV.U, LV.S, LV.nil, Nat.reduceEqDiff, Nat.reduceAdd, Nat.reduceMul, Nat.reduceSub, Nat.reduceLeDiff, Nat.reduceBEq, Nat.reduceDiv, Nat.reduceMod, Int.reduceToNat, Int.reduceLT, Int.reduceLE, Int.reduceAdd, Int.reduceSub, Int.reduceMul, Int.reduceEq, Int.reduceNeg, reduceCtorEq, resV, resAll, ARes.ev, LV.flat, ite_true, ite_false, exists_eq_left', exists_eq_left, keyOf, implies_true, fillC, capOf]
        exact ⟨n - 1, by omega, k + 1, by omega, rfl, fun j hj' => by
          rcases Nat.lt_or_ge j k with h2 | h2
          · exact hj j h2
          · rw [show j = k by omega]; exact he, f0, f1, f12, eqI (natI _)⟩
      · simp (disch := omega) only [f0, f1, f12, f13, he, ↓SXd, SXu, slBounds, ↓sop, ↓aop, ↓reduceIte, LV.cells, AOp.dst, LV.I, LV.B, LV.U, LV.S, LV.nil, Nat.reduceEqDiff, Nat.reduceAdd, Nat.reduceMul, Nat.reduceSub, Nat.reduceLeDiff, Nat.reduceBEq, Nat.reduceDiv, Nat.reduceMod, Int.reduceToNat, Int.reduceLT, Int.reduceLE, Int.reduceAdd, Int.reduceSub, Int.reduceMul, Int.reduceEq, Int.reduceNeg, reduceCtorEq, resV, resAll, ARes.ev, LV.flat, ite_true, ite_false, exists_eq_left', exists_eq_left, keyOf, implies_true, fillC, capOf]
        rw [decide_eq_false (fun e => he (by rw [e]))]
        exact cmp_drop0 rfl
    · simp (disch := omega) only [f0, f1, f12, f13, ↓SXd, SXu, slBounds, ↓sop, ↓aop, ↓reduceIte, LV.cells, AOp.dst, LV.I, LV.B, LV.U, LV.S, LV.nil, Nat.reduceEqDiff, Nat.reduceAdd, Nat.reduceMul, Nat.reduceSub, Nat.reduceLeDiff, Nat.reduceBEq, Nat.reduceDiv, Nat.reduceMod, Int.reduceToNat, Int.reduceLT, Int.reduceLE, Int.reduceAdd, Int.reduceSub, Int.reduceMul, Int.reduceEq, Int.reduceNeg, reduceCtorEq, resV, resAll, ARes.ev, LV.flat, ite_true, ite_false, exists_eq_left', exists_eq_left, keyOf, implies_true, fillC, capOf]
      rw [decide_eq_true (by
        apply List.ext_getElem hl'
        intro i h2 h3
        have := hj i (by omega)
        simpa [h2, h3] using this)]
      exact cmp_drop0 rfl
  · simp (disch := omega) only [hl, ↓SXd, SXu, slBounds, ↓sop, ↓aop, ↓reduceIte, LV.cells, AOp.dst, LV.I, LV.B, LV.U, LV.S, LV.nil, Nat.reduceEqDiff, Nat.reduceAdd, Nat.reduceMul, Nat.reduceSub, Nat.reduceLeDiff, Nat.reduceBEq, Nat.reduceDiv, Nat.reduceMod, Int.reduceToNat, Int.reduceLT, Int.reduceLE, Int.reduceAdd, Int.reduceSub, Int.reduceMul, Int.reduceEq, Int.reduceNeg, reduceCtorEq, resV, resAll, ARes.ev, LV.flat, ite_true, ite_false, exists_eq_left', exists_eq_left, keyOf, implies_true, fillC, capOf]
    rw [decide_eq_false (fun e => hl (by rw [e]))]
    exact cmp_drop0 rfl
end Go.Ab

/- Contracts: shadows of heaps, the reference's side. -/
namespace Go.Ab
open Go
set_option linter.unusedSimpArgs false
set_option linter.unusedVariables false

def onesL (v : List Int) : List Int := v.map fun n => min n 1
def shdOf (x y z : Int) (d : Nat) (cs : List Cell) : List Int := onesL (viewL x y z d cs)
end Go.Ab

/- Contracts: whether a heap has a shadow, the reference's side. -/
namespace Go.Ab
open Go
set_option linter.unusedSimpArgs false
set_option linter.unusedVariables false

theorem lines_le {x y z : Int} {d : Nat} (hS : Sides x y z) (hd : d < 3) : 1 ≤ linesOf x y z d ∧ linesOf x y z d ≤ 16 := by
  have := prod_le hS
  rcases (show d = 0 ∨ d = 1 ∨ d = 2 by omega) with rfl | rfl | rfl
  · exact this.2.2
  · exact this.2.1
  · exact this.1
section
variable {x y z : Int} {t o : Nat} {cs : List Cell} {M : Mem} (h : Tri M t o cs) (hH : HeapOK x y z cs)
include h hH
end

/-- A set of cells has a shadow. -/
def HasShd (x y z : Int) (tp fr sd : List Int) (cs : List Cell) : Prop := shdOf x y z 2 cs = tp ∧ shdOf x y z 1 cs = fr ∧ shdOf x y z 0 cs = sd
instance (x y z : Int) (tp fr sd : List Int) (cs : List Cell) : Decidable (HasShd x y z tp fr sd cs) := by unfold HasShd; exact inferInstance
end Go.Ab

/- The abstract code of some functions (written by a program of mine from the translation, by way of prepF). -/
namespace Go.Ab.C
open Go.Ab
end Go.Ab.C

/- That the program has this code. -/
namespace Go.Ab.K
open Go Go.Ab
end Go.Ab.K

/- Contracts: marks in a shadow's lists. -/
namespace Go.Ab
open Go
set_option linter.unusedSimpArgs false
set_option linter.unusedVariables false

theorem SlC.at {M N : Mem} {w : LV} {l : List Cell} (h : SlC M w l) (hk : ∀ t o n, w = .ref t o n → N[t]? = M[t]?) : SlC N w l := by
  rcases h with h | ⟨t, ex, h1, h2⟩
  · exact .inl h
  · refine .inr ⟨t, ex, h1, ?_⟩
    unfold Live; rw [hk _ _ _ h1]; exact h2
theorem Live.at {M N : Mem} {t : Nat} {b : Blk} (h : Live M t b) (hk : N[t]? = M[t]?) : Live N t b := by unfold Live; rw [hk]; exact h

/-- What is left as it was by marks in three blocks. -/
def Pre3 (a b c : Nat) (M N : Mem) : Prop := M.length ≤ N.length ∧ ∀ u, u < M.length → u ≠ a → u ≠ b → u ≠ c → N[u]? = M[u]?
theorem Pre3.pre {a b c : Nat} {M0 M N : Mem} (hp : Pre3 a b c M N) (h : Pre M0 M) (h1 : M0.length ≤ a) (h2 : M0.length ≤ b) (h3 : M0.length ≤ c) : Pre M0 N := ⟨Nat.le_trans h.1 hp.1, fun u hu => by rw [hp.2 u (Nat.lt_of_lt_of_le hu h.1) (by omega) (by omega) (by omega)]; exact h.2 u hu⟩

end Go.Ab

/- Contracts: lit lines without a cube, the reference's side. -/
namespace Go.Ab
open Go
set_option linter.unusedSimpArgs false
set_option linter.unusedVariables false
set_option maxRecDepth 20000

theorem appendK_list {M : Mem} {t t2 o2 n n2 e b : Nat} {acc new : List LV} {A : LV → Mem → Prop} (ht : Live M t (.row acc true e)) (hn : acc.length = n * e) (h2 : Has M t2 o2 new) (hne : new.length = n2 * e) (hb : (n + n2) * b ≤ 140737488355328) (hl : n + n2 ≤ 9223372036854775807)
    (hA : ∀ u M', M.length ≤ M'.length → Live M' u (.row (acc ++ new) true e) → (u = t ∨ M.length ≤ u) → (∀ w, w ≠ t → w < M.length → M'[w]? = M[w]?) → A (.ref u 0 (n + n2)) M') : appendK e b (.ref t 0 n) (.ref t2 o2 n2) M A := by
  rcases Nat.eq_zero_or_pos n2 with h0 | h0
  · subst h0
    have : new = [] := List.eq_nil_of_length_eq_zero (by omega)
    subst this
    refine appendK_zero ?_
    exact ⟨⟨by omega, by omega⟩, hA t M (Nat.le_refl _) (by rw [List.append_nil]; exact ht) (.inl rfl) fun _ _ _ => rfl⟩
  · refine appendK_pos h0 (by rw [← hne]; exact h2.all) ht (by omega) ?_
    refine ⟨⟨hb, hl⟩, hA _ _ (by simp) ?_ (.inr (Nat.le_refl _)) fun w hw hwl => ?_⟩
    · unfold Live
      rw [List.getElem?_append_right (by simp)]
      simp [← hn]
    · rw [List.getElem?_append_left (by simpa using hwl), List.getElem?_set_ne (fun e => hw e.symm)]
theorem pre_stepL {M0 M M' : Mem} {t : Nat} (hp : Pre M0 M) (ht : M0.length ≤ t) (hl : M.length ≤ M'.length) (hu : ∀ u, u ≠ t → u < M.length → M'[u]? = M[u]?) : Pre M0 M' :=
  ⟨Nat.le_trans hp.1 hl, fun u hu' => by rw [hu u (by omega) (Nat.lt_of_lt_of_le hu' hp.1)]; exact hp.2 u hu'⟩

def boolL (v : List Bool) : List LV := v.map LV.B
theorem h_l1Own {xs : List Int} {t o : Nat} {M : Mem} (h : Ints M t o xs) (hn : xs.length ≤ 1000000000) : CallsTo PG F.spec_l1Own [.ref t o xs.length] M (.ref M.length 0 xs.length) (M ++ [some (.row (intL xs) true 1)]) := by
  refine calls_run K.spec_l1Own rfl ?_
  simp (disch := omega) only [C.spec_l1Own, ↓SXd, SXu, slBounds, ↓sop, ↓aop, ↓reduceIte, LV.cells, AOp.dst, LV.I, LV.B, LV.U, LV.S, LV.nil, Nat.reduceEqDiff, Nat.reduceAdd, Nat.reduceMul, Nat.reduceSub, Nat.reduceLeDiff, Nat.reduceBEq, Nat.reduceDiv, Nat.reduceMod, Int.reduceToNat, Int.reduceLT, Int.reduceLE, Int.reduceAdd, Int.reduceSub, Int.reduceMul, Int.reduceEq, Int.reduceNeg, reduceCtorEq, resV, resAll, ARes.ev, LV.flat, ite_true, ite_false, exists_eq_left', exists_eq_left, keyOf, implies_true, fillC, capOf]
  refine appendK_list (acc := []) (n := 0) Live.new rfl h.app (by rw [intL_len, Nat.mul_one]) (by omega) (by omega) fun u N k1 k2 k3 k4 => ?_
  simp (disch := omega) only [↓SXd, SXu, slBounds, ↓sop, ↓aop, ↓reduceIte, LV.cells, AOp.dst, LV.I, LV.B, LV.U, LV.S, LV.nil, Nat.reduceEqDiff, Nat.reduceAdd, Nat.reduceMul, Nat.reduceSub, Nat.reduceLeDiff, Nat.reduceBEq, Nat.reduceDiv, Nat.reduceMod, Int.reduceToNat, Int.reduceLT, Int.reduceLE, Int.reduceAdd, Int.reduceSub, Int.reduceMul, Int.reduceEq, Int.reduceNeg, reduceCtorEq, resV, resAll, ARes.ev, LV.flat, ite_true, ite_false, exists_eq_left', exists_eq_left, keyOf, implies_true, fillC, capOf]
  exact cmp_keepL (pre_stepL (Pre.app _ _) (t := M.length) (Nat.le_refl _) k1 k4) (by simp at k3; omega) k2 (intL_lo _) (by simp [rn, rn0, rn1])

def stepTo (y z : Int) (tp fr : List Int) (V : List Bool) (c : Cell) : Nat → List Bool
  | 0 => V
  | k + 1 => (stepTo y z tp fr V c k).set (gl y z tp fr (2 - k) c) false
end Go.Ab

/- Contracts: pieces put into a list of numbers, the reference's side. -/
namespace Go.Ab
open Go
set_option linter.unusedSimpArgs false
set_option linter.unusedVariables false
set_option maxRecDepth 20000

def At3 (p : Cell) : Prop := (0 ≤ p.a ∧ p.a ≤ 3) ∧ (0 ≤ p.b ∧ p.b ≤ 3) ∧ (0 ≤ p.c ∧ p.c ≤ 3)
def FitsP (x y z : Int) (cs l : List Cell) (p : Cell) : Prop := At3 p ∧ ∀ c ∈ l, (shift p c).inBox x y z ∧ shift p c ∉ cs
def startL (x y z : Int) (cs : List Cell) : List Int := (cellsOf x y z).map fun c => if c ∈ cs then -1 else -2
def setsL (y z : Int) (n : Int) (xs : List Int) (ds : List Cell) : List Int := ds.foldl (fun v d => v.set (idx y z d).toNat n) xs
def PutOK (x y z : Int) (cs l : List Cell) (p : Cell) (xs : List Int) : Prop := FitsP x y z cs l p ∧ ∀ c ∈ l, atL y z xs (shift p c) = -2
noncomputable instance {x y z : Int} {cs l : List Cell} {p : Cell} : Decidable (FitsP x y z cs l p) := Classical.propDecidable _
noncomputable instance {x y z : Int} {cs l : List Cell} {p : Cell} {xs : List Int} : Decidable (PutOK x y z cs l p xs) := Classical.propDecidable _
noncomputable def putR (x y z : Int) (cs l : List Cell) (p : Cell) (xs : List Int) (n : Int) : List Int := if PutOK x y z cs l p xs then setsL y z n xs (l.map (shift p)) else []

section
variable {l : List Cell} {t o : Nat} {M : Mem} {p : Cell} (h : Tri M t o l) (hn : l.length ≤ 64) (hin : ∀ c ∈ l, c.inBox 4 4 4) (hp : At3 p)
include h hn hin hp
end
theorem h_l1Has {xs : List Int} {t o : Nat} {n : Int} {M : Mem} (h : Ints M t o xs) (hn : xs.length ≤ 1000000000) : CallsTo PG F.spec_l1Has [.ref t o xs.length, .I n] M (.B (decide (n ∈ xs))) M := by
  refine calls_run K.spec_l1Has rfl ?_
  simp (disch := omega) only [C.spec_l1Has, ↓SXd, SXu, slBounds, ↓sop, ↓aop, ↓reduceIte, LV.cells, AOp.dst, LV.I, LV.B, LV.U, LV.S, LV.nil, Nat.reduceEqDiff, Nat.reduceAdd, Nat.reduceMul, Nat.reduceSub, Nat.reduceLeDiff, Nat.reduceBEq, Nat.reduceDiv, Nat.reduceMod, Int.reduceToNat, Int.reduceLT, Int.reduceLE, Int.reduceAdd, Int.reduceSub, Int.reduceMul, Int.reduceEq, Int.reduceNeg, reduceCtorEq, resV, resAll, ARes.ev, LV.flat, ite_true, ite_false, exists_eq_left', exists_eq_left, keyOf, implies_true, fillC, capOf]
  refine ev_loop (fun m fr M' => ∃ i : Nat, i + m = xs.length ∧ M' = M ∧ n ∉ xs.take i ∧ fr 0 = .ref t o xs.length ∧ fr 1 = .I n ∧ fr 5 = .I i) xs.length
    ⟨0, by omega, rfl, by simp, rfl, rfl, rfl⟩ ?_
  rintro m fr M' ⟨i, hi, rfl, hno, f0, f1, f5⟩
  simp (disch := omega) only [f0, f1, f5, ↓SXd, SXu, slBounds, ↓sop, ↓aop, ↓reduceIte, LV.cells, AOp.dst, LV.I, LV.B, LV.U, LV.S, LV.nil, Nat.reduceEqDiff, Nat.reduceAdd, Nat.reduceMul, Nat.reduceSub, Nat.reduceLeDiff, Nat.reduceBEq, Nat.reduceDiv, Nat.reduceMod, Int.reduceToNat, Int.reduceLT, Int.reduceLE, Int.reduceAdd, Int.reduceSub, Int.reduceMul, Int.reduceEq, Int.reduceNeg, reduceCtorEq, resV, resAll, ARes.ev, LV.flat, ite_true, ite_false, exists_eq_left', exists_eq_left, keyOf, implies_true, fillC, capOf]
  refine condC_dec (fun hlt => ?_) (fun hlt => ?_)
  · have hil : i < xs.length := by omega
    have hg := Ints.get h hil
    have hm := getD_mem' (d := 0) hil
    have hts : xs.take (i + 1) = xs.take i ++ [xs.getD i 0] := by
      rw [List.take_succ, List.getElem?_eq_getElem hil]; simp [hil]
    generalize xs.getD i 0 = v at hg hm hts
    by_cases he : v = n
    · simp (disch := omega) only [f0, f1, f5, hg, Nat.mul_one, he, ↓SXd, SXu, slBounds, ↓sop, ↓aop, ↓reduceIte, LV.cells, AOp.dst, LV.I, LV.B, LV.U, LV.S, LV.nil, Nat.reduceEqDiff, Nat.reduceAdd, Nat.reduceMul, Nat.reduceSub, Nat.reduceLeDiff, Nat.reduceBEq, Nat.reduceDiv, Nat.reduceMod, Int.reduceToNat, Int.reduceLT, Int.reduceLE, Int.reduceAdd, Int.reduceSub, Int.reduceMul, Int.reduceEq, Int.reduceNeg, reduceCtorEq, resV, resAll, ARes.ev, LV.flat, ite_true, ite_false, exists_eq_left', exists_eq_left, keyOf, implies_true, fillC, capOf]
      rw [decide_eq_true (he ▸ hm)]
      exact cmp_drop0 rfl
    · simp (disch := omega) only [f0, f1, f5, hg, Nat.mul_one, he, ↓SXd, SXu, slBounds, ↓sop, ↓aop, ↓reduceIte, LV.cells, AOp.dst, LV.I, LV.B, LV.U, LV.S, LV.nil, Nat.reduceEqDiff, Nat.reduceAdd, Nat.reduceMul, Nat.reduceSub, Nat.reduceLeDiff, Nat.reduceBEq, Nat.reduceDiv, Nat.reduceMod, Int.reduceToNat, Int.reduceLT, Int.reduceLE, Int.reduceAdd, Int.reduceSub, Int.reduceMul, Int.reduceEq, Int.reduceNeg, reduceCtorEq, resV, resAll, ARes.ev, LV.flat, ite_true, ite_false, exists_eq_left', exists_eq_left, keyOf, implies_true, fillC, capOf]
      exact ⟨m - 1, by omega, i + 1, by omega, rfl, by rw [hts, List.mem_append, List.mem_singleton]; rintro (h | h); exact hno h; exact he h.symm, f0, f1, eqI (natI _)⟩
  · simp (disch := omega) only [f0, f1, f5, ↓SXd, SXu, slBounds, ↓sop, ↓aop, ↓reduceIte, LV.cells, AOp.dst, LV.I, LV.B, LV.U, LV.S, LV.nil, Nat.reduceEqDiff, Nat.reduceAdd, Nat.reduceMul, Nat.reduceSub, Nat.reduceLeDiff, Nat.reduceBEq, Nat.reduceDiv, Nat.reduceMod, Int.reduceToNat, Int.reduceLT, Int.reduceLE, Int.reduceAdd, Int.reduceSub, Int.reduceMul, Int.reduceEq, Int.reduceNeg, reduceCtorEq, resV, resAll, ARes.ev, LV.flat, ite_true, ite_false, exists_eq_left', exists_eq_left, keyOf, implies_true, fillC, capOf]
    have : i = xs.length := by omega
    subst this
    rw [List.take_length] at hno
    rw [decide_eq_false hno]
    exact cmp_drop0 rfl
section
variable {x y z : Int} {t o u q : Nat} {cs l : List Cell} {p : Cell} {M : Mem} (h : Tri M t o cs) (hH : HeapOK x y z cs) (hl : Tri M u q l) (hn : l.length ≤ 64) (hin : ∀ c ∈ l, c.inBox 4 4 4)
include h hH hl hn hin
end
end Go.Ab

/- Contracts: a piece put into a list of numbers, the reference's side. -/
namespace Go.Ab
open Go
set_option linter.unusedSimpArgs false
set_option linter.unusedVariables false
set_option maxRecDepth 20000

def PutRes (M : Mem) (ok : Prop) [Decidable ok] (r : List Int) (v : LV) (N : Mem) : Prop := ∃ t, v = .tup [.ref t 0 r.length, .B (decide ok)] ∧ Live N t (.row (intL r) true 1) ∧ M.length ≤ t ∧ Pre M N
section
variable {x y z : Int} {t o u q w r : Nat} {cs l : List Cell} {p : Cell} {xs : List Int} {n : Int} {M : Mem} (h : Tri M t o cs) (hH : HeapOK x y z cs) (hl : Tri M u q l) (hP : PieceOK l) (hp : Small p) (hX : Ints M w r xs) (hxn : xs.length = vol x y z)
include h hH hl hP hp hX hxn
end
end Go.Ab

/- Plain: all packings, in the order of the search. -/
namespace Go.Ab
open Go
set_option linter.unusedSimpArgs false
set_option linter.unusedVariables false

/-- The first hole of a list. -/
def hole (xs : List Int) : Nat := (xs.takeWhile fun v => v != -2).length
def placeAt (y z : Int) (L : List (List Cell)) (i k : Nat) : Cell := shift (negC ((L.getD i []).getD 0 default)) (cellAt y z k)
noncomputable def nextL (x y z : Int) (cs : List Cell) (L : List (List Cell)) (xs : List Int) (i : Nat) : List Int := putR x y z cs (L.getD i []) (placeAt y z L i (hole xs)) xs i
noncomputable def brP (x y z : Int) (cs : List Cell) (L : List (List Cell)) (g : List Int → List (List Int)) (xs : List Int) (i : Nat) : List (List Int) :=
  if (i : Int) ∈ xs then [] else if PutOK x y z cs (L.getD i []) (placeAt y z L i (hole xs)) xs then g (nextL x y z cs L xs i) else []
def leafP (n : Nat) (xs : List Int) : List (List Int) := if ∀ i : Nat, i < n → (i : Int) ∈ xs then [xs] else []
noncomputable def packs (x y z : Int) (cs : List Cell) (L : List (List Cell)) : Nat → List Int → List (List Int)
  | 0, xs => if (-2 : Int) ∈ xs then (List.range L.length).flatMap (brP x y z cs L (fun _ => []) xs) else leafP L.length xs
  | f + 1, xs => if (-2 : Int) ∈ xs then (List.range L.length).flatMap (brP x y z cs L (packs x y z cs L f) xs) else leafP L.length xs
noncomputable def packsB (x y z : Int) (cs : List Cell) (L : List (List Cell)) : Nat → List Int → List (List Int)
  | 0 => fun _ => []
  | f + 1 => packs x y z cs L f
theorem flat_succ {β : Type} {f : Nat → List β} {i : Nat} : (List.range (i + 1)).flatMap f = (List.range i).flatMap f ++ f i := by
  rw [List.range_succ, List.flatMap_append]; simp
/-- The pieces that a list lacks are among these. -/
def Lacks (n : Nat) (xs : List Int) (S : List Nat) : Prop := ∀ i, i < n → (i : Int) ∉ xs → i ∈ S
section
variable {x y z : Int} {cs : List Cell} {L : List (List Cell)} {xs : List Int} {i : Nat} {S : List Nat} {p : Cell} {l : List Cell} {n : Int}
end
/-- What a search makes of what was found. -/
def selP (once : Bool) (P : List (List Int)) : List (List Int) := if once then P.take 1 else P
def fndP (F : List Int × Nat) (R : List (List Int)) : List Int × Nat := (if F.2 = 0 then R.headD F.1 else F.1, F.2 + R.length)
end Go.Ab

/- Plain words: all staircases of a box by their heights; their number as a quotient. -/
namespace Go.Ab
open Go
set_option linter.unusedSimpArgs false
set_option linter.unusedVariables false

/-- The greatest height that may follow some heights. -/
def mostS (y : Nat) (z : Int) (l : List Int) : Int :=
  if 0 < l.length % y then min (if y ≤ l.length then min z (l.getD (l.length - y) 0) else z) (l.getD (l.length - 1) 0) else if y ≤ l.length then min z (l.getD (l.length - y) 0) else z
def allS (y : Nat) (z : Int) : Nat → List Int → List (List Int)
  | 0, l => [l]
  | n + 1, l => (List.range (mostS y z l + 1).toNat).flatMap fun (h : Nat) => allS y z n (l ++ [(h : Int)])
def OkS (z : Int) (l : List Int) : Prop := ∀ a ∈ l, 0 ≤ a ∧ a ≤ z
def pcell (z : Nat) (s : Nat × Nat) (i k : Nat) : Nat × Nat := ((s.1 * (i + k + 1 + z)) / Nat.gcd (s.1 * (i + k + 1 + z)) (s.2 * (i + k + 1)), (s.2 * (i + k + 1)) / Nat.gcd (s.1 * (i + k + 1 + z)) (s.2 * (i + k + 1)))
def prow (z : Nat) (s : Nat × Nat) (i : Nat) : Nat → Nat × Nat
  | 0 => s
  | k + 1 => pcell z (prow z s i k) i k
def pall (y z : Nat) : Nat → Nat × Nat
  | 0 => (1, 1)
  | i + 1 => prow z (pall y z i) i y
/-- The program's number of staircases. -/
def cntSP (x y z : Nat) : Nat := (pall y z x).1 / (pall y z x).2
def rrow (z : Nat) (s : Nat × Nat) (i : Nat) : Nat → Nat × Nat
  | 0 => s
  | k + 1 => ((rrow z s i k).1 * (i + k + 1 + z), (rrow z s i k).2 * (i + k + 1))
def rred (s : Nat × Nat) : Nat × Nat := (s.1 / Nat.gcd s.1 s.2, s.2 / Nat.gcd s.1 s.2)
def rall (y z : Nat) : Nat → Nat × Nat
  | 0 => (1, 1)
  | i + 1 => rred (rrow z (rall y z i) i y)
/-- The reference's. -/
def cntSR (x y z : Nat) : Nat := (rall y z x).1 / (rall y z x).2
def small1 (s : Nat × Nat) : Bool := decide (1 ≤ s.1) && decide (s.1 ≤ 1000000000000000) && decide (1 ≤ s.2) && decide (s.2 ≤ 1000000000000000)
end Go.Ab

/- The abstract code of some functions (written by a program of mine from the translation, by way of prepF). -/
namespace Go.Ab.C
open Go.Ab
end Go.Ab.C

/- That the program has this code. -/
namespace Go.Ab.K
open Go Go.Ab
end Go.Ab.K

/- The abstract code of some functions (written by a program of mine from the translation, by way of prepF). -/
namespace Go.Ab.C
open Go.Ab
end Go.Ab.C

/- That the program has this code. -/
namespace Go.Ab.K
open Go Go.Ab
end Go.Ab.K

/- The abstract code of some functions (written by a program of mine from the translation, by way of prepF). -/
namespace Go.Ab.C
open Go.Ab
end Go.Ab.C

/- That the program has this code. -/
namespace Go.Ab.K
open Go Go.Ab
end Go.Ab.K

/- The abstract code of some functions (written by a program of mine from the translation, by way of prepF). -/
namespace Go.Ab.C
open Go.Ab
end Go.Ab.C

/- That the program has this code. -/
namespace Go.Ab.K
open Go Go.Ab
end Go.Ab.K

/- The abstract code of some functions (written by a program of mine from the translation, by way of prepF). -/
namespace Go.Ab.C
open Go.Ab
end Go.Ab.C

/- That the program has this code. -/
namespace Go.Ab.K
open Go Go.Ab
end Go.Ab.K

/- The abstract code of some functions (written by a program of mine from the translation, by way of prepF). -/
namespace Go.Ab.C
open Go.Ab
end Go.Ab.C

/- That the program has this code. -/
namespace Go.Ab.K
open Go Go.Ab
end Go.Ab.K

/- The abstract code of some functions (written by a program of mine from the translation, by way of prepF). -/
namespace Go.Ab.C
open Go.Ab
end Go.Ab.C

/- That the program has this code. -/
namespace Go.Ab.K
open Go Go.Ab
end Go.Ab.K

/- Contracts: what the laws draw from their bytes: numbers (only that there is one, and in which bounds). -/
namespace Go.Ab
open Go
set_option linter.unusedSimpArgs false
set_option linter.unusedVariables false
set_option maxRecDepth 20000

/-- Bytes in memory. -/
def byL (bs : List Nat) : List LV := bs.map fun (b : Nat) => LV.val (.int .u8 (b : Int))
theorem byL_len (bs : List Nat) : (byL bs).length = bs.length := by simp [byL]
def Bytes (M : Mem) (t o : Nat) (bs : List Nat) : Prop := Has M t o (byL bs)
theorem Bytes.get {M : Mem} {t o k : Nat} {bs : List Nat} (h : Bytes M t o bs) (hk : k < bs.length) : getCell M t (o + k) = some (.val (.int .u8 ((bs.getD k 0 : Nat) : Int))) := by
  rw [Has.get h (by rw [byL_len]; exact hk)]
  simp [byL, hk]
/-- The reader of the bytes, in block p; it has read at most a times. -/
def CurAt (M : Mem) (p t o : Nat) (bs : List Nat) (a : Nat) : Prop := (∃ (i : Nat) (s : Int), i ≤ a ∧ Live M p (.row [.ref t o bs.length, .I i, .val (.int .u64 s)] true 0)) ∧ Bytes M t o bs ∧ t ≠ p ∧ (∀ b ∈ bs, b ≤ 255) ∧ bs.length ≤ 1000000000
/-- What a draw leaves: all but the reader is as before. -/
def DrawN (M : Mem) (p t o : Nat) (bs : List Nat) (a : Nat) (N : Mem) : Prop := CurAt N p t o bs a ∧ M.length ≤ N.length ∧ ∀ q, q < M.length → q ≠ p → N[q]? = M[q]?
theorem Has.at' {M N : Mem} {t o : Nat} {vs : List LV} (h : Has M t o vs) (hk : N[t]? = M[t]?) : Has N t o vs := by
  obtain ⟨row, h1, h2⟩ := h
  refine ⟨row, ?_, h2⟩
  unfold getRow at *
  rw [hk]; exact h1
theorem CurAt.keep {M N : Mem} {p t o : Nat} {bs : List Nat} {a b : Nat} (h : CurAt M p t o bs a) (hk : ∀ q, q < M.length → N[q]? = M[q]?) (hab : a ≤ b) : CurAt N p t o bs b := by
  obtain ⟨⟨i, s, h1, h2⟩, h3, h4⟩ := h
  exact ⟨⟨i, s, by omega, Live.at h2 (hk _ h2.lt)⟩, Has.at' h3 (hk _ h3.lt), h4⟩
theorem DrawN.trans {M N N' : Mem} {p t o : Nat} {bs : List Nat} {a b : Nat} (h : DrawN M p t o bs a N) (k : DrawN N p t o bs b N') : DrawN M p t o bs b N' :=
  ⟨k.1, Nat.le_trans h.2.1 k.2.1, fun q h1 h2 => by rw [k.2.2 q (Nat.lt_of_lt_of_le h1 h.2.1) h2]; exact h.2.2 q h1 h2⟩
theorem CurAt.pre {M N : Mem} {p t o : Nat} {bs : List Nat} {a : Nat} (h : CurAt M p t o bs a) (hp : Pre M N) : CurAt N p t o bs a := h.keep hp.2 (Nat.le_refl _)
section
variable {p t o a : Nat} {bs : List Nat} {M : Mem}
end
end Go.Ab

/- Contracts: the laws' helpers on lists of numbers; cuts at an if. -/
namespace Go.Ab
open Go
set_option linter.unusedSimpArgs false
set_option linter.unusedVariables false
set_option maxRecDepth 20000

theorem IntsV.lenV {N : Mem} {v : LV} {l : List Int} (h : IntsV N v l) : lenV v = some (l.length : Int) := by
  rcases h with ⟨rfl, rfl⟩ | ⟨t, o, rfl, _⟩ <;> rfl
theorem IntsV.at {N : Mem} {v : LV} {l : List Int} {k : Nat} (h : IntsV N v l) (hk : k < l.length) : ∃ t o, v = .ref t o l.length ∧ getCell N t (o + k) = some (.I (l.getD k 0)) := by
  rcases h with ⟨rfl, rfl⟩ | ⟨t, o, rfl, h⟩
  · simp at hk
  · exact ⟨t, o, rfl, Ints.get h hk⟩
end Go.Ab

/- The abstract code of some functions (written by a program of mine from the translation, by way of prepF). -/
namespace Go.Ab.C
open Go.Ab
end Go.Ab.C

/- That the program has this code. -/
namespace Go.Ab.K
open Go Go.Ab
end Go.Ab.K

/- The abstract code of some functions (written by a program of mine from the translation, by way of prepF). -/
namespace Go.Ab.C
open Go.Ab
end Go.Ab.C

/- That the program has this code. -/
namespace Go.Ab.K
open Go Go.Ab
end Go.Ab.K

/- The abstract code of some functions (written by a program of mine from the translation, by way of prepF). -/
namespace Go.Ab.C
open Go.Ab
end Go.Ab.C

/- That the program has this code. -/
namespace Go.Ab.K
open Go Go.Ab
end Go.Ab.K

/- Contracts: the cells without cubes, as a heap, and stacks; the reference's side. -/
namespace Go.Ab
open Go
set_option linter.unusedSimpArgs false
set_option linter.unusedVariables false
set_option maxRecDepth 20000

section
variable {x y z : Int} {t o : Nat} {cs : List Cell} {M : Mem} (h : Tri M t o cs) (hn : cs.length ≤ 1000000000)
include h hn
end
def stackP (y : Int) (hs : List Int) (c : Cell) : Bool := decide (c.c < hs.getD (c.a * y + c.b).toNat 0)
end Go.Ab

/- The abstract code of some functions (written by a program of mine from the translation, by way of prepF). -/
namespace Go.Ab.C
open Go.Ab
end Go.Ab.C

/- That the program has this code. -/
namespace Go.Ab.K
open Go Go.Ab
end Go.Ab.K

/- Contracts: full boxes of the reference. -/
namespace Go.Ab
open Go
set_option linter.unusedSimpArgs false
set_option linter.unusedVariables false
set_option maxRecDepth 20000

/-- A heap as a value, all of whose cells are new. -/
def HeapV (M : Mem) (x y z : Int) (cs : List Cell) (v : LV) (N : Mem) : Prop := ∃ u : Nat, v = .agg [.I x, .I y, .I z, .ref u 0 cs.length] ∧ Live N u (.row (triL cs) true 3) ∧ M.length ≤ u
end Go.Ab

/- Contracts: pieces that fit, places, boxes, parities: the reference's side. -/
namespace Go.Ab
open Go
set_option linter.unusedSimpArgs false
set_option linter.unusedVariables false
set_option maxRecDepth 20000

def FitQ (x y z : Int) (cs l : List Cell) : Prop := HeapOK x y z cs ∧ PieceOK l
noncomputable def fitOf (x y z : Int) (cs l : List Cell) (p : Cell) : Option Bool := by
  classical
  exact if FitQ x y z cs l then some (decide (FitsP x y z cs l p)) else none
noncomputable def placesOf (x y z : Int) (cs l : List Cell) : Option (List Cell) := by
  classical
  exact if FitQ x y z cs l then some (pick x y z fun c => decide (FitsP x y z cs l c)) else none
noncomputable def boxOf (x y z : Int) : Option (List Cell) := by
  classical
  exact if Sides x y z ∧ vol x y z ≤ 5 then some (cellsOf x y z) else none
noncomputable def ppOf (l : List Cell) : Option Int := by
  classical
  exact if PieceOK l then some (max (parL l) (0 - parL l)) else none
noncomputable def fpOf (x y z : Int) (cs : List Cell) : Option Int := by
  classical
  exact if HeapOK x y z cs then some (parL (pick x y z (freeP cs))) else none
section
variable {x y z : Int} {t o u q : Nat} {cs l : List Cell} {M : Mem} (h : Tri M t o cs) (hn : cs.length ≤ 1000000000) (hl : Tri M u q l) (hln : l.length ≤ 1000000000)
include hl hln
include h hn
end
end Go.Ab

/- Contracts: pieces that fit, places, boxes, parities, other cells: the program's side. -/
namespace Go.Ab
open Go
set_option linter.unusedSimpArgs false
set_option linter.unusedVariables false
set_option maxRecDepth 20000

noncomputable instance {x y z : Int} {cs l : List Cell} : Decidable (FitQ x y z cs l) := Classical.propDecidable _
section
variable {x y z : Int} {t o u q : Nat} {cs l : List Cell} {M : Mem} (h : Tri M t o cs) (hn : cs.length ≤ 1000000000) (hl : Tri M u q l) (hln : l.length ≤ 1000000000)
include hl hln
include h hn
end
end Go.Ab

/- Plain: boxes as pieces; parities of all cells; places. -/
namespace Go.Ab
open Go
set_option linter.unusedSimpArgs false
set_option linter.unusedVariables false
set_option maxRecDepth 20000

end Go.Ab

/- Contracts: the law of pieces' helpers. -/
namespace Go.Ab
open Go
set_option linter.unusedSimpArgs false
set_option linter.unusedVariables false
set_option maxRecDepth 20000

theorem CellsV.lenV {N : Mem} {v : LV} {l : List Cell} (h : CellsV N v l) : lenV v = some (l.length : Int) := by
  rcases h with ⟨rfl, rfl⟩ | ⟨t, o, rfl, _⟩ <;> rfl
theorem CellsV.at {N : Mem} {v : LV} {l : List Cell} {k : Nat} (h : CellsV N v l) (hk : k < l.length) : ∃ t o, v = .ref t o l.length ∧ getCells N t (o + k * 3) 3 = some (l.getD k default).row := by
  rcases h with ⟨rfl, rfl⟩ | ⟨t, o, rfl, h⟩
  · simp at hk
  · exact ⟨t, o, rfl, Tri.get h hk⟩
end Go.Ab

/- The abstract code of some functions (written by a program of mine from the translation, by way of prepF). -/
namespace Go.Ab.C
open Go.Ab
end Go.Ab.C

/- That the program has this code. -/
namespace Go.Ab.K
open Go Go.Ab
end Go.Ab.K

/- Contracts: shadows of sets, the program's side. -/
namespace Go.Ab
open Go
set_option linter.unusedSimpArgs false
set_option linter.unusedVariables false
set_option maxRecDepth 20000

theorem keepL_pr {M N : Mem} (h : Pre M N) (ks : List Nat) : KeepL ks M N = True := by
  simp only [eq_iff_iff, iff_true]
  intro k _ b hb
  rw [h.2 k (by
    rcases Nat.lt_or_ge k M.length with h1 | h1
    · exact h1
    · rw [List.getElem?_eq_none h1] at hb; cases hb)]
  exact hb
def onesTo (k : Nat) (v : List Int) : List Int := onesL (v.take k) ++ v.drop k
end Go.Ab

/- Contracts: keys, taking orders and their number, the reference's side. -/
namespace Go.Ab
open Go
set_option linter.unusedSimpArgs false
set_option linter.unusedVariables false
set_option maxRecDepth 20000

/-- A list of cells and a truth value. -/
def CellsY (M : Mem) (r : Option (List Cell)) (v : LV) (N : Mem) : Prop := ∃ w, v = .tup [w, .B r.isSome] ∧ CellsV N w (r.getD []) ∧ Pre M N
theorem CellsRes.y {M N : Mem} {r : Option (List Cell)} {v : LV} (h : CellsRes M r v N) : CellsY M r v N := by
  obtain ⟨w, h1, h2, _, h3⟩ := h
  exact ⟨w, h1, h2.v, h3⟩
noncomputable def canB (x y z : Int) (cs : List Cell) (c : Cell) : Bool := stdB x y z cs && decide (c.inBox x y z)
noncomputable def canR (x y z : Int) (cs : List Cell) (c : Cell) : Bool := canB x y z cs c && canTake x y z (fun d => decide (d ∈ cs)) c
noncomputable def ordR (x y z : Int) (cs l : List Cell) : Bool := stdB x y z cs && tkOrd x y z cs l
noncomputable def tksB (x y z : Int) (cs : List Cell) : Bool := stdB x y z cs && decide (cs.length ≤ 8)
noncomputable def tksN (x y z : Int) (cs : List Cell) : Nat := if tksB x y z cs = true then tkN x y z cs.length (fun d => decide (d ∈ cs)) else 0

section
variable {x y z : Int} {t : Nat} {w : Bool} {cs : List Cell} {M : Mem} (h : Live M t (.row (triL cs) w 3)) (hn : cs.length ≤ 1000000000)
include h hn
end
end Go.Ab

/- Contracts: keys, taking orders, the program's side. Maps with sets as keys. -/
namespace Go.Ab
open Go
set_option linter.unusedSimpArgs false
set_option linter.unusedVariables false
set_option maxRecDepth 20000

section
variable {x y z : Int} {t : Nat} {w : Bool} {cs : List Cell} {M : Mem} (h : Live M t (.row (triL cs) w 3)) (hn : cs.length ≤ 1000000000)
include h hn
end

end Go.Ab

/- Contracts: the number of taking orders, with a map of what was counted. -/
namespace Go.Ab
open Go
set_option linter.unusedSimpArgs false
set_option linter.unusedVariables false
set_option maxRecDepth 20000

/-- A map from sets to numbers. -/
def memE (L : List (BitVec 64 × Int)) : List (LV × LV) := L.map fun q => (LV.W q.1, LV.I q.2)
/-- All blocks but one stay. -/
def But1 (t : Nat) (M N : Mem) : Prop := M.length ≤ N.length ∧ ∀ u, u ≠ t → u < M.length → N[u]? = M[u]?
theorem But1.trans {t : Nat} {M N N' : Mem} (h : But1 t M N) (k : But1 t N N') : But1 t M N' := ⟨Nat.le_trans h.1 k.1, fun u h1 h2 => by rw [k.2 u h1 (Nat.lt_of_lt_of_le h2 h.1)]; exact h.2 u h1 h2⟩
theorem But1.of {t : Nat} {M N : Mem} (h : Pre M N) : But1 t M N := ⟨h.1, fun u _ h2 => h.2 u h2⟩
theorem Live.but {t q : Nat} {M N : Mem} {b : Blk} (h : Live M q b) (k : But1 t M N) (h1 : q ≠ t) : Live N q b := Live.at h (k.2 q h1 h.lt)

section
variable {x y z : Int} (hS : Sides x y z)
include hS
end

/-- What the map says is true. -/
def MemoT (x y z : Int) (L : List (BitVec 64 × Int)) : Prop := (∃ q ∈ L, q.1 = 0#64) ∧ ∀ q ∈ L, ∀ p : Cell → Bool, q.1 = bs x y z p → q.2 = (tkN x y z (pick x y z p).length p : Nat)

end Go.Ab

/- A nil slice may be taken for an empty one that lies nowhere. -/
namespace Go.Ab
open Go

def Den1 (t : Nat) (a b : LV) : Prop := a = b ∨ (a = .nil ∧ b = .ref t 0 0)
def Den0 (t : Nat) (a b : LV) : Prop := Den1 t a b ∨ ∃ cs ds, a = .agg cs ∧ b = .agg ds ∧ All2 (Den1 t) cs ds
def Den (t : Nat) (a b : LV) : Prop := Den0 t a b ∨ ∃ cs ds, a = .tup cs ∧ b = .tup ds ∧ All2 (Den0 t) cs ds
theorem Den1.rfl {t : Nat} {a : LV} : Den1 t a a := .inl (Eq.refl a)
theorem Den0.rfl {t : Nat} {a : LV} : Den0 t a a := .inl .rfl
theorem Den1.nil {t : Nat} : Den1 t .nil (.ref t 0 0) := .inr ⟨Eq.refl _, Eq.refl _⟩
section
variable {G : Gh} {t : Nat} {β : Base} (hg : G t = some β)
include hg
end
end Go.Ab

/- The abstract code of some functions (written by a program of mine from the translation, by way of prepF). -/
namespace Go.Ab.C
open Go.Ab
end Go.Ab.C

/- That the program has this code. -/
namespace Go.Ab.K
open Go Go.Ab
end Go.Ab.K

/- The abstract code of some functions (written by a program of mine from the translation, by way of prepF). -/
namespace Go.Ab.C
open Go.Ab
end Go.Ab.C

/- That the program has this code. -/
namespace Go.Ab.K
open Go Go.Ab
end Go.Ab.K

/- The abstract code of some functions (written by a program of mine from the translation, by way of prepF). -/
namespace Go.Ab.C
open Go.Ab
end Go.Ab.C

/- That the program has this code. -/
namespace Go.Ab.K
open Go Go.Ab
end Go.Ab.K

/- The abstract code of some functions (written by a program of mine from the translation, by way of prepF). -/
namespace Go.Ab.C
open Go.Ab
end Go.Ab.C

/- That the program has this code. -/
namespace Go.Ab.K
open Go Go.Ab
end Go.Ab.K

/- The abstract code of some functions (written by a program of mine from the translation, by way of prepF). -/
namespace Go.Ab.C
open Go.Ab
end Go.Ab.C

/- That the program has this code. -/
namespace Go.Ab.K
open Go Go.Ab
end Go.Ab.K

/- Contracts: the heaps that the laws draw. -/
namespace Go.Ab
open Go
set_option linter.unusedSimpArgs false
set_option linter.unusedVariables false
set_option maxRecDepth 20000

section
variable {p t o a : Nat} {bs : List Nat} {M : Mem}
theorem DrawN.up {M N : Mem} {p t o : Nat} {bs : List Nat} {a b : Nat} (h : DrawN M p t o bs a N) (hab : a ≤ b) : DrawN M p t o bs b N := ⟨h.1.keep (fun _ _ => rfl) hab, h.2⟩
end
theorem DrawN.keep {M N N' : Mem} {p t o : Nat} {bs : List Nat} {a b : Nat} (h : DrawN M p t o bs a N) (hp : p < M.length) (ht : t < M.length) (hab : a ≤ b) (hl : N.length ≤ N'.length) (hk : ∀ q, q < M.length → N'[q]? = N[q]?) : DrawN M p t o bs b N' := by
  obtain ⟨⟨⟨i, s, h1, h2⟩, h3, h4⟩, h5, h6⟩ := h
  exact ⟨⟨⟨i, s, by omega, Live.at h2 (hk _ hp)⟩, Has.at' h3 (hk _ ht), h4⟩, by omega, fun q q1 q2 => by rw [hk q q1]; exact h6 q q1 q2⟩
section
variable {p t o a : Nat} {bs : List Nat} {M : Mem}
/-- A heap that was drawn. -/
def HeapN (M : Mem) (x y z : Int) (v : LV) (N : Mem) : Prop := ∃ (cs : List Cell) (u : Nat), v = .agg [.I x, .I y, .I z, .ref u 0 cs.length] ∧ Live N u (.row (triL cs) true 3) ∧ M.length ≤ u ∧ cs.length ≤ 64
/-- The same, with all that is known of its cells. -/
def HeapNK (M : Mem) (x y z : Int) (v : LV) (N : Mem) : Prop := ∃ (cs : List Cell) (u : Nat), v = .agg [.I x, .I y, .I z, .ref u 0 cs.length] ∧ Live N u (.row (triL cs) true 3) ∧ M.length ≤ u ∧ cs.length ≤ 64 ∧ (Sides x y z → HeapOK x y z cs)
end
end Go.Ab

/- Contracts: the heap that a law draws from its bytes. -/
namespace Go.Ab
open Go
set_option linter.unusedSimpArgs false
set_option linter.unusedVariables false
set_option maxRecDepth 20000

/-- A new reader. -/
theorem CurAt.new {t o : Nat} {bs : List Nat} {M : Mem} (hB : Bytes M t o bs) (h255 : ∀ b ∈ bs, b ≤ 255) (hl : bs.length ≤ 1000000000) : CurAt (M ++ [some (.row [.ref t o bs.length, .I 0, .val (.int .u64 0)] true 0)]) M.length t o bs 0 := by
  have ht := hB.lt
  exact ⟨⟨0, 0, Nat.le_refl _, Live.new⟩, Has.app hB, by omega, h255, hl⟩
/-- A heap, valid or not, all of whose cells are new. -/
def HeapD (M : Mem) (v : LV) (N : Mem) : Prop := ∃ (x y z : Int) (w : LV) (cs : List Cell), v = .agg [.I x, .I y, .I z, w] ∧ ((w = .nil ∧ cs = []) ∨ ∃ u, w = .ref u 0 cs.length ∧ Live N u (.row (triL cs) true 3)) ∧ Newer M w ∧ cs.length ≤ 65
end Go.Ab

/- The abstract code of some functions (written by a program of mine from the translation, by way of prepF). -/
namespace Go.Ab.C
open Go.Ab
end Go.Ab.C

/- That the program has this code. -/
namespace Go.Ab.K
open Go Go.Ab
end Go.Ab.K

/- Contracts: h_l10Column. -/
namespace Go.Ab
open Go
set_option linter.unusedSimpArgs false
set_option linter.unusedVariables false
set_option maxRecDepth 20000

end Go.Ab

/- The abstract code of some functions (written by a program of mine from the translation, by way of prepF). -/
namespace Go.Ab.C
open Go.Ab
end Go.Ab.C

/- That the program has this code. -/
namespace Go.Ab.K
open Go Go.Ab
end Go.Ab.K

/- The abstract code of some functions (written by a program of mine from the translation, by way of prepF). -/
namespace Go.Ab.C
open Go.Ab
end Go.Ab.C

/- That the program has this code. -/
namespace Go.Ab.K
open Go Go.Ab
end Go.Ab.K

/- Contracts: the reference's heights and neighbours. -/
namespace Go.Ab
open Go
set_option linter.unusedSimpArgs false
set_option linter.unusedVariables false

theorem HeapOK.cell {x y z : Int} {cs : List Cell} (h : HeapOK x y z cs) {k : Nat} (hk : k < cs.length) : (cs.getD k default).inBox x y z := (h.2 k hk).1

end Go.Ab

/- The abstract code of some functions (written by a program of mine from the translation, by way of prepF). -/
namespace Go.Ab.C
open Go.Ab
end Go.Ab.C

/- That the program has this code. -/
namespace Go.Ab.K
open Go Go.Ab
end Go.Ab.K

/- Contracts: h_l10Up. -/
namespace Go.Ab
open Go
set_option linter.unusedSimpArgs false
set_option linter.unusedVariables false
set_option maxRecDepth 20000

end Go.Ab

/- Contracts: h_l10Next. -/
namespace Go.Ab
open Go
set_option linter.unusedSimpArgs false
set_option linter.unusedVariables false
set_option maxRecDepth 20000

end Go.Ab

/- Contracts: what the laws of the walks draw. -/
namespace Go.Ab
open Go
set_option linter.unusedSimpArgs false
set_option linter.unusedVariables false
set_option maxRecDepth 20000

/-- A heap, valid or not, all of whose cells are new. -/
def HeapR (M : Mem) (v : LV) (N : Mem) : Prop := ∃ (x y z : Int) (cs : List Cell) (u : Nat) (ex : List Cell), v = .agg [.I x, .I y, .I z, .ref u 0 cs.length] ∧ Live N u (.row (triL (cs ++ ex)) true 3) ∧ M.length ≤ u ∧ cs.length ≤ 65
/-- The same, with nothing behind its cells. -/
def HeapE (M : Mem) (v : LV) (N : Mem) : Prop := ∃ (x y z : Int) (cs : List Cell) (u : Nat), v = .agg [.I x, .I y, .I z, .ref u 0 cs.length] ∧ Live N u (.row (triL cs) true 3) ∧ M.length ≤ u ∧ cs.length ≤ 65
theorem DrawN.stay {M N : Mem} {p t o a q : Nat} {bs : List Nat} (hd : DrawN M p t o bs a N) (h : q < M.length) (hne : q ≠ p) : ∀ b : Blk, M[q]? = some (some b) → N[q]? = some (some b) := fun b hb => by rw [hd.2.2 q h hne]; exact hb
/-- Behind a draw of a reader that is new. -/
theorem DrawN.pre {M M0 N : Mem} {p t o a : Nat} {bs : List Nat} (hd : DrawN M p t o bs a N) (h : Pre M0 M) (hp : M0.length ≤ p) : Pre M0 N :=
  ⟨Nat.le_trans h.1 hd.2.1, fun q hq => by rw [hd.2.2 q (Nat.lt_of_lt_of_le hq h.1) (by omega)]; exact h.2 q hq⟩
section
variable {p t o a : Nat} {bs : List Nat} {M : Mem}
end
section
variable {t o : Nat} {bs : List Nat} {M : Mem} (hB : Bytes M t o bs) (h255 : ∀ b ∈ bs, b ≤ 255) (hl : bs.length ≤ 1000000000)
include hB h255 hl
end
end Go.Ab

/- The abstract code of some functions (written by a program of mine from the translation, by way of prepF). -/
namespace Go.Ab.C
open Go.Ab
end Go.Ab.C

/- That the program has this code. -/
namespace Go.Ab.K
open Go Go.Ab
end Go.Ab.K

/- The abstract code of some functions (written by a program of mine from the translation, by way of prepF). -/
namespace Go.Ab.C
open Go.Ab
end Go.Ab.C

/- That the program has this code. -/
namespace Go.Ab.K
open Go Go.Ab
end Go.Ab.K

/- Contracts: the reference's statements on forms. -/
namespace Go.Ab
open Go
set_option linter.unusedSimpArgs false
set_option linter.unusedVariables false

/-- A valid heap with cubes. -/
def Filled (x y z : Int) (cs : List Cell) : Prop := HeapOK x y z cs ∧ 0 < cs.length
noncomputable instance (x y z : Int) (cs : List Cell) : Decidable (Filled x y z cs) := Classical.propDecidable _
noncomputable def formOf (x y z : Int) (cs : List Cell) : Option Hp := if Filled x y z cs then some (formHp x y z cs) else none
def symB (x y z : Int) (cs : List Cell) (T : Turn) : Bool := !lessHp (posHp x y z cs T) (cropHp cs) && !lessHp (cropHp cs) (posHp x y z cs T)
def symAt (x y z : Int) (cs : List Cell) (j : Nat) : Bool := match turns[j]? with
  | some T => symB x y z cs T
  | none => false
def symsK (x y z : Int) (cs : List Cell) (k : Nat) : List Int := ((List.range k).filter (symAt x y z cs)).map fun (j : Nat) => (j : Int)
noncomputable def symsOf (x y z : Int) (cs : List Cell) : Option (List Int) := if Filled x y z cs then some (symsK x y z cs 24) else none
noncomputable def posOf (x y z : Int) (cs : List Cell) : Int := if Filled x y z cs then ((24 : Int).tdiv ((symsK x y z cs 24).length : Nat)) else 0
end Go.Ab

/- Contracts: the reference's mirrored heaps; IsHanded, AreSameForm. -/
namespace Go.Ab
open Go
set_option linter.unusedSimpArgs false
set_option linter.unusedVariables false

def mirC (x : Int) (c : Cell) : Cell := ⟨x - 1 - c.a, c.b, c.c⟩
def mirHp (x y z : Int) (cs : List Cell) : List Cell := pick x y z fun d => decide (d ∈ cs.map (mirC x))
def handB (x y z : Int) (cs : List Cell) : Bool := !(!lessHp (formHp x y z (mirHp x y z cs)) (formHp x y z cs) && !lessHp (formHp x y z cs) (formHp x y z (mirHp x y z cs)))
noncomputable def sameForm (x y z : Int) (cs : List Cell) (x' y' z' : Int) (ds : List Cell) : Bool := !lessHp (formHp x y z cs) (formHp x' y' z' ds) && !lessHp (formHp x' y' z' ds) (formHp x y z cs)
end Go.Ab

/- The abstract code of some functions (written by a program of mine from the translation, by way of prepF). -/
namespace Go.Ab.C
open Go.Ab
end Go.Ab.C

/- That the program has this code. -/
namespace Go.Ab.K
open Go Go.Ab
end Go.Ab.K

/- The abstract code of some functions (written by a program of mine from the translation, by way of prepF). -/
namespace Go.Ab.C
open Go.Ab
end Go.Ab.C

/- That the program has this code. -/
namespace Go.Ab.K
open Go Go.Ab
end Go.Ab.K

/- The abstract code of some functions (written by a program of mine from the translation, by way of prepF). -/
namespace Go.Ab.C
open Go.Ab
end Go.Ab.C

/- That the program has this code. -/
namespace Go.Ab.K
open Go Go.Ab
end Go.Ab.K

/- Plain words: how many cells a set has, as the library counts. -/
namespace Go.Ab

def swar1 (x : BitVec 64) : BitVec 64 := (x >>> 1 &&& 6148914691236517205#64) + (x &&& 6148914691236517205#64)
def swar2 (x : BitVec 64) : BitVec 64 := (x >>> 2 &&& 3689348814741910323#64) + (x &&& 3689348814741910323#64)
def swar3 (x : BitVec 64) : BitVec 64 := (x >>> 4 + x) &&& 1085102592571150095#64
def swar4 (x : BitVec 64) : BitVec 64 := x + x >>> 8
def swar5 (x : BitVec 64) : BitVec 64 := x + x >>> 16
def swar6 (x : BitVec 64) : BitVec 64 := x + x >>> 32
def swar (x : BitVec 64) : BitVec 64 := swar6 (swar5 (swar4 (swar3 (swar2 (swar1 x))))) &&& 127#64

def onRim (x y z : Int) (c : Cell) : Bool := decide (c.a = 0 ∨ c.b = 0 ∨ c.c = 0 ∨ c.a = x - 1 ∨ c.b = y - 1 ∨ c.c = z - 1)
end Go.Ab

/- Contracts: counts of sets. -/
namespace Go.Ab
open Go
set_option linter.unusedSimpArgs false
set_option linter.unusedVariables false

theorem onRim_iff {x y z : Int} {c : Cell} (hc : c.inBox x y z) : onRim x y z c = true ↔ ∃ d : Cell, apart c d = 1 ∧ ¬ d.inBox x y z := by
  obtain ⟨⟨h1, h2⟩, ⟨h3, h4⟩, ⟨h5, h6⟩⟩ := hc
  unfold onRim
  rw [decide_eq_true_iff]
  constructor
  · rintro (h | h | h | h | h | h)
    · exact ⟨⟨c.a - 1, c.b, c.c⟩, by unfold apart; simp only; omega, fun k => by have := k.1.1; simp only at this; omega⟩
    · exact ⟨⟨c.a, c.b - 1, c.c⟩, by unfold apart; simp only; omega, fun k => by have := k.2.1.1; simp only at this; omega⟩
    · exact ⟨⟨c.a, c.b, c.c - 1⟩, by unfold apart; simp only; omega, fun k => by have := k.2.2.1; simp only at this; omega⟩
    · exact ⟨⟨c.a + 1, c.b, c.c⟩, by unfold apart; simp only; omega, fun k => by have := k.1.2; simp only at this; omega⟩
    · exact ⟨⟨c.a, c.b + 1, c.c⟩, by unfold apart; simp only; omega, fun k => by have := k.2.1.2; simp only at this; omega⟩
    · exact ⟨⟨c.a, c.b, c.c + 1⟩, by unfold apart; simp only; omega, fun k => by have := k.2.2.2; simp only at this; omega⟩
  · rintro ⟨d, hd, hk⟩
    apply Classical.byContradiction
    intro hno
    refine hk ⟨⟨?_, ?_⟩, ⟨?_, ?_⟩, ⟨?_, ?_⟩⟩ <;> (unfold apart at hd; omega)

end Go.Ab

/- Contracts: what is enclosed; the program's FillCavities. -/
namespace Go.Ab
open Go
set_option linter.unusedSimpArgs false
set_option linter.unusedVariables false

/-- What is outside: reached from the rim, by way of cells without cubes. -/
noncomputable def outer (x y z : Int) (p : Cell → Bool) : Cell → Bool := reach x y z (fun c => !p c && onRim x y z c) fun c => !p c
noncomputable def closed (x y z : Int) (p : Cell → Bool) (c : Cell) : Bool := !p c && !outer x y z p c
noncomputable def fillOf (x y z : Int) (cs : List Cell) : Option Hp := by
  classical
  exact if HeapOK x y z cs then some ⟨x, y, z, pick x y z fun c => decide (c ∈ cs) || closed x y z (fun c => decide (c ∈ cs)) c⟩ else none
end Go.Ab

/- Plain words: a search from beyond the box. -/
namespace Go.Ab

theorem getD_get {α : Type} {l : List α} {i : Nat} {d : α} (h : i < l.length) : l.getD i d = l[i] := by simp [h]
def ExtC (x y z : Int) (c : Cell) : Prop := (-1 ≤ c.a ∧ c.a ≤ x) ∧ (-1 ≤ c.b ∧ c.b ≤ y) ∧ (-1 ≤ c.c ∧ c.c ≤ z)
theorem Cell.inBox.ext {x y z : Int} {c : Cell} (h : c.inBox x y z) : ExtC x y z c := by
  obtain ⟨⟨_, _⟩, ⟨_, _⟩, ⟨_, _⟩⟩ := h
  exact ⟨⟨by omega, by omega⟩, ⟨by omega, by omega⟩, ⟨by omega, by omega⟩⟩
/-- What comes before a place. -/
def Bef (c : Cell) (i j k : Int) : Prop := c.a < i ∨ (c.a = i ∧ (c.b < j ∨ (c.b = j ∧ c.c < k)))
structure Mgn (x y z i j k : Int) (l : List Cell) : Prop where
  mem : ∀ c ∈ l, ExtC x y z c ∧ ¬ c.inBox x y z
  all : ∀ c, ExtC x y z c → ¬ c.inBox x y z → Bef c i j k → c ∈ l
  len : (l.length : Int) ≤ (i + 1) * 36 + (j + 1) * 6 + (k + 1)
theorem Mgn.nil {x y z : Int} : Mgn x y z (-1) (-1) (-1) [] := by
  refine ⟨by simp, fun c ⟨⟨_, _⟩, ⟨_, _⟩, ⟨_, _⟩⟩ _ hb => ?_, by simp⟩
  unfold Bef at hb
  omega
theorem Mgn.out {x y z i j k : Int} {l : List Cell} (h : Mgn x y z i j k l) (hk : k < 6) (hc : ExtC x y z ⟨i, j, k⟩) (ho : ¬ Cell.inBox x y z ⟨i, j, k⟩) : Mgn x y z i j (k + 1) (l ++ [⟨i, j, k⟩]) := by
  refine ⟨fun c hm => ?_, fun c h1 h2 h3 => ?_, ?_⟩
  · rcases List.mem_append.1 hm with hm | hm
    · exact h.mem c hm
    · rw [List.mem_singleton.1 hm]; exact ⟨hc, ho⟩
  · rw [List.mem_append, List.mem_singleton, cell_eq]
    unfold Bef at h3
    by_cases hb : Bef c i j k
    · exact .inl (h.all c h1 h2 hb)
    · right; unfold Bef at hb; simp only; omega
  · have := h.len; rw [List.length_append, List.length_singleton]; omega
theorem Mgn.in {x y z i j k : Int} {l : List Cell} (h : Mgn x y z i j k l) (ho : Cell.inBox x y z ⟨i, j, k⟩) : Mgn x y z i j (k + 1) l := by
  refine ⟨h.mem, fun c h1 h2 h3 => ?_, by have := h.len; omega⟩
  unfold Bef at h3
  by_cases hb : Bef c i j k
  · exact h.all c h1 h2 hb
  · unfold Bef at hb
    exact absurd (by rw [show c = ⟨i, j, k⟩ from cell_eq.2 (by simp only; omega)]; exact ho) h2
theorem Mgn.row {x y z i j k : Int} {l : List Cell} (h : Mgn x y z i j k l) (hk : z < k) (hz : k ≤ 5) : Mgn x y z i (j + 1) (-1) l := by
  refine ⟨h.mem, fun c h1 h2 h3 => h.all c h1 h2 ?_, by have := h.len; omega⟩
  obtain ⟨_, _, _, _⟩ := h1
  unfold Bef at h3 ⊢
  omega
theorem Mgn.plane {x y z i j : Int} {l : List Cell} (h : Mgn x y z i j (-1) l) (hk : y < j) (hz : j ≤ 5) : Mgn x y z (i + 1) (-1) (-1) l := by
  refine ⟨h.mem, fun c h1 h2 h3 => h.all c h1 h2 ?_, by have := h.len; omega⟩
  obtain ⟨_, ⟨_, _⟩, _, _⟩ := h1
  unfold Bef at h3 ⊢
  omega

structure Out (x y z : Int) (p : Cell → Bool) (n k : Nat) (mg r : List Cell) : Prop where
  base : ∀ c, ExtC x y z c → ¬ c.inBox x y z → c ∈ mg
  mgm : ∀ c ∈ mg, ExtC x y z c ∧ ¬ c.inBox x y z
  nodup : r.Nodup
  mem : ∀ d ∈ r, d.inBox x y z ∧ p d = false ∧ outer x y z p d = true
  done : ∀ i, i < n → i < (mg ++ r).length → ∀ e, e.inBox x y z → p e = false → apart ((mg ++ r).getD i default) e = 1 → e ∈ r
  part : ∀ j, j < k → ((nbrs ((mg ++ r).getD n default)).getD j default).inBox x y z → p ((nbrs ((mg ++ r).getD n default)).getD j default) = false → (nbrs ((mg ++ r).getD n default)).getD j default ∈ r

section
variable {x y z : Int} {p : Cell → Bool} {n k : Nat} {mg r : List Cell}
theorem Out.skip (h : Out x y z p n k mg r) (hs : ¬ ((((nbrs ((mg ++ r).getD n default)).getD k default).inBox x y z ∧ p ((nbrs ((mg ++ r).getD n default)).getD k default) = false) ∧ (nbrs ((mg ++ r).getD n default)).getD k default ∉ r)) : Out x y z p n (k + 1) mg r :=
  ⟨h.base, h.mgm, h.nodup, h.mem, h.done, fun j hj h1 h2 => by
    rcases Nat.lt_or_ge j k with h3 | h3
    · exact h.part j h3 h1 h2
    · rw [show j = k by omega] at h1 h2 ⊢
      exact Classical.byContradiction fun h4 => hs ⟨⟨h1, h2⟩, h4⟩⟩
theorem Out.add (h : Out x y z p n k mg r) (hk : k < 6) (hn : n < (mg ++ r).length) {e : Cell} (he : (nbrs ((mg ++ r).getD n default)).getD k default = e) (h1 : e.inBox x y z) (h2 : p e = false) (h3 : e ∉ r) : Out x y z p n (k + 1) mg (r ++ [e]) := by
  have hg : ∀ {j}, j < (mg ++ r).length → (mg ++ (r ++ [e])).getD j default = (mg ++ r).getD j default := fun {j} hj => by
    rw [← List.append_assoc]
    simp only [List.getD_eq_getElem?_getD]; rw [List.getElem?_append_left hj]
  have hap : apart ((mg ++ r).getD n default) e = 1 := mem_nbrs.1 (by rw [← he]; exact getD_mem' (by simpa [nbrs] using hk))
  have hout : outer x y z p e = true := by
    unfold outer
    rw [reach_iff]
    rcases List.mem_append.1 (getD_mem' (d := default) hn) with hm | hm
    · refine .base h1 ?_
      have := h.mgm _ hm
      rw [h2, (onRim_iff h1).2 ⟨_, by rw [apart_comm]; exact hap, this.2⟩]; rfl
    · have := (h.mem _ hm).2.2
      unfold outer at this
      rw [reach_iff] at this
      exact .step this hap h1 (by rw [h2]; rfl)
  refine ⟨h.base, h.mgm, ?_, fun d hd => ?_, fun i hi hil d hd hpd ha => ?_, fun j hj hb hpb => ?_⟩
  · rw [List.nodup_append]
    exact ⟨h.nodup, by simp, fun a ha b hb e' => by rw [List.mem_singleton.1 hb] at e'; subst e'; exact h3 ha⟩
  · rcases List.mem_append.1 hd with hd | hd
    · exact h.mem d hd
    · rw [List.mem_singleton.1 hd]; exact ⟨h1, h2, hout⟩
  · rw [hg (by omega)] at ha
    exact List.mem_append.2 (.inl (h.done i hi (by omega) d hd hpd ha))
  · rw [hg hn] at hb hpb ⊢
    rcases Nat.lt_or_ge j k with h5 | h5
    · exact List.mem_append.2 (.inl (h.part j h5 hb hpb))
    · rw [show j = k by omega, he]; simp
theorem Out.next (h : Out x y z p n 6 mg r) : Out x y z p (n + 1) 0 mg r := by
  refine ⟨h.base, h.mgm, h.nodup, h.mem, fun i hi hil d hd hpd ha => ?_, by omega⟩
  rcases Nat.lt_or_ge i n with h1 | h1
  · exact h.done i h1 hil d hd hpd ha
  · rw [show i = n by omega] at ha
    have hm := mem_nbrs.2 ha
    obtain ⟨j, hj, rfl⟩ := List.getElem_of_mem hm
    have hj6 : j < 6 := by simpa [nbrs] using hj
    rw [← getD_get (d := default) hj] at hd hpd ⊢
    exact h.part j hj6 hd hpd
end
end Go.Ab

/- Contracts: the reference's search from beyond the box. -/
namespace Go.Ab
open Go
set_option linter.unusedSimpArgs false
set_option linter.unusedVariables false

def steps : List Cell := [⟨-1, 0, 0⟩, ⟨1, 0, 0⟩, ⟨0, -1, 0⟩, ⟨0, 1, 0⟩, ⟨0, 0, -1⟩, ⟨0, 0, 1⟩]
theorem Live.step {N : Mem} {t k : Nat} (h : Live N t (.row (triL steps) true 0)) (hk : k < 6) : getCells N t (k * 3) 3 = some (steps.getD k default).row := by
  have := Tri.get (cs := steps) (o := 0) h.has (k := k) hk
  rwa [Nat.zero_add] at this

end Go.Ab

/- Contracts: the heaps of few cubes that a law draws; mirrored heaps of the reference, in any direction. -/
namespace Go.Ab
open Go
set_option linter.unusedSimpArgs false
set_option linter.unusedVariables false
set_option maxRecDepth 20000

def negD (c : Cell) : Cell := ⟨max 0 (0 - c.a), max 0 (0 - c.b), max 0 (0 - c.c)⟩
end Go.Ab

/- Plain words: the turns as a group; forms of turned heaps; symmetries and positions. -/
namespace Go.Ab
open Go
set_option linter.unusedSimpArgs false
set_option linter.unusedVariables false
set_option maxRecDepth 20000

def xorI (a b : Int) : Int := if a = b then 0 else 1
/-- First the one turn, then the other. -/
def behind (t u : Turn) : Turn := ⟨⟨t.fr.at u.fr.a, t.fr.at u.fr.b, t.fr.at u.fr.c⟩, ⟨xorI (t.fl.at u.fr.a) u.fl.a, xorI (t.fl.at u.fr.b) u.fl.b, xorI (t.fl.at u.fr.c) u.fl.c⟩⟩
def oneT : Turn := ⟨⟨0, 1, 2⟩, ⟨0, 0, 0⟩⟩
def invT (t : Turn) : Turn := (turns.find? fun u => decide (behind t u = oneT)).getD oneT
def Bit (n : Int) : Prop := n = 0 ∨ n = 1
def BitT (t : Turn) : Prop := Bit t.fl.a ∧ Bit t.fl.b ∧ Bit t.fl.c
instance (n : Int) : Decidable (Bit n) := by unfold Bit; exact inferInstance
instance (t : Turn) : Decidable (BitT t) := by unfold BitT; exact inferInstance
def turnS (x y z x' y' z' : Int) (T : Turn) (p : Cell) : Cell :=
  ⟨if T.fl.a = 1 then sideOf x' y' z' T.fr.a - sideOf x y z T.fr.a - p.at T.fr.a else p.at T.fr.a, if T.fl.b = 1 then sideOf x' y' z' T.fr.b - sideOf x y z T.fr.b - p.at T.fr.b else p.at T.fr.b, if T.fl.c = 1 then sideOf x' y' z' T.fr.c - sideOf x y z T.fr.c - p.at T.fr.c else p.at T.fr.c⟩
section
variable {x y z : Int} {cs : List Cell} (hH : HeapOK x y z cs) (h0 : 0 < cs.length)
include hH
include h0
end

section
variable {x y z : Int} {cs : List Cell} (hH : HeapOK x y z cs)
include hH
end

def mir2C (z : Int) (c : Cell) : Cell := ⟨c.a, c.b, z - 1 - c.c⟩
def mir2Hp (x y z : Int) (cs : List Cell) : List Cell := pick x y z fun d => decide (d ∈ cs.map (mir2C z))
end Go.Ab

/- Contracts: a form that a law draws; turned and mirrored heaps. -/
namespace Go.Ab
open Go
set_option linter.unusedSimpArgs false
set_option linter.unusedVariables false
set_option maxRecDepth 20000

/-- What TurnHeap answers. -/
noncomputable def turnOf (x y z : Int) (cs : List Cell) (k : Int) : Option Hp := by
  classical
  exact if HeapOK x y z cs ∧ (0 ≤ k ∧ k ≤ 23) then some (turnHp x y z (turns.getD k.toNat oneT) cs) else none
/-- A heap and true. -/
def HeapT (M : Mem) (r : Hp) (v : LV) (N : Mem) : Prop := ∃ u : Nat, v = .tup [.agg [.I r.x, .I r.y, .I r.z, .ref u 0 r.cs.length], .B true] ∧ Live N u (.row (triL r.cs) true 3) ∧ M.length ≤ u
/-- Mirrored in a direction. -/
def mirDC (x y z : Int) (d : Int) (c : Cell) : Cell := ⟨if d = 0 then x - 1 - c.a else c.a, if d = 1 then y - 1 - c.b else c.b, if d = 2 then z - 1 - c.c else c.c⟩
def mirD (x y z : Int) (d : Int) (cs : List Cell) : List Cell := pick x y z fun e => decide (e ∈ cs.map (mirDC x y z d))
theorem Live.only {M N : Mem} {q : Nat} {b0 : Blk} (h : Live M q b0) (k : Live N q b0) : ∀ b, M[q]? = some (some b) → N[q]? = some (some b) := fun b hb => by
  have e : some (some b0) = some (some b) := Eq.trans (Eq.symm h) hb
  cases e
  exact k
end Go.Ab

/- Heaps that a law keeps: mirrored, swapped, joined, common, shifted, cropped and widened ones, plainly. -/
namespace Go.Ab
open Go
set_option linter.unusedSimpArgs false
set_option linter.unusedVariables false
set_option maxRecDepth 20000

/-- A heap, or the empty one and false; its cells lie in a block of their own. -/
def HeapX (M : Mem) (r : Option Hp) (v : LV) (N : Mem) : Prop := ∃ u : Nat, v = .tup [.agg [.I (r.getD Hp.none).x, .I (r.getD Hp.none).y, .I (r.getD Hp.none).z, .ref u 0 (r.getD Hp.none).cs.length], .B r.isSome] ∧ Live N u (.row (triL (r.getD Hp.none).cs) true 3) ∧ Pre M N
section
variable (x y z : Int) (cs : List Cell)
noncomputable def mirOf (d : Int) : Option Hp := by
  classical
  exact if HeapOK x y z cs ∧ Dir d then some ⟨x, y, z, mirD x y z d cs⟩ else none
noncomputable def othOf : Option Hp := by
  classical
  exact if HeapOK x y z cs then some ⟨x, y, z, pick x y z (freeP cs)⟩ else none
end
/-- Two coordinates exchanged. -/
def swI (a b i : Int) : Int := if i = a then b else if i = b then a else i
def swC (a b : Int) (c : Cell) : Cell := ⟨c.at (swI a b 0), c.at (swI a b 1), c.at (swI a b 2)⟩
def swX (a b : Int) (x y z : Int) (cs : List Cell) : Hp := ⟨(swC a b ⟨x, y, z⟩).a, (swC a b ⟨x, y, z⟩).b, (swC a b ⟨x, y, z⟩).c, pick (swC a b ⟨x, y, z⟩).a (swC a b ⟨x, y, z⟩).b (swC a b ⟨x, y, z⟩).c fun d => decide (d ∈ cs.map (swC a b))⟩
section
variable {x y z : Int} {cs : List Cell}
end
section
variable (x y z : Int) (cs : List Cell)
noncomputable def swpOf (a b : Int) : Option Hp := by
  classical
  exact if HeapOK x y z cs ∧ Dir a ∧ Dir b then some (swX a b x y z cs) else none
/-- Both are heaps, in the same box. -/
def Alike (x' y' z' : Int) (ds : List Cell) : Prop := HeapOK x y z cs ∧ HeapOK x' y' z' ds ∧ x = x' ∧ y = y' ∧ z = z'
noncomputable instance {x y z : Int} {cs : List Cell} {x' y' z' : Int} {ds : List Cell} : Decidable (Alike x y z cs x' y' z' ds) := Classical.propDecidable _
noncomputable def jnOf (x' y' z' : Int) (ds : List Cell) : Option Hp := if Alike x y z cs x' y' z' ds then some ⟨x, y, z, pick x y z fun c => decide (c ∈ cs) || decide (c ∈ ds)⟩ else none
noncomputable def cmOf (x' y' z' : Int) (ds : List Cell) : Option Hp := if Alike x y z cs x' y' z' ds then some ⟨x, y, z, pick x y z fun c => decide (c ∈ cs) && decide (c ∈ ds)⟩ else none
/-- A shift that is not too far. -/
def Near4 (p : Cell) : Prop := (-4 ≤ p.a ∧ p.a ≤ 4) ∧ (-4 ≤ p.b ∧ p.b ≤ 4) ∧ (-4 ≤ p.c ∧ p.c ≤ 4)
noncomputable def shOf (p : Cell) : Option Hp := by
  classical
  exact if HeapOK x y z cs ∧ Near4 p ∧ HeapOK x y z (cs.map (shift p)) then some ⟨x, y, z, cs.map (shift p)⟩ else none
noncomputable def crOf : Option Hp := by
  classical
  exact if HeapOK x y z cs ∧ 0 < cs.length then some (cropHp cs) else none
noncomputable def wdOf (X Y Z : Int) : Option Hp := by
  classical
  exact if HeapOK x y z cs ∧ HeapOK X Y Z cs then some ⟨X, Y, Z, cs⟩ else none
end
end Go.Ab

/- Contracts: staircases, their corners, orders, turning; the program's side. -/
namespace Go.Ab
open Go
set_option linter.unusedSimpArgs false
set_option linter.unusedVariables false
set_option maxRecDepth 20000

noncomputable def strB (x y z : Int) (cs : List Cell) : Bool := @decide (HeapOK x y z cs ∧ StairP x y z fun c => decide (c ∈ cs)) (Classical.propDecidable _)
section
variable {x y z : Int} (hS : Sides x y z)
include hS
end
end Go.Ab

/- Contracts: the number of staircases. -/
namespace Go.Ab
open Go
set_option linter.unusedSimpArgs false
set_option linter.unusedVariables false
set_option maxRecDepth 20000

/-- A box whose staircases can be listed. -/
noncomputable def fewB (x y z : Int) : Bool := decide (Sides x y z) && decide (cntSP x.toNat y.toNat z.toNat ≤ 1000)
end Go.Ab

/- The abstract code of some functions (written by a program of mine from the translation, by way of prepF). -/
namespace Go.Ab.C
open Go.Ab
end Go.Ab.C

/- That the program has this code. -/
namespace Go.Ab.K
open Go Go.Ab
end Go.Ab.K

/- The abstract code of some functions (written by a program of mine from the translation, by way of prepF). -/
namespace Go.Ab.C
open Go.Ab
end Go.Ab.C

/- That the program has this code. -/
namespace Go.Ab.K
open Go Go.Ab
end Go.Ab.K

/- Contracts: whether a heap has a shadow, the program's side; IsShadowOf, both sides. -/
namespace Go.Ab
open Go
set_option linter.unusedSimpArgs false
set_option linter.unusedVariables false
set_option maxRecDepth 20000

section
variable {x y z : Int} {t o t' o' t2 o2 : Nat} {tp fr sd : List Int} {M : Mem} (h1 : Ints M t o tp) (h2 : Ints M t' o' fr) (h3 : Ints M t2 o2 sd) (l1 : tp.length ≤ 1000000000) (l2 : fr.length ≤ 1000000000) (l3 : sd.length ≤ 1000000000)
include h1 h2 h3 l1 l2 l3
/-- What IsShadowOf returns. -/
noncomputable def isShdOf (x y z : Int) (tp fr sd : List Int) (x' y' z' : Int) (cs : List Cell) : LV := .tup [.B (decide ((ShdOK x y z tp fr sd ∧ HeapOK x' y' z' cs) ∧ (x = x' ∧ y = y' ∧ z = z') ∧ HasShd x y z tp fr sd cs)), .B (decide (ShdOK x y z tp fr sd ∧ HeapOK x' y' z' cs))]
variable {x' y' z' : Int} {q r : Nat} {cs : List Cell} (h : Tri M q r cs) (hn : cs.length ≤ 1000000000)
include h hn
end
end Go.Ab

/- Plain words: the library's count of a 64-bit set is the number of its bits. -/
namespace Go.Ab

def rep : Nat → Nat → Nat
  | 0, _ => 0
  | k + 1, c => c + 256 * rep k c
def ofB : List Nat → Nat
  | [] => 0
  | l :: ls => l + 256 * ofB ls
def a8 (l : Nat) : Nat := (l / 2 &&& 85) + (l &&& 85)
def b8 (l : Nat) : Nat := (l / 4 &&& 51) + (l &&& 51)
def c8 (l : Nat) : Nat := (l / 16 + l) % 16
def pc8 (l : Nat) : Nat := (List.range 8).countP fun j => l.testBit j
end Go.Ab

/- Contracts: lines that need a cube, and cells that must be, the program's side. -/
namespace Go.Ab
open Go
set_option linter.unusedSimpArgs false
set_option linter.unusedVariables false
set_option maxRecDepth 20000

section
variable {x y z : Int} {t o t' o' t2 o2 : Nat} {tp fr sd : List Int} {M : Mem} (h1 : Ints M t o tp) (h2 : Ints M t' o' fr) (h3 : Ints M t2 o2 sd) (hok : ShdOK x y z tp fr sd)
include h1 h2 h3 hok
end
end Go.Ab

/- Contracts: all staircases of a box, the reference's side. -/
namespace Go.Ab
open Go
set_option linter.unusedSimpArgs false
set_option linter.unusedVariables false
set_option maxRecDepth 20000

/-- A table none of whose blocks is among av. -/
def TabR (N : Mem) (t : Nat) (L : List (List Int)) (av : List Nat) : Prop := ∃ refs : List LV, Live N t (.row refs true 1) ∧ refs.length = L.length ∧ t ∉ av ∧ ∀ i, i < L.length → ∃ u, u ≠ t ∧ u ∉ av ∧ refs[i]? = some (.ref u 0 (L.getD i []).length) ∧ Ints N u 0 (L.getD i [])
theorem TabR.pre {N N' : Mem} {t : Nat} {L : List (List Int)} {av : List Nat} (h : TabR N t L av) (hp : Pre N N') : TabR N' t L av := by
  obtain ⟨refs, h1, h2, h3, h4⟩ := h
  exact ⟨refs, h1.pre hp, h2, h3, fun i hi => by obtain ⟨u, q1, q2, q3, q4⟩ := h4 i hi; exact ⟨u, q1, q2, q3, q4.pre hp⟩⟩
theorem TabR.at {N : Mem} {t : Nat} {L : List (List Int)} {av : List Nat} (h : TabR N t L av) {i : Nat} (hi : i < L.length) : ∃ u : Nat, getCell N t i = some (.ref u 0 (L.getD i []).length) ∧ Ints N u 0 (L.getD i []) := by
  obtain ⟨refs, h1, h2, h3, h4⟩ := h
  obtain ⟨u, q1, q2, q3, q4⟩ := h4 i hi
  exact ⟨u, by rw [← q3]; exact h1.cell, q4⟩
/-- What is among av may turn. -/
theorem TabR.keep {N N' : Mem} {t : Nat} {L : List (List Int)} {av av' : List Nat} (h : TabR N t L av) (hk : ∀ q, q ∉ av → q < N.length → N'[q]? = N[q]?) (ha : ∀ q, q ∈ av' → q ∈ av ∨ N.length ≤ q) : TabR N' t L av' := by
  obtain ⟨refs, h1, h2, h3, h4⟩ := h
  have hno : ∀ q, q ∉ av → q < N.length → q ∉ av' := fun q h1 h2 h3 => (ha q h3).elim h1 (by omega)
  refine ⟨refs, Live.at h1 (hk _ h3 h1.lt), h2, hno _ h3 h1.lt, fun i hi => ?_⟩
  obtain ⟨u, q1, q2, q3, q4⟩ := h4 i hi
  exact ⟨u, q1, hno _ q2 q4.lt, q3, Has.at' q4 (hk _ q2 q4.lt)⟩
theorem TabR.nil {N : Mem} {t : Nat} {av : List Nat} (h : Live N t (.row [] true 1)) (ha : t ∉ av) : TabR N t [] av := ⟨[], h, rfl, ha, fun i hi => by simp at hi⟩
theorem TabR.v {N : Mem} {t : Nat} {L : List (List Int)} {av : List Nat} (h : TabR N t L av) : ∃ refs : List LV, Live N t (.row refs true 1) ∧ refs.length = L.length ∧ ∀ i, i < L.length → ∃ u : Nat, refs[i]? = some (.ref u 0 (L.getD i []).length) ∧ Ints N u 0 (L.getD i []) := by
  obtain ⟨refs, h1, h2, h3, h4⟩ := h
  exact ⟨refs, h1, h2, fun i hi => by obtain ⟨u, q1, q2, q3, q4⟩ := h4 i hi; exact ⟨u, q3, q4⟩⟩
theorem TabR.lt {N : Mem} {t : Nat} {L : List (List Int)} {av : List Nat} (h : TabR N t L av) : t < N.length := by
  obtain ⟨refs, h1, _⟩ := h
  exact h1.lt
theorem live_row {N : Mem} {t : Nat} {r r' : List LV} {w w' : Bool} {e e' : Nat} (h : Live N t (.row r w e)) (h' : Live N t (.row r' w' e')) : r = r' := by
  unfold Live at h h'
  rw [h] at h'
  injection h' with h'
  injection h' with h'
  injection h'
end Go.Ab

/- The abstract code of some functions (written by a program of mine from the translation, by way of prepF). -/
namespace Go.Ab.C
open Go.Ab
end Go.Ab.C

/- That the program has this code. -/
namespace Go.Ab.K
open Go Go.Ab
end Go.Ab.K

/- Contracts: all staircases of a box, the program's side (lists that share their backing array). -/
namespace Go.Ab
open Go
set_option linter.unusedSimpArgs false
set_option linter.unusedVariables false
set_option maxRecDepth 20000

/-- A list that may share its block with longer ones. -/
def LstAt (M : Mem) (v : LV) (l : List Int) (av : List Nat) : Prop := (v = .nil ∧ l = [] ∧ av = []) ∨ ∃ (t : Nat) (cs : List LV), v = .ref t 0 l.length ∧ av = [t] ∧ Live M t (.row cs true 1) ∧ l.length ≤ cs.length ∧ cs.take l.length = intL l
theorem LstAt.keep {M N : Mem} {v : LV} {l : List Int} {av : List Nat} (h : LstAt M v l av) (hk : ∀ q, q ∈ av → q < M.length → N[q]? = M[q]?) : LstAt N v l av := by
  rcases h with h | ⟨t, cs, h1, rfl, h3, h4, h5⟩
  · exact .inl h
  · exact .inr ⟨t, cs, h1, rfl, Live.at h3 (hk t (by simp) h3.lt), h4, h5⟩
theorem LstAt.lt {M : Mem} {v : LV} {l : List Int} {av : List Nat} (h : LstAt M v l av) : ∀ a ∈ av, a < M.length := by
  rcases h with ⟨_, _, rfl⟩ | ⟨t, cs, h1, rfl, h3, h4, h5⟩
  · simp
  · intro a ha; rw [List.mem_singleton.1 ha]; exact h3.lt
theorem LstAt.at {M : Mem} {v : LV} {l : List Int} {av : List Nat} (h : LstAt M v l av) (h0 : 0 < l.length) : ∃ t, v = .ref t 0 l.length ∧ Ints M t 0 l := by
  rcases h with ⟨_, rfl, _⟩ | ⟨t, cs, h1, _, h3, h4, h5⟩
  · simp at h0
  · refine ⟨t, h1, cs, h3.row, ?_, ?_⟩
    · rw [intL_len]; omega
    · rw [intL_len, List.drop_zero]; exact h5
theorem LstAt.len {M : Mem} {v : LV} {l : List Int} {av : List Nat} (h : LstAt M v l av) : lenV v = some (l.length : Int) := by
  rcases h with ⟨rfl, rfl, _⟩ | ⟨t, cs, rfl, _⟩ <;> rfl
theorem TabR.both {N : Mem} {t : Nat} {L : List (List Int)} {av av' : List Nat} (h : TabR N t L av) (h' : TabR N t L av') : TabR N t L (av ++ av') := by
  obtain ⟨refs, h1, h2, h3, h4⟩ := h
  obtain ⟨refs', g1, g2, g3, g4⟩ := h'
  cases live_row h1 g1
  refine ⟨refs, h1, h2, by simp [h3, g3], fun i hi => ?_⟩
  obtain ⟨u, q1, q2, q3, q4⟩ := h4 i hi
  obtain ⟨u', p1, p2, p3, p4⟩ := g4 i hi
  rw [q3] at p3
  injection p3 with p3
  injection p3 with p3
  subst p3
  exact ⟨u, q1, by simp [q2, p2], q3, q4⟩
/-- All staircases of a box. -/
noncomputable def stairsOf (x y z : Int) : List (List Int) := allS y.toNat z (x.toNat * y.toNat) []
end Go.Ab

/- Contracts: all rows and all tables with given sums, the reference's side. -/
namespace Go.Ab
open Go
set_option linter.unusedSimpArgs false
set_option linter.unusedVariables false
set_option maxRecDepth 20000

end Go.Ab

/- Contracts: all tables with given sums, the reference's side. -/
namespace Go.Ab
open Go
set_option linter.unusedSimpArgs false
set_option linter.unusedVariables false
set_option maxRecDepth 20000

/-- A list of tables none of whose blocks is among av. -/
def Tab3 (N : Mem) (t : Nat) (L : List (List (List Int))) (av : List Nat) : Prop := ∃ refs : List LV, Live N t (.row refs true 1) ∧ refs.length = L.length ∧ t ∉ av ∧ ∀ i, i < L.length → ∃ u, u ≠ t ∧ u ∉ av ∧ refs[i]? = some (.ref u 0 (L.getD i []).length) ∧ TabR N u (L.getD i []) (t :: av)
theorem Tab3.keep {N N' : Mem} {t : Nat} {L : List (List (List Int))} {av av' : List Nat} (h : Tab3 N t L av) (hk : ∀ q, q ∉ av → q < N.length → N'[q]? = N[q]?) (ha : ∀ q, q ∈ av' → q ∈ av ∨ N.length ≤ q) : Tab3 N' t L av' := by
  obtain ⟨refs, h1, h2, h3, h4⟩ := h
  have hno : ∀ q, q ∉ av → q < N.length → q ∉ av' := fun q h1 h2 h3 => (ha q h3).elim h1 (by omega)
  refine ⟨refs, Live.at h1 (hk _ h3 h1.lt), h2, hno _ h3 h1.lt, fun i hi => ?_⟩
  obtain ⟨u, q1, q2, q3, q4⟩ := h4 i hi
  exact ⟨u, q1, hno _ q2 q4.lt, q3, q4.keep (fun q p1 p2 => hk q (fun hm => p1 (by simp [hm])) p2) fun q hq => by
    rcases List.mem_cons.1 hq with rfl | hq
    · exact .inl (by simp)
    · rcases ha q hq with h | h
      · exact .inl (by simp [h])
      · exact .inr h⟩
theorem Tab3.pre {N N' : Mem} {t : Nat} {L : List (List (List Int))} {av : List Nat} (h : Tab3 N t L av) (hp : Pre N N') : Tab3 N' t L av := h.keep (fun q _ h => hp.2 q h) fun q h => .inl h
theorem Tab3.nil {N : Mem} {t : Nat} {av : List Nat} (h : Live N t (.row [] true 1)) (ha : t ∉ av) : Tab3 N t [] av := ⟨[], h, rfl, ha, fun i hi => by simp at hi⟩
theorem Tab3.lt {N : Mem} {t : Nat} {L : List (List (List Int))} {av : List Nat} (h : Tab3 N t L av) : t < N.length := by
  obtain ⟨refs, h1, _⟩ := h
  exact h1.lt
theorem Tab3.at {N : Mem} {t : Nat} {L : List (List (List Int))} {av : List Nat} (h : Tab3 N t L av) {i : Nat} (hi : i < L.length) : ∃ u : Nat, getCell N t i = some (.ref u 0 (L.getD i []).length) ∧ TabR N u (L.getD i []) (t :: av) := by
  obtain ⟨refs, h1, h2, h3, h4⟩ := h
  obtain ⟨u, q1, q2, q3, q4⟩ := h4 i hi
  exact ⟨u, by rw [← q3]; exact h1.cell, q4⟩
theorem tab3_one {N : Mem} {T : List (List Int)} {u : Nat} {av : List Nat} (h : TabR N u T av) (ha : ∀ a ∈ av, a < N.length) : Tab3 (N ++ [some (.row [.ref u 0 T.length] true 1)]) N.length [T] av := by
  have hul := h.lt
  obtain ⟨_, _, _, hua, _⟩ := id h
  refine ⟨[.ref u 0 T.length], Live.new, rfl, fun hm => by have := ha _ hm; omega, fun i hi => ?_⟩
  simp at hi
  subst hi
  refine ⟨u, by omega, hua, rfl, h.keep (fun q _ hq => List.getElem?_append_left hq) fun q hq => ?_⟩
  rcases List.mem_cons.1 hq with rfl | hq
  · exact .inr (Nat.le_refl _)
  · exact .inl hq
/-- Tables go behind a list of tables. -/
theorem appendK_tab3 {N : Mem} {t t2 : Nat} {L L2 : List (List (List Int))} {A : LV → Mem → Prop} (h : Tab3 N t L []) (h2 : Tab3 N t2 L2 [t]) (hl : L.length + L2.length ≤ 1000000000000)
    (hA : ∀ u M', N.length ≤ M'.length → (∀ av : List Nat, Tab3 N t L av → Tab3 N t2 L2 (t :: av) → (∀ a ∈ av, a < N.length) → Tab3 M' u (L ++ L2) av) → (u = t ∨ N.length ≤ u) → (∀ w, w ≠ t → w < N.length → M'[w]? = N[w]?) → A (.ref u 0 (L.length + L2.length)) M') : appendK 1 24 (.ref t 0 L.length) (.ref t2 0 L2.length) N A := by
  obtain ⟨refs, h1, hr, _⟩ := h
  obtain ⟨refs2, g1, gr, _⟩ := h2
  have g1' : Has N t2 0 refs2 := g1.has
  refine appendK_list (acc := refs) (new := refs2) h1 (by omega) g1' (by omega) (by omega) (by omega) fun u M' k1 k2 k3 k4 => hA u M' k1 (fun av h h2 hav => ?_) k3 k4
  obtain ⟨refs', h1', hr', h3, h4⟩ := h
  obtain ⟨refs2', g1'', gr', g3, g4⟩ := h2
  cases live_row h1 h1'
  cases live_row g1 g1''
  refine ⟨refs ++ refs2, k2, by simp [hr, gr], ?_, fun i hi => ?_⟩
  · rcases k3 with rfl | k3
    · exact h3
    · exact fun hm => by have := hav u hm; omega
  · have fin : ∀ v, v ≠ t → v < N.length → v ≠ u := fun v hv hlt e => by
      subst e
      rcases k3 with rfl | k3
      · exact hv rfl
      · omega
    rw [List.length_append] at hi
    by_cases hi2 : i < L.length
    · obtain ⟨v, q1, q2, q3, q4⟩ := h4 i hi2
      have hg : (L ++ L2).getD i [] = L.getD i [] := by simp only [List.getD_eq_getElem?_getD]; rw [List.getElem?_append_left hi2]
      rw [hg]
      refine ⟨v, fin v q1 q4.lt, q2, by rw [List.getElem?_append_left (by omega)]; exact q3, q4.keep (fun q p1 p2 => k4 q (fun e => p1 (by simp [e])) p2) fun q hq => ?_⟩
      rcases List.mem_cons.1 hq with rfl | hq
      · rcases k3 with rfl | k3
        · exact .inl (by simp)
        · exact .inr k3
      · exact .inl (by simp [hq])
    · obtain ⟨v, q1, q2, q3, q4⟩ := g4 (i - L.length) (by omega)
      have hg : (L ++ L2).getD i [] = L2.getD (i - L.length) [] := by simp only [List.getD_eq_getElem?_getD]; rw [List.getElem?_append_right (by omega)]
      rw [hg]
      have hvt : v ≠ t := fun e => q2 (by simp [e])
      refine ⟨v, fin v hvt q4.lt, fun hm => q2 (by simp [hm]), by rw [List.getElem?_append_right (by omega), hr]; exact q3, q4.keep (fun q p1 p2 => k4 q (fun e => p1 (by simp [e])) p2) fun q hq => ?_⟩
      rcases List.mem_cons.1 hq with rfl | hq
      · rcases k3 with rfl | k3
        · exact .inl (by simp)
        · exact .inr k3
      · exact .inl (by simp [hq])

theorem TabR.less {N : Mem} {t : Nat} {L : List (List Int)} {av av' : List Nat} (h : TabR N t L av) (ha : ∀ q ∈ av', q ∈ av) : TabR N t L av' := h.keep (fun q _ _ => rfl) fun q hq => .inl (ha q hq)
theorem Tab3.less {N : Mem} {t : Nat} {L : List (List (List Int))} {av av' : List Nat} (h : Tab3 N t L av) (ha : ∀ q ∈ av', q ∈ av) : Tab3 N t L av' := h.keep (fun q _ _ => rfl) fun q hq => .inl (ha q hq)
/-- What is left behind so many columns. -/
def leftK (cols row : List Int) (k : Nat) : List Int := subR (cols.take k) (row.take k) ++ cols.drop k
theorem take_snocL {α : Type} {l : List α} {i : Nat} (d : α) (h : i < l.length) : l.take (i + 1) = l.take i ++ [l.getD i d] := by
  rw [List.take_succ, List.getElem?_eq_getElem h]; simp [h]
end Go.Ab

/- Tables in memory whose rows are distinct new blocks: they may be written to. -/
namespace Go.Ab
open Go
set_option linter.unusedSimpArgs false
set_option linter.unusedVariables false
set_option maxRecDepth 20000

def refsD (bl : Nat → Nat) (L : List (List Int)) : List LV := (List.range L.length).map fun i => .ref (bl i) 0 (L.getD i []).length
def TabD (N : Mem) (t : Nat) (L : List (List Int)) (lo : Nat) : Prop := ∃ bl : Nat → Nat, Live N t (.row (refsD bl L) true 1) ∧ lo ≤ t ∧ (∀ i, i < L.length → lo ≤ bl i ∧ bl i < N.length ∧ bl i ≠ t ∧ Live N (bl i) (.row (intL (L.getD i [])) true 1)) ∧ ∀ i j, i < L.length → j < L.length → i ≠ j → bl i ≠ bl j
theorem refsD_len {bl : Nat → Nat} {L : List (List Int)} : (refsD bl L).length = L.length := by simp [refsD]
theorem TabD.nil {N : Mem} {t lo : Nat} (h : Live N t (.row [] true 1)) (hl : lo ≤ t) : TabD N t [] lo := ⟨fun _ => 0, h, hl, fun i hi => by simp at hi, fun i j hi => by simp at hi⟩
theorem getD_snoc {L : List (List Int)} {l : List Int} {i : Nat} : (L ++ [l]).getD i [] = if i = L.length then l else L.getD i [] := by
  simp only [List.getD_eq_getElem?_getD]
  rcases Nat.lt_trichotomy i L.length with h | h | h
  · rw [List.getElem?_append_left h, if_neg (by omega)]
  · subst h; rw [if_pos rfl]; simp
  · rw [if_neg (by omega), List.getElem?_eq_none (by simp; omega), List.getElem?_eq_none (by omega)]
/-- A new row goes behind such a table. -/
theorem appendK_tabD {N0 N : Mem} {t r lo : Nat} {L : List (List Int)} {l : List Int} {A : LV → Mem → Prop} (h : TabD N0 t L lo) (hp : Pre N0 N) (hr : Live N r (.row (intL l) true 1)) (hr0 : N0.length ≤ r) (hl : L.length ≤ 1000) (hlo : lo ≤ N0.length)
    (hA : ∀ u M', TabD M' u (L ++ [l]) lo → (u = t ∨ N.length ≤ u) → (∀ w, w ≠ t → w < N.length → M'[w]? = N[w]?) → N.length ≤ M'.length → A (.ref u 0 (L ++ [l]).length) M') :
    appendK 1 24 (.ref t 0 L.length) (.ref N.length 0 1) (N ++ [some (.row [.ref r 0 l.length] true 1)]) A := by
  obtain ⟨bl, h1, h0, h4, h5⟩ := h
  have hN := hp.1
  have hrl := hr.lt
  have htl := h1.lt
  refine appendK_list (acc := refsD bl L) (new := [.ref r 0 l.length]) (h1.pre (hp.trans (Pre.app _ _))) (by rw [refsD_len]; omega) (Live.new (b := .row [.ref r 0 l.length] true 1)).has (by simp) (by omega) (by omega) fun u M' k1 k2 k3 k4 => ?_
  rw [List.length_append, List.length_singleton] at k1 k3 k4
  have hold : ∀ w, w ≠ t → w < N.length → M'[w]? = N[w]? := fun w hw hwl => by
    rw [k4 w hw (by omega)]; exact List.getElem?_append_left hwl
  have e : L.length + 1 = (L ++ [l]).length := by simp
  rw [e]
  have hrefs : refsD bl L ++ [.ref r 0 l.length] = refsD (fun i => if i = L.length then r else bl i) (L ++ [l]) := by
    unfold refsD
    rw [← e, List.range_succ, List.map_append]
    congr 1
    · refine List.map_congr_left fun i hi => ?_
      have := List.mem_range.1 hi
      have hne : ¬ i = L.length := by omega
      rw [getD_snoc, if_neg hne]
      simp only [if_neg hne]
    · simp [getD_snoc]
  rw [hrefs] at k2
  refine hA u M' ⟨_, k2, by rcases k3 with e | e <;> omega, fun i hi => ?_, fun i j hi hj hij => ?_⟩ (by rcases k3 with e | e; exact .inl e; exact .inr (by omega)) hold (by omega)
  · rw [getD_snoc]
    by_cases hi2 : i = L.length
    · simp only [if_pos hi2]
      exact ⟨by omega, by omega, by rcases k3 with e | e <;> omega, Live.at hr (hold r (by omega) hrl)⟩
    · have hi3 : i < L.length := by rw [← e] at hi; omega
      obtain ⟨q0, q1, q2, q3⟩ := h4 i hi3
      simp only [if_neg hi2]
      exact ⟨q0, by omega, by rcases k3 with e | e <;> omega, Live.at (q3.pre hp) (hold _ q2 (by omega))⟩
  · rw [← e] at hi hj
    by_cases a : i = L.length
    · have := h4 j (by omega)
      have hne : ¬ j = L.length := by omega
      simp only [if_pos a, if_neg hne]; omega
    · by_cases b : j = L.length
      · have := h4 i (by omega)
        simp only [if_neg a, if_pos b]; omega
      · simp only [if_neg a, if_neg b]; exact h5 i j (by omega) (by omega) hij
theorem TabD.at {N : Mem} {t lo i : Nat} {L : List (List Int)} (h : TabD N t L lo) (hi : i < L.length) : ∃ b, getCell N t i = some (.ref b 0 (L.getD i []).length) ∧ Live N b (.row (intL (L.getD i [])) true 1) ∧ lo ≤ b ∧ b ≠ t := by
  obtain ⟨bl, h1, h0, h4, h5⟩ := h
  obtain ⟨q0, q1, q2, q3⟩ := h4 i hi
  refine ⟨bl i, ?_, q3, q0, q2⟩
  rw [h1.cell]
  unfold refsD
  rw [List.getElem?_map, List.getElem?_range hi]; rfl
/-- One row has been written to. -/
theorem TabD.store {N N' : Mem} {t lo i b : Nat} {L : List (List Int)} {l : List Int} (h : TabD N t L lo) (hi : i < L.length) (hb : getCell N t i = some (.ref b 0 (L.getD i []).length)) (hl : l.length = (L.getD i []).length) (k1 : N'.length = N.length) (k2 : Live N' b (.row (intL l) true 1)) (k3 : ∀ w, w ≠ b → w < N.length → N'[w]? = N[w]?) : TabD N' t (L.set i l) lo := by
  obtain ⟨bl, h1, h0, h4, h5⟩ := h
  have hbe : bl i = b := by
    rw [h1.cell] at hb
    unfold refsD at hb
    rw [List.getElem?_map, List.getElem?_range hi] at hb
    simp at hb; exact hb
  obtain ⟨q0, q1, q2, q3⟩ := h4 i hi
  have hset : ∀ j, (L.set i l).getD j [] = if i = j ∧ j < L.length then l else L.getD j [] := fun j => by
    simp only [List.getD_eq_getElem?_getD, List.getElem?_set]
    by_cases h : i = j
    · subst h; simp [hi]
    · simp [h]
  have hrefs : refsD bl (L.set i l) = refsD bl L := by
    unfold refsD
    rw [List.length_set]
    refine List.map_congr_left fun j hj => ?_
    rw [hset]
    by_cases e : i = j
    · subst e; rw [if_pos ⟨rfl, hi⟩, hl]
    · rw [if_neg fun h => e h.1]
  refine ⟨bl, by rw [hrefs]; exact Live.at h1 (k3 t (by omega) h1.lt), h0, fun j hj => ?_, fun a c ha hc => h5 a c (by simpa using ha) (by simpa using hc)⟩
  rw [List.length_set] at hj
  obtain ⟨p0, p1, p2, p3⟩ := h4 j hj
  rw [hset]
  by_cases e : i = j
  · subst e
    rw [if_pos ⟨rfl, hi⟩, hbe]
    exact ⟨by omega, by omega, by omega, k2⟩
  · rw [if_neg fun h => e h.1]
    have := h5 i j hi hj e
    exact ⟨p0, by omega, p2, Live.at p3 (k3 _ (by omega) p1)⟩
theorem TabD.tabR {N : Mem} {t lo : Nat} {L : List (List Int)} {av : List Nat} (h : TabD N t L lo) (ha : ∀ a ∈ av, a < lo) : TabR N t L av := by
  obtain ⟨bl, h1, h0, h4, h5⟩ := h
  refine ⟨refsD bl L, h1, refsD_len, fun hm => by have := ha t hm; omega, fun i hi => ?_⟩
  obtain ⟨q0, q1, q2, q3⟩ := h4 i hi
  refine ⟨bl i, q2, fun hm => by have := ha _ hm; omega, ?_, q3.has⟩
  unfold refsD
  rw [List.getElem?_map, List.getElem?_range hi]; rfl
end Go.Ab

/- The abstract code of some functions (written by a program of mine from the translation, by way of prepF). -/
namespace Go.Ab.C
open Go.Ab
def spec_l4Key : AFn :=
 ⟨1, 32, [.tmp 2],
 .seq (.ops [(none, .mv 2 (.c (.I 0)))])
 (.seq (.ops [(none, .mv 3 (.c (.I 0)))])
 (.seq (.seq (.ops [(none, .mv 4 (.c (.I 0)))])
 (.block 0 (.loop (.seq (.seq (.ops [(none, .mv 6 (.t 4)),
 (none, .mv 7 (.t 0)),
 (none, .len 8 (.t 7)),
 (none, .bin 9 .lss (.t 6) (.t 8))])
 (.cond (.t 9) (.skip)
 (.exit 0)))
 (.seq (.block 1 (.seq (.ops [(none, .mv 5 (.c (.I 0)))])
 (.block 2 (.loop (.seq (.seq (.ops [(none, .mv 12 (.t 5)),
 (none, .mv 13 (.t 0)),
 (none, .mv 14 (.t 4)),
 (none, .idxS 15 1 (.t 13) (.t 14)),
 (none, .load1 16 (.t 15)),
 (none, .len 17 (.t 16)),
 (none, .bin 18 .lss (.t 12) (.t 17))])
 (.cond (.t 18) (.skip)
 (.exit 2)))
 (.seq (.block 3 (.ops [(none, .mv 21 (.t 3)),
 (none, .bin 22 .mul (.c (.I 2)) (.t 21)),
 (none, .mv 23 (.t 0)),
 (none, .mv 24 (.t 4)),
 (none, .idxS 25 1 (.t 23) (.t 24)),
 (none, .load1 26 (.t 25)),
 (none, .mv 27 (.t 5)),
 (none, .idxS 28 1 (.t 26) (.t 27)),
 (none, .load1 29 (.t 28)),
 (none, .bin 30 .add (.t 22) (.t 29)),
 (none, .mv 3 (.t 30))]))
 (.ops [(none, .mv 19 (.t 5)),
 (none, .bin 20 .add (.t 19) (.c (.I 1))),
 (none, .mv 5 (.t 20))])))))))
 (.ops [(none, .mv 10 (.t 4)),
 (none, .bin 11 .add (.t 10) (.c (.I 1))),
 (none, .mv 4 (.t 11))]))))))
 (.seq (.ops [(none, .mv 31 (.t 3)),
 (none, .mv 2 (.t 31))])
 (.ret))))⟩
end Go.Ab.C

/- That the program has this code. -/
namespace Go.Ab.K
open Go Go.Ab
theorem spec_l4Key : prepF Go.Proofs.Try.prog F.spec_l4Key = some C.spec_l4Key := by kernel_rfl
end Go.Ab.K

/- The abstract code of some functions (written by a program of mine from the translation, by way of prepF). -/
namespace Go.Ab.C
open Go.Ab
end Go.Ab.C

/- That the program has this code. -/
namespace Go.Ab.K
open Go Go.Ab
end Go.Ab.K

/- The abstract code of some functions (written by a program of mine from the translation, by way of prepF). -/
namespace Go.Ab.C
open Go.Ab
def spec_l2Layer : AFn :=
 ⟨3, 59, [.tmp 6],
 .seq (.ops [(none, .box 3 (.t 0)),
 (none, .mv 6 (.c .nil))])
 (.seq (.ops [(none, .mv 15 (.t 1)),
 (none, .call (some 16) F.spec_l2Others [(.t 15)]),
 (none, .mv 14 (.t 16)),
 (none, .extract 17 (.t 14) 0),
 (none, .extract 18 (.t 14) 1),
 (none, .mv 7 (.t 17)),
 (none, .mv 8 (.t 18))])
 (.seq (.ops [(none, .buildSl 19 0 1 [] []),
 (none, .mv 9 (.t 19))])
 (.seq (.seq (.ops [(none, .mv 10 (.c (.I 0)))])
 (.block 0 (.loop (.seq (.seq (.ops [(none, .mv 20 (.t 10)),
 (none, .loadN 21 4 (.t 3)),
 (none, .mv 22 (.t 7)),
 (none, .call (some 23) F.spec_l2Long [(.t 21), (.t 22)]),
 (none, .bin 24 .lss (.t 20) (.t 23))])
 (.cond (.t 24) (.skip)
 (.exit 0)))
 (.seq (.block 1 (.seq (.ops [(none, .buildSl 27 0 1 [] []),
 (none, .mv 11 (.t 27))])
 (.seq (.seq (.ops [(none, .mv 12 (.c (.I 0)))])
 (.block 2 (.loop (.seq (.seq (.ops [(none, .mv 28 (.t 12)),
 (none, .loadN 29 4 (.t 3)),
 (none, .mv 30 (.t 8)),
 (none, .call (some 31) F.spec_l2Long [(.t 29), (.t 30)]),
 (none, .bin 32 .lss (.t 28) (.t 31))])
 (.cond (.t 32) (.skip)
 (.exit 2)))
 (.seq (.block 3 (.seq (.ops [(none, .build 35 [(.I 0), (.I 0), (.I 0)] []),
 (none, .alloc 13 [(.I 0), (.I 0), (.I 0)]),
 (none, .store 3 (.t 13) (.t 35))])
 (.seq (.ops [(none, .mv 36 (.t 1)),
 (none, .mv 37 (.t 2)),
 (none, .idxA 38 3 1 (.t 13) (.t 36)),
 (none, .store 1 (.t 38) (.t 37))])
 (.seq (.ops [(none, .mv 39 (.t 7)),
 (none, .mv 40 (.t 10)),
 (none, .idxA 41 3 1 (.t 13) (.t 39)),
 (none, .store 1 (.t 41) (.t 40))])
 (.seq (.ops [(none, .mv 42 (.t 8)),
 (none, .mv 43 (.t 12)),
 (none, .idxA 44 3 1 (.t 13) (.t 42)),
 (none, .store 1 (.t 44) (.t 43))])
 (.seq (.ops [(none, .loadN 45 4 (.t 3)),
 (none, .loadN 46 3 (.t 13)),
 (none, .call (some 47) F.spec_l2Has [(.t 45), (.t 46)])])
 (.cond (.t 47) (.ops [(none, .mv 48 (.t 11)),
 (none, .buildSl 49 1 1 [(.I 0)] [(0, 1, (.c (.I 1)))]),
 (none, .append 50 1 8 (.t 48) (.t 49)),
 (none, .mv 11 (.t 50))])
 (.ops [(none, .mv 51 (.t 11)),
 (none, .buildSl 52 1 1 [(.I 0)] [(0, 1, (.c (.I 0)))]),
 (none, .append 53 1 8 (.t 51) (.t 52)),
 (none, .mv 11 (.t 53))]))))))))
 (.ops [(none, .mv 33 (.t 12)),
 (none, .bin 34 .add (.t 33) (.c (.I 1))),
 (none, .mv 12 (.t 34))]))))))
 (.ops [(none, .mv 54 (.t 9)),
 (none, .mv 55 (.t 11)),
 (none, .buildSl 56 1 1 [.nil] [(0, 1, (.t 55))]),
 (none, .append 57 1 24 (.t 54) (.t 56)),
 (none, .mv 9 (.t 57))]))))
 (.ops [(none, .mv 25 (.t 10)),
 (none, .bin 26 .add (.t 25) (.c (.I 1))),
 (none, .mv 10 (.t 26))]))))))
 (.seq (.ops [(none, .mv 58 (.t 9)),
 (none, .mv 6 (.t 58))])
 (.ret)))))⟩
end Go.Ab.C

/- That the program has this code. -/
namespace Go.Ab.K
open Go Go.Ab
theorem spec_l2Layer : prepF Go.Proofs.Try.prog F.spec_l2Layer = some C.spec_l2Layer := by kernel_rfl
end Go.Ab.K

/- The abstract code of some functions (written by a program of mine from the translation, by way of prepF). -/
namespace Go.Ab.C
open Go.Ab
end Go.Ab.C

/- That the program has this code. -/
namespace Go.Ab.K
open Go Go.Ab
end Go.Ab.K

/- Tables: lists of lists of numbers in memory; how they grow; the law's comparison. -/
namespace Go.Ab
open Go
set_option linter.unusedSimpArgs false
set_option linter.unusedVariables false
set_option maxRecDepth 20000

/-- A table that is one's own: its blocks lie before b and not before lo. -/
def TabO (N : Mem) (t : Nat) (L : List (List Int)) (b lo : Nat) : Prop := ∃ refs : List LV, Live N t (.row refs true 1) ∧ refs.length = L.length ∧ t < b ∧ lo ≤ t ∧ ∀ i, i < L.length → ∃ u, lo ≤ u ∧ u < b ∧ u ≠ t ∧ refs[i]? = some (.ref u 0 (L.getD i []).length) ∧ Live N u (.row (intL (L.getD i [])) true 1)
theorem TabO.pre {N N' : Mem} {t : Nat} {L : List (List Int)} {b lo : Nat} (h : TabO N t L b lo) (hp : Pre N N') : TabO N' t L b lo := by
  obtain ⟨refs, h1, h2, h3, h0, h4⟩ := h
  exact ⟨refs, h1.pre hp, h2, h3, h0, fun i hi => by obtain ⟨u, q0, q1, q2, q3, q4⟩ := h4 i hi; exact ⟨u, q0, q1, q2, q3, q4.pre hp⟩⟩
theorem TabO.nil {N : Mem} {t lo : Nat} (h : Live N t (.row [] true 1)) (hl : lo ≤ t) : TabO N t [] N.length lo := ⟨[], h, rfl, h.lt, hl, fun i hi => by simp at hi⟩
/-- All that lies from lo on stays. -/
theorem TabO.hold {N N' : Mem} {t : Nat} {L : List (List Int)} {b lo : Nat} (h : TabO N t L b lo) (hk : ∀ q, lo ≤ q → q < N.length → N'[q]? = N[q]?) : TabO N' t L b lo := by
  obtain ⟨refs, h1, h2, h3, h0, h4⟩ := h
  have key : ∀ {q : Nat} {bl : Blk}, lo ≤ q → Live N q bl → Live N' q bl := fun {q bl} hq hl => by
    have := hl.lt
    unfold Live at hl ⊢
    rw [hk q hq this]; exact hl
  exact ⟨refs, key h0 h1, h2, h3, h0, fun i hi => by obtain ⟨u, q0, q1, q2, q3, q4⟩ := h4 i hi; exact ⟨u, q0, q1, q2, q3, key q0 q4⟩⟩
/-- A row goes behind a table. -/
theorem appendK_tab {M0 N0 N : Mem} {t r lo : Nat} {L : List (List Int)} {l : List Int} {A : LV → Mem → Prop} (h : TabO N0 t L N0.length lo) (hp : Pre N0 N) (hr : Live N r (.row (intL l) true 1)) (hr0 : N0.length ≤ r) (hl : L.length ≤ 1000) (hM : Pre M0 N) (ht : M0.length ≤ t)
    (hA : ∀ u M', TabO M' u (L ++ [l]) M'.length lo → Pre M0 M' → (u = t ∨ N.length ≤ u) → (∀ w, w ≠ t → w < N.length → M'[w]? = N[w]?) → N.length ≤ M'.length → A (.ref u 0 (L ++ [l]).length) M') :
    appendK 1 24 (.ref t 0 L.length) (.ref N.length 0 1) (N ++ [some (.row [.ref r 0 l.length] true 1)]) A := by
  obtain ⟨refs, h1, h2, h3, h0, h4⟩ := h
  have hN := hp.1
  have hrl := hr.lt
  refine appendK_list (acc := refs) (new := [.ref r 0 l.length]) (h1.pre (hp.trans (Pre.app _ _))) (by omega) (Live.new (b := .row [.ref r 0 l.length] true 1)).has (by simp) (by omega) (by omega) fun u M' k1 k2 k3 k4 => ?_
  rw [List.length_append, List.length_singleton] at k1 k3 k4
  have hu : u ≠ r := by rcases k3 with e | e <;> omega
  have hold : ∀ w, w ≠ t → w < N.length → M'[w]? = N[w]? := fun w hw hwl => by
    rw [k4 w hw (by omega)]; exact List.getElem?_append_left hwl
  have e : L.length + 1 = (L ++ [l]).length := by simp
  rw [e]
  refine hA u M' ⟨refs ++ [.ref r 0 l.length], k2, by simp [h2], k2.lt, by rcases k3 with e | e <;> omega, fun i hi => ?_⟩ ?_ ?_ hold (by omega)
  · rw [List.length_append, List.length_singleton] at hi
    by_cases hi2 : i < L.length
    · obtain ⟨v, q0, q1, q2, q3, q4⟩ := h4 i hi2
      have hg : (L ++ [l]).getD i [] = L.getD i [] := by simp only [List.getD_eq_getElem?_getD]; rw [List.getElem?_append_left hi2]
      rw [hg]
      refine ⟨v, q0, by omega, by rcases k3 with e | e <;> omega, by rw [List.getElem?_append_left (by omega)]; exact q3, ?_⟩
      have := q4.pre hp
      unfold Live at this ⊢
      rw [hold v q2 (by omega)]; exact this
    · have : i = L.length := by omega
      subst this
      have hg : (L ++ [l]).getD L.length [] = l := by simp
      rw [hg]
      refine ⟨r, by omega, by omega, fun e => hu e.symm, by rw [← h2, List.getElem?_concat_length], ?_⟩
      unfold Live at hr ⊢
      rw [hold r (by omega) hrl]; exact hr
  · exact ⟨by have := hM.1; omega, fun w hw => by rw [hold w (by omega) (Nat.lt_of_lt_of_le hw hM.1)]; exact hM.2 w hw⟩
  · rcases k3 with e | e
    · exact .inl e
    · exact .inr (by omega)
/-- A table that may be read. -/
def TabV (N : Mem) (v : LV) (L : List (List Int)) : Prop := (v = .nil ∧ L = []) ∨ ∃ (t : Nat) (refs : List LV), v = .ref t 0 L.length ∧ Live N t (.row refs true 1) ∧ refs.length = L.length ∧ ∀ i, i < L.length → ∃ u : Nat, refs[i]? = some (.ref u 0 (L.getD i []).length) ∧ Ints N u 0 (L.getD i [])
theorem TabO.v {N : Mem} {t : Nat} {L : List (List Int)} {b lo : Nat} (h : TabO N t L b lo) : TabV N (.ref t 0 L.length) L := by
  obtain ⟨refs, h1, h2, h3, h0, h4⟩ := h
  exact .inr ⟨t, refs, rfl, h1, h2, fun i hi => by obtain ⟨u, q0, q1, q2, q3, q4⟩ := h4 i hi; exact ⟨u, q3, q4.has⟩⟩
theorem TabV.pre {N N' : Mem} {v : LV} {L : List (List Int)} (h : TabV N v L) (hp : Pre N N') : TabV N' v L := by
  rcases h with h | ⟨t, refs, h1, h2, h3, h4⟩
  · exact .inl h
  · exact .inr ⟨t, refs, h1, h2.pre hp, h3, fun i hi => by obtain ⟨u, q3, q4⟩ := h4 i hi; exact ⟨u, q3, q4.pre hp⟩⟩
theorem TabV.lenV {N : Mem} {v : LV} {L : List (List Int)} (h : TabV N v L) : lenV v = some (L.length : Int) := by
  rcases h with ⟨rfl, rfl⟩ | ⟨t, refs, rfl, _⟩ <;> rfl
theorem TabV.at {N : Mem} {v : LV} {L : List (List Int)} {i : Nat} (h : TabV N v L) (hi : i < L.length) : ∃ t u : Nat, v = .ref t 0 L.length ∧ getCell N t i = some (.ref u 0 (L.getD i []).length) ∧ Ints N u 0 (L.getD i []) := by
  rcases h with ⟨_, rfl⟩ | ⟨t, refs, rfl, h2, h3, h4⟩
  · simp at hi
  · obtain ⟨u, q3, q4⟩ := h4 i hi
    refine ⟨t, u, rfl, ?_, q4⟩
    rw [← q3]
    exact h2.cell
end Go.Ab

/- The abstract code of some functions (written by a program of mine from the translation, by way of prepF). -/
namespace Go.Ab.C
open Go.Ab
end Go.Ab.C

/- That the program has this code. -/
namespace Go.Ab.K
open Go Go.Ab
end Go.Ab.K

/- The abstract code of some functions (written by a program of mine from the translation, by way of prepF). -/
namespace Go.Ab.C
open Go.Ab
end Go.Ab.C

/- That the program has this code. -/
namespace Go.Ab.K
open Go Go.Ab
end Go.Ab.K

/- The abstract code of some functions (written by a program of mine from the translation, by way of prepF). -/
namespace Go.Ab.C
open Go.Ab
end Go.Ab.C

/- That the program has this code. -/
namespace Go.Ab.K
open Go Go.Ab
end Go.Ab.K

/- The abstract code of some functions (written by a program of mine from the translation, by way of prepF). -/
namespace Go.Ab.C
open Go.Ab
end Go.Ab.C

/- That the program has this code. -/
namespace Go.Ab.K
open Go Go.Ab
end Go.Ab.K

/- Plain words: bare faces; they stay when a heap is turned. -/
namespace Go.Ab
open Go
set_option linter.unusedVariables false
set_option linter.unusedSimpArgs false
set_option maxRecDepth 20000

/-- The cell beyond a face. -/
def nbC (c : Cell) (f : Nat) : Cell := ⟨c.a + if f = 0 then -1 else if f = 1 then 1 else 0, c.b + if f = 2 then -1 else if f = 3 then 1 else 0, c.c + if f = 4 then -1 else if f = 5 then 1 else 0⟩
def bareN (S : List Cell) (c : Cell) : Nat := (List.range 6).countP fun f => decide (nbC c f ∉ S)
/-- The bare faces of one kind. -/
def faceN (cs : List Cell) (f : Nat) : Nat := cs.countP fun c => decide (nbC c f ∉ cs)
def surfN (cs : List Cell) : Nat := ((List.range 6).map (faceN cs)).sum
/-- The face of a cell that a turn brings to a face. -/
def sigT (T : Turn) (f : Nat) : Nat := (T.fr.at (f / 2 : Nat)).toNat * 2 + (xorI ((f % 2 : Nat) : Int) (T.fl.at (f / 2 : Nat))).toNat
end Go.Ab

/- The abstract code of some functions (written by a program of mine from the translation, by way of prepF). -/
namespace Go.Ab.C
open Go.Ab
end Go.Ab.C

/- That the program has this code. -/
namespace Go.Ab.K
open Go Go.Ab
end Go.Ab.K

/- Contracts: cells that must be, the reference's side; MustCells and SpareCells, both sides. -/
namespace Go.Ab
open Go
set_option linter.unusedSimpArgs false
set_option linter.unusedVariables false
set_option maxRecDepth 20000

/-- Of the allowed cells those that must be (sp false), or the others. -/
def shdPart (x y z : Int) (tp fr sd : List Int) (sp : Bool) : List Cell := (pick x y z (allowedB y z tp fr sd)).filter fun c => aloneK y z (pick x y z (allowedB y z tp fr sd)) 3 c != sp
section
variable {x y z : Int} {t o t' o' t2 o2 : Nat} {tp fr sd : List Int} {M : Mem} (h1 : Ints M t o tp) (h2 : Ints M t' o' fr) (h3 : Ints M t2 o2 sd)
include h1 h2 h3
end
end Go.Ab

/- Contracts: MustCells and SpareCells, both sides. -/
namespace Go.Ab
open Go
set_option linter.unusedSimpArgs false
set_option linter.unusedVariables false
set_option maxRecDepth 20000

/-- A valid shadow whose lists fit together. -/
def Fits (x y z : Int) (tp fr sd : List Int) : Prop := ShdOK x y z tp fr sd ∧ HasShd x y z tp fr sd (pick x y z (allowedB y z tp fr sd))
instance (x y z : Int) (tp fr sd : List Int) : Decidable (Fits x y z tp fr sd) := by unfold Fits; exact inferInstance
def partOf (x y z : Int) (tp fr sd : List Int) (sp : Bool) : Option (List Cell) := if Fits x y z tp fr sd then some (shdPart x y z tp fr sd sp) else none
section
variable {x y z : Int} {t o t' o' t2 o2 : Nat} {tp fr sd : List Int} {M : Mem} (h1 : Ints M t o tp) (h2 : Ints M t' o' fr) (h3 : Ints M t2 o2 sd) (l1 : tp.length ≤ 1000000000) (l2 : fr.length ≤ 1000000000) (l3 : sd.length ≤ 1000000000)
include h1 h2 h3 l1 l2 l3
end
end Go.Ab

/- Plain: what the law of shadows says. -/
namespace Go.Ab
open Go
set_option linter.unusedSimpArgs false
set_option linter.unusedVariables false
set_option maxRecDepth 20000

section
variable {x y z : Int} {tp fr sd : List Int} (hok : ShdOK x y z tp fr sd)
include hok
end
/-- The number of lit lines. -/
def litSum : List Int → Int
  | [] => 0
  | a :: l => a + litSum l
theorem litSum_zero : ∀ n : Nat, litSum (List.replicate n 0) = 0
  | 0 => rfl
  | n + 1 => by simp only [List.replicate_succ, litSum, litSum_zero n]; rfl
end Go.Ab

/- Plain: faces of heaps, of filled heaps, and shadows. -/
namespace Go.Ab
open Go
set_option linter.unusedSimpArgs false
set_option linter.unusedVariables false
set_option maxRecDepth 20000

def oppF (f : Nat) : Nat := if f % 2 = 0 then f + 1 else f - 1
theorem six {f : Nat} (hf : f < 6) : f = 0 ∨ f = 1 ∨ f = 2 ∨ f = 3 ∨ f = 4 ∨ f = 5 := by omega
def nearN (cs : List Cell) (c : Cell) : Nat := (List.range 6).countP fun f => decide (nbC c f ∈ cs)
def nearSum (cs : List Cell) : Nat := (cs.map (nearN cs)).sum
section
variable {x y z : Int} {cs : List Cell} (hH : HeapOK x y z cs)
/-- All cells of the heap or enclosed. -/
noncomputable def filL (x y z : Int) (cs : List Cell) : List Cell := pick x y z fun c => decide (c ∈ cs) || closed x y z (fun c => decide (c ∈ cs)) c
include hH
omit hH in
end
end Go.Ab

/- Contracts: the reference's bare and outside faces. -/
namespace Go.Ab
open Go
set_option linter.unusedSimpArgs false
set_option linter.unusedVariables false
set_option maxRecDepth 20000

/-- Counters of six kinds, behind some cells and some faces of the next one. -/
def cntQ (p : Cell → Nat → Bool) (cs : List Cell) (i d f : Nat) : Nat := (cs.take i).countP (fun c => p c f) + if f < d ∧ p (cs.getD i default) f = true then 1 else 0
def rowQ (p : Cell → Nat → Bool) (cs : List Cell) (i d : Nat) : List LV := (List.range 6).map fun (f : Nat) => LV.I ((cntQ p cs i d f : Nat) : Int)
section
variable {p : Cell → Nat → Bool} {cs : List Cell} {i d f : Nat}
end
/-- A face beyond which there is neither a cube nor a hidden cell. -/
def bareP (cs es : List Cell) (c : Cell) (f : Nat) : Bool := decide (nbC c f ∉ cs) && decide (nbC c f ∉ es)
def bareC (cs es : List Cell) (f : Nat) : Nat := cs.countP fun c => bareP cs es c f
section
variable {x y z : Int} {t : Nat} {w : Bool} {cs : List Cell} {M : Mem} (h : Live M t (.row (triL cs) w 3)) (hn : cs.length ≤ 1000000000)
include h hn
def faceV (cs : List Cell) : List LV := [.I (faceN cs 0 : Nat), .I (faceN cs 1 : Nat), .I (faceN cs 2 : Nat), .I (faceN cs 3 : Nat), .I (faceN cs 4 : Nat), .I (faceN cs 5 : Nat)]
end
end Go.Ab

/- The abstract code of some functions (written by a program of mine from the translation, by way of prepF). -/
namespace Go.Ab.C
open Go.Ab
end Go.Ab.C

/- That the program has this code. -/
namespace Go.Ab.K
open Go Go.Ab
end Go.Ab.K

/- Contracts: the program's bare faces and surface. -/
namespace Go.Ab
open Go
set_option linter.unusedSimpArgs false
set_option linter.unusedVariables false
set_option maxRecDepth 20000

def cntR (cs : List Cell) (i d f : Nat) : Nat := (cs.take i).countP (fun c => decide (nbC c f ∉ cs)) + if f < d ∧ nbC (cs.getD i default) f ∉ cs then 1 else 0
def rowF (cs : List Cell) (i d : Nat) : List LV := (List.range 6).map fun (f : Nat) => LV.I ((cntR cs i d f : Nat) : Int)
/-- What SurfaceOf answers. -/
noncomputable def surfOf (x y z : Int) (cs : List Cell) : Option Nat := by
  classical
  exact if HeapOK x y z cs then some (surfN cs) else none
end Go.Ab

/- The abstract code of some functions (written by a program of mine from the translation, by way of prepF). -/
namespace Go.Ab.C
open Go.Ab
end Go.Ab.C

/- That the program has this code. -/
namespace Go.Ab.K
open Go Go.Ab
end Go.Ab.K

/- Contracts: the reference's FillCavities. -/
namespace Go.Ab
open Go
set_option linter.unusedSimpArgs false
set_option linter.unusedVariables false

end Go.Ab

/- Contracts: touching faces, both sides; the program's bare and outside faces. -/
namespace Go.Ab
open Go
set_option linter.unusedSimpArgs false
set_option linter.unusedVariables false
set_option maxRecDepth 20000

/-- What the first cells have. -/
def sumK (f : Cell → Nat) (cs : List Cell) (k : Nat) : Nat := ((cs.take k).map f).sum
section
variable {x y z : Int} {t : Nat} {w : Bool} {cs : List Cell} {M : Mem} (h : Live M t (.row (triL cs) w 3))
include h
end
end Go.Ab

/- Plain: the square of the number of cubes is at most the product of the three shadows. -/
namespace Go.Ab
open Go
set_option linter.unusedSimpArgs false
set_option linter.unusedVariables false
set_option maxRecDepth 20000

section
variable {x y z : Int}
/-- How many cells lie on a line. -/
def lineN (y z : Int) (d : Nat) (cs : List Cell) (i : Nat) : Nat := cs.countP (onLine y z d i)
/-- The lit lines of a direction. -/
def litX (x y z : Int) (d : Nat) (cs : List Cell) : List Nat := (List.range (linesOf x y z d).toNat).filter fun i => decide (0 < lineN y z d cs i)
theorem sub_len {α : Type} [DecidableEq α] {l l' : List α} (h : l.Nodup) (h' : l'.Nodup) (hs : ∀ a ∈ l, a ∈ l') : l.length ≤ l'.length := by
  have hp : l.Perm (l'.filter fun a => decide (a ∈ l)) := (List.perm_ext_iff_of_nodup h (h'.filter _)).2 fun a => by
    rw [List.mem_filter, decide_eq_true_iff]
    exact ⟨fun e => ⟨hs a e, e⟩, fun e => e.2⟩
  rw [hp.length_eq]
  exact List.length_filter_le _ _
end
end Go.Ab

/- The abstract code of some functions (written by a program of mine from the translation, by way of prepF). -/
namespace Go.Ab.C
open Go.Ab
def impl_isDirection : AFn :=
 ⟨1, 5, [.tmp 2],
 .seq (.ops [(none, .mv 2 (.c (.B false)))])
 (.seq (.ops [(none, .mv 3 (.t 0)),
 (none, .call (some 4) F.impl_within [(.t 3), (.c (.I 0)), (.c (.I 2))]),
 (none, .mv 2 (.t 4))])
 (.ret))⟩
end Go.Ab.C

/- That the program has this code. -/
namespace Go.Ab.K
open Go Go.Ab
theorem impl_isDirection : prepF Go.Proofs.Try.prog F.impl_isDirection = some C.impl_isDirection := by kernel_rfl
end Go.Ab.K
