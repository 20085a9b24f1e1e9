/- Parts of the proof of FnExactFewestSwitchesSaid: C_Tp K_Tp C_Tn K_Tn Tn Tp Tr Jw C_Bf K_Bf Bf C_Jp K_Jp C_Jg K_Jg Jg Jp C_El K_El C_Ej K_Ej C_Ed2 K_Ed2 C_Ec2 K_Ec2 C_Eg K_Eg C_Ef K_Ef C_Ee K_Ee C_Ed K_Ed C_Ec K_Ec C_Eb3 K_Eb3 C_Eb2 K_Eb2 Eb2 Eb3 Mb Mc Md Ec Ed Ee Ef C_Dh K_Dh C_Dg K_Dg C_Df K_Df Df Dg Dh Eg Me Mf Ec2 Ed2 Mh Ej Mg Mi C_Ek K_Ek Ek El Ba Bc Cf C_Cj K_Cj C_Ci K_Ci C_Cg K_Cg Cg Ci C_Ce K_Ce C_Cd K_Cd C_Zh K_Zh C_Zg K_Zg Zg Zh Zi C_Bk K_Bk C_Bh K_Bh Bg Bh Bk Cd Ce C_Ch K_Ch C_On K_On Om On Ch C_Ji K_Ji C_Jh K_Jh Jh C_Hk K_Hk C_Tq K_Tq Tq C_Tz K_Tz Tz Hk Ji Cj. -/
import Derived.Test.YtggnfklcgopflaaA3
import Derived.Test.YtggnfklcgopflaaA4
import Derived.Test.YtggnfklcgopflaaProg
import Derived.KernelRfl
import Derived.Test.YtggnfklcgopflaaA6
import Derived.Test.YtggnfklcgopflaaA7
import Derived.Test.YtggnfklcgopflaaA5
import Derived.Laws.Bits64
set_option linter.all false
/- The abstract code of some functions (written by a program of mine from the translation, by way of prepF). -/
namespace Go.Ab.C
open Go.Ab
end Go.Ab.C

/- That the program has this code. -/
namespace Go.Ab.K
open Go Go.Ab
end Go.Ab.K

/- The abstract code of some functions (written by a program of mine from the translation, by way of prepF). -/
namespace Go.Ab.C
open Go.Ab
end Go.Ab.C

/- That the program has this code. -/
namespace Go.Ab.K
open Go Go.Ab
end Go.Ab.K

/- Contracts: the program's positions and forms. -/
namespace Go.Ab
open Go
set_option linter.unusedSimpArgs false
set_option linter.unusedVariables false

/-- Heaps, as the elements of a slice; each with the block of its cells. -/
def hrow (p : Nat × Hp) : List LV := [.I p.2.x, .I p.2.y, .I p.2.z, .ref p.1 0 p.2.cs.length]
def hpL (l : List (Nat × Hp)) : List LV := l.flatMap hrow
theorem hpL_len (l : List (Nat × Hp)) : (hpL l).length = l.length * 4 := by
  induction l with
  | nil => rfl
  | cons t l ih => rw [show hpL (t :: l) = hrow t ++ hpL l from rfl, List.length_append, ih, List.length_cons]; simp [hrow]; omega
theorem hpL_at {l : List (Nat × Hp)} : ∀ {k : Nat}, (hk : k < l.length) → ((hpL l).drop (k * 4)).take 4 = hrow l[k] := by
  induction l with
  | nil => intro k hk; simp at hk
  | cons t l ih =>
    intro k hk
    have e : hpL (t :: l) = hrow t ++ hpL l := rfl
    have hr : (hrow t).length = 4 := rfl
    cases k with
    | zero => rw [e, Nat.zero_mul, List.drop_zero, List.take_append_of_le_length (by omega), List.take_of_length_le (by omega)]; rfl
    | succ k =>
      rw [e, List.drop_append, List.drop_eq_nil_of_le (by omega), List.nil_append, hr, show (k + 1) * 4 - 4 = k * 4 by omega, ih (by simpa using hk)]
      rfl
theorem Live.hp {N : Mem} {t k e : Nat} {w : Bool} {l : List (Nat × Hp)} (h : Live N t (.row (hpL l) w e)) (hk : k < l.length) : getCells N t (k * 4) 4 = some (hrow l[k]) := by
  rw [h.cells, if_pos (by rw [hpL_len]; omega), hpL_at hk]
/-- All these heaps' cells are there, behind M. -/
def HpsOK (M N : Mem) (l : List (Nat × Hp)) : Prop := ∀ p ∈ l, Live N p.1 (.row (triL p.2.cs) true 3) ∧ M.length ≤ p.1 ∧ p.2.cs.length ≤ 64
theorem HpsOK.pre {M N N' : Mem} {l : List (Nat × Hp)} (h : HpsOK M N l) (hp : Pre N N') : HpsOK M N' l := fun p hpl => ⟨(h p hpl).1.pre hp, (h p hpl).2⟩

def bestP (b : Nat × Hp) (l : List (Nat × Hp)) : Nat × Hp := l.foldl (fun b n => if lessHp n.2 b.2 then n else b) b
/-- A form as a value: its cells are in a block behind M. -/
def FormRes (M : Mem) (f : Hp) (v : LV) (N : Mem) : Prop := ∃ u : Nat, v = .agg [.I f.x, .I f.y, .I f.z, .ref u 0 f.cs.length] ∧ M.length ≤ u ∧ Live N u (.row (triL f.cs) true 3) ∧ Pre M N
end Go.Ab

/- Contracts: the program's statements on forms. -/
namespace Go.Ab
open Go
set_option linter.unusedSimpArgs false
set_option linter.unusedVariables false

end Go.Ab

/- Contracts: the program's mirrored heaps; IsHanded. -/
namespace Go.Ab
open Go
set_option linter.unusedSimpArgs false
set_option linter.unusedVariables false

end Go.Ab

/- Contracts: bare squares by lines, both sides. -/
namespace Go.Ab
open Go
set_option linter.unusedSimpArgs false
set_option linter.unusedVariables false
set_option maxRecDepth 20000

/-- A number is added at a place of a list. -/
def addAt (v : List Int) (j : Nat) (a : Int) : List Int := v.set j (v.getD j 0 + a)
/-- Each cell's weight is added to its line. -/
def sqStep (y z : Int) (d : Nat) (g : Cell → Nat) (v : List Int) (c : Cell) : List Int := addAt v (lineOf y z c d).toNat (g c)
def sqF (x y z : Int) (d : Nat) (g : Cell → Nat) (l : List Cell) : List Int := l.foldl (sqStep y z d g) (List.replicate (linesOf x y z d).toNat 0)
section
variable {x y z : Int} {d : Nat} {g : Cell → Nat}
end
/-- The ends of stretches count twice. -/
def gEnd (cs : List Cell) (d : Nat) (c : Cell) : Nat := if nbC c (2 * d + 1) ∉ cs then 2 else 0
/-- The first faces of two count. -/
def gTwo (cs : List Cell) (d e : Nat) (c : Cell) : Nat := (List.range e).countP fun f => decide (nbC c (2 * d + f) ∉ cs)
section
variable {x y z : Int} {d : Nat} {cs : List Cell} (hH : HeapOK x y z cs) (hd : d < 3)
include hH hd
end
/-- What BareSquares answers. -/
noncomputable def sqrOf (x y z : Int) (cs : List Cell) (d : Int) : List Int := by
  classical
  exact if HeapOK x y z cs ∧ Dir d then sqF x y z d.toNat (gEnd cs d.toNat) cs else []
noncomputable def sqrB (x y z : Int) (cs : List Cell) (d : Int) : Bool := by
  classical
  exact decide (HeapOK x y z cs ∧ Dir d)
/-- A list of numbers that may be read, and a truth. -/
def IntsG (M : Mem) (l : List Int) (b : Bool) (v : LV) (N : Mem) : Prop := ∃ w, v = .tup [w, .B b] ∧ IntsV N w l ∧ Pre M N
section
variable {x y z : Int} {t : Nat} {w : Bool} {cs : List Cell} {M : Mem} (h : Live M t (.row (triL cs) w 3))
include h
end
end Go.Ab

/- The abstract code of some functions (written by a program of mine from the translation, by way of prepF). -/
namespace Go.Ab.C
open Go.Ab
end Go.Ab.C

/- That the program has this code. -/
namespace Go.Ab.K
open Go Go.Ab
end Go.Ab.K

/- The code of ViewOf. -/
namespace Go.Ab
end Go.Ab

/- The abstract code of some functions (written by a program of mine from the translation, by way of prepF). -/
namespace Go.Ab.C
open Go.Ab
end Go.Ab.C

/- That the program has this code. -/
namespace Go.Ab.K
open Go Go.Ab
end Go.Ab.K

/- The abstract code of some functions (written by a program of mine from the translation, by way of prepF). -/
namespace Go.Ab.C
open Go.Ab
end Go.Ab.C

/- That the program has this code. -/
namespace Go.Ab.K
open Go Go.Ab
end Go.Ab.K

/- Contracts: the reference's mirrored, other, cropped, widened and shifted heaps. -/
namespace Go.Ab
open Go
set_option linter.unusedSimpArgs false
set_option linter.unusedVariables false
set_option maxRecDepth 20000

section
variable {x y z : Int} {t : Nat} {w : Bool} {cs : List Cell} {M : Mem} (h : Live M t (.row (triL cs) w 3)) (hn : cs.length ≤ 1000000000)
include h hn
end
end Go.Ab

/- Contracts: shadows that fit together, greatest heaps, bounds, clean shadows, taken cubes. -/
namespace Go.Ab
open Go
set_option linter.unusedSimpArgs false
set_option linter.unusedVariables false
set_option maxRecDepth 20000

structure Shd where
  x : Int
  y : Int
  z : Int
  tp : List Int
  fr : List Int
  sd : List Int
def Shd.none : Shd := ⟨0, 0, 0, [], [], []⟩
/-- A shadow, or the one of all zeros and false; its lists may be read. -/
def ShdX (M : Mem) (r : Option Shd) (v : LV) (N : Mem) : Prop := ∃ a b c : Nat, v = .tup [.agg [.I (r.getD Shd.none).x, .I (r.getD Shd.none).y, .I (r.getD Shd.none).z, .ref a 0 (r.getD Shd.none).tp.length, .ref b 0 (r.getD Shd.none).fr.length, .ref c 0 (r.getD Shd.none).sd.length], .B r.isSome] ∧
  Ints N a 0 (r.getD Shd.none).tp ∧ Ints N b 0 (r.getD Shd.none).fr ∧ Ints N c 0 (r.getD Shd.none).sd ∧ Pre M N
section
variable (x y z : Int) (tp fr sd : List Int)
noncomputable def grtOf : Option Hp := by
  classical
  exact if Fits x y z tp fr sd then some ⟨x, y, z, pick x y z (allowedB y z tp fr sd)⟩ else none
noncomputable def clnOf : Option Shd := by
  classical
  exact if ShdOK x y z tp fr sd then some ⟨x, y, z, shdOf x y z 2 (pick x y z (allowedB y z tp fr sd)), shdOf x y z 1 (pick x y z (allowedB y z tp fr sd)), shdOf x y z 0 (pick x y z (allowedB y z tp fr sd))⟩ else none
noncomputable def lbdOf : Option Int := by
  classical
  exact if ShdOK x y z tp fr sd then some (max (litSum tp) (max (litSum fr) (litSum sd))) else none
end
section
variable {x y z : Int} {t o t' o' t2 o2 : Nat} {tp fr sd : List Int} {M : Mem} (h1 : Ints M t o tp) (h2 : Ints M t' o' fr) (h3 : Ints M t2 o2 sd) (l1 : tp.length ≤ 1000000000) (l2 : fr.length ≤ 1000000000) (l3 : sd.length ≤ 1000000000)
include h1 h2 h3 l1 l2 l3
end
end Go.Ab

/- The abstract code of some functions (written by a program of mine from the translation, by way of prepF). -/
namespace Go.Ab.C
open Go.Ab
end Go.Ab.C

/- That the program has this code. -/
namespace Go.Ab.K
open Go Go.Ab
end Go.Ab.K

/- The abstract code of some functions (written by a program of mine from the translation, by way of prepF). -/
namespace Go.Ab.C
open Go.Ab
end Go.Ab.C

/- That the program has this code. -/
namespace Go.Ab.K
open Go Go.Ab
end Go.Ab.K

/- The abstract code of some functions (written by a program of mine from the translation, by way of prepF). -/
namespace Go.Ab.C
open Go.Ab
end Go.Ab.C

/- That the program has this code. -/
namespace Go.Ab.K
open Go Go.Ab
end Go.Ab.K

/- The abstract code of some functions (written by a program of mine from the translation, by way of prepF). -/
namespace Go.Ab.C
open Go.Ab
end Go.Ab.C

/- That the program has this code. -/
namespace Go.Ab.K
open Go Go.Ab
end Go.Ab.K

/- The abstract code of some functions (written by a program of mine from the translation, by way of prepF). -/
namespace Go.Ab.C
open Go.Ab
end Go.Ab.C

/- That the program has this code. -/
namespace Go.Ab.K
open Go Go.Ab
end Go.Ab.K

/- The abstract code of some functions (written by a program of mine from the translation, by way of prepF). -/
namespace Go.Ab.C
open Go.Ab
end Go.Ab.C

/- That the program has this code. -/
namespace Go.Ab.K
open Go Go.Ab
end Go.Ab.K

/- The abstract code of some functions (written by a program of mine from the translation, by way of prepF). -/
namespace Go.Ab.C
open Go.Ab
end Go.Ab.C

/- That the program has this code. -/
namespace Go.Ab.K
open Go Go.Ab
end Go.Ab.K

/- The abstract code of some functions (written by a program of mine from the translation, by way of prepF). -/
namespace Go.Ab.C
open Go.Ab
end Go.Ab.C

/- That the program has this code. -/
namespace Go.Ab.K
open Go Go.Ab
end Go.Ab.K

/- The abstract code of some functions (written by a program of mine from the translation, by way of prepF). -/
namespace Go.Ab.C
open Go.Ab
end Go.Ab.C

/- That the program has this code. -/
namespace Go.Ab.K
open Go Go.Ab
end Go.Ab.K

/- The abstract code of some functions (written by a program of mine from the translation, by way of prepF). -/
namespace Go.Ab.C
open Go.Ab
end Go.Ab.C

/- That the program has this code. -/
namespace Go.Ab.K
open Go Go.Ab
end Go.Ab.K

/- The abstract code of some functions (written by a program of mine from the translation, by way of prepF). -/
namespace Go.Ab.C
open Go.Ab
def impl_Heap_heights : AFn :=
 ⟨1, 37, [.tmp 2],
 .seq (.ops [(none, .box 1 (.t 0)),
 (none, .mv 2 (.c .nil))])
 (.seq (.ops [(none, .fieldAddr 7 (.t 1) 0),
 (none, .load1 8 (.t 7)),
 (none, .fieldAddr 9 (.t 1) 1),
 (none, .load1 10 (.t 9)),
 (none, .bin 11 .mul (.t 8) (.t 10)),
 (none, .mksl 12 1 8 [(.I 0)] (.t 11) (.t 11)),
 (none, .mv 3 (.t 12))])
 (.seq (.seq (.ops [(none, .fieldAddr 13 (.t 1) 3),
 (none, .load1 14 (.t 13)),
 (none, .len 15 (.t 14)),
 (none, .mv 16 (.c (.I 0)))])
 (.block 0 (.loop (.seq (.ops [(none, .bin 17 .lss (.t 16) (.t 15))])
 (.seq (.cond (.t 17) (.skip)
 (.exit 0))
 (.seq (.block 1 (.seq (.ops [(none, .idxS 18 3 (.t 14) (.t 16)),
 (none, .loadN 19 3 (.t 18)),
 (none, .alloc 5 [(.I 0), (.I 0), (.I 0)]),
 (none, .store 3 (.t 5) (.t 19))])
 (.seq (.draw [⟨(none, .loadN 20 4 (.t 1)), [], []⟩,
 ⟨(none, .loadN 22 3 (.t 5)), [], []⟩,
 ⟨(none, .call (some 21) F.impl_Heap_box [(.t 20)]), [], [1]⟩,
 ⟨(none, .call (some 23) F.impl_box_line [(.t 21), (.t 22), (.c (.I 2))]), [], []⟩,
 ⟨(none, .mv 6 (.t 23)), [], []⟩])
 (.draw [⟨(none, .mv 24 (.t 3)), [], []⟩,
 ⟨(none, .mv 25 (.t 6)), [], []⟩,
 ⟨(none, .mv 26 (.t 3)), [], []⟩,
 ⟨(none, .mv 27 (.t 6)), [], []⟩,
 ⟨(none, .idxS 28 1 (.t 26) (.t 27)), [], []⟩,
 ⟨(none, .load1 29 (.t 28)), [], []⟩,
 ⟨(none, .idxA 30 3 1 (.t 5) (.c (.I 2))), [], []⟩,
 ⟨(none, .load1 31 (.t 30)), [], []⟩,
 ⟨(none, .bin 32 .add (.t 31) (.c (.I 1))), [], []⟩,
 ⟨(none, .mm 33 true [(.t 29), (.t 32)]), [], []⟩,
 ⟨(none, .idxS 34 1 (.t 24) (.t 25)), [], []⟩,
 ⟨(none, .store 1 (.t 34) (.t 33)), [], []⟩]))))
 (.ops [(none, .bin 35 .add (.t 16) (.c (.I 1))),
 (none, .mv 16 (.t 35))])))))))
 (.seq (.ops [(none, .mv 36 (.t 3)),
 (none, .mv 2 (.t 36))])
 (.ret))))⟩
end Go.Ab.C

/- That the program has this code. -/
namespace Go.Ab.K
open Go Go.Ab
theorem impl_Heap_heights : prepF Go.Proofs.Try.prog F.impl_Heap_heights = some C.impl_Heap_heights := by kernel_rfl
end Go.Ab.K

/- Contracts: g_heights. -/
namespace Go.Ab
open Go
set_option linter.unusedSimpArgs false
set_option linter.unusedVariables false
set_option maxRecDepth 20000

theorem g_heights {x y z : Int} {t o : Nat} {cs : List Cell} {M : Mem} (h : Tri M t o cs) (hn : cs.length ≤ 1000000000) (hH : HeapOK x y z cs) :
    CallsTo PG F.impl_Heap_heights [.agg [.I x, .I y, .I z, .ref t o cs.length]] M (.ref M.length 0 (x * y).toNat) (M ++ [some (.row (intL (topsOf x y cs)) true 1)]) := by
  have hb := mul_bound hH.1.1 hH.1.2.1
  refine calls_run K.impl_Heap_heights rfl ?_
  simp (disch := omega) only [C.impl_Heap_heights, made_int, ↓SXd, SXu, slBounds, ↓sop, ↓aop, ↓reduceIte, LV.cells, AOp.dst, LV.I, LV.B, LV.U, LV.S, LV.nil, Nat.reduceEqDiff, Nat.reduceAdd, Nat.reduceMul, Nat.reduceSub, Nat.reduceLeDiff, Nat.reduceBEq, Nat.reduceDiv, Nat.reduceMod, Int.reduceToNat, Int.reduceLT, Int.reduceLE, Int.reduceAdd, Int.reduceSub, Int.reduceMul, Int.reduceEq, Int.reduceNeg, reduceCtorEq, resV, resAll, ARes.ev, LV.flat, ite_true, ite_false, exists_eq_left', exists_eq_left, keyOf, implies_true, fillC, capOf]
  refine ev_loop (fun m fr M' => ∃ (k : Nat) (out : List Int), k + m = cs.length ∧ Pre M M' ∧ Live M' M.length (.row [.I x, .I y, .I z, .ref t o cs.length] true 0) ∧ Live M' (M.length + 1) (.row (intL out) true 1) ∧
    fr 1 = .ptr M.length 0 ∧ fr 3 = .ref (M.length + 1) 0 (x * y).toNat ∧ fr 14 = .ref t o cs.length ∧ fr 15 = .I (cs.length : Nat) ∧ fr 16 = .I k ∧
    out = (cs.take k).foldl (topStep y) (List.replicate (x * y).toNat 0) ∧ out.length = (x * y).toNat) cs.length ⟨0, _, by omega, Pre.app _ _, Live.new, Live.newj rfl, rfl, rfl, rfl, rfl, rfl, rfl, by simp⟩ ?_
  rintro m fr M' ⟨k, out, hk, hpre, hbox, hout, h1, h3, h14, h15, h16, ho, hol⟩
  have h' : Tri M' t o cs := h.pre hpre
  have ht := h'.lt
  simp (disch := omega) only [h1, h3, h14, h15, h16, ↓SXd, SXu, slBounds, ↓sop, ↓aop, ↓reduceIte, LV.cells, AOp.dst, LV.I, LV.B, LV.U, LV.S, LV.nil, Nat.reduceEqDiff, Nat.reduceAdd, Nat.reduceMul, Nat.reduceSub, Nat.reduceLeDiff, Nat.reduceBEq, Nat.reduceDiv, Nat.reduceMod, Int.reduceToNat, Int.reduceLT, Int.reduceLE, Int.reduceAdd, Int.reduceSub, Int.reduceMul, Int.reduceEq, Int.reduceNeg, reduceCtorEq, resV, resAll, ARes.ev, LV.flat, ite_true, ite_false, exists_eq_left', exists_eq_left, keyOf, implies_true, fillC, capOf]
  refine condC_dec (fun hlt => ?_) (fun hlt => ?_)
  · obtain ⟨ca, cb, cc⟩ := hH.cell' (k := k) (by omega)
    have hS := hH.1
    obtain ⟨b1, b2, b3, b4⟩ := col_bound hS.1 hS.2.1 ca cb
    obtain ⟨_, hy, hz⟩ := hS
    have hbox' : ∀ {L : Mem} {o n : Nat}, getCells (M' ++ L) M.length o n = _ := fun {L o n} => (hbox.app (L := L)).cells
    have houtc : ∀ {L : Mem} {o : Nat}, getCell (M' ++ L) (M.length + 1) o = _ := fun {L o} => (hout.app (L := L)).cell
    simp (disch := omega) only [h1, h3, h14, h15, h16, Tri.get h', Cell.row, hbox', ↓SXd, SXu, slBounds, ↓sop, ↓aop, ↓reduceIte, LV.cells, AOp.dst, LV.I, LV.B, LV.U, LV.S, LV.nil, Nat.reduceEqDiff, Nat.reduceAdd, Nat.reduceMul, Nat.reduceSub, Nat.reduceLeDiff, Nat.reduceBEq, Nat.reduceDiv, Nat.reduceMod, Int.reduceToNat, Int.reduceLT, Int.reduceLE, Int.reduceAdd, Int.reduceSub, Int.reduceMul, Int.reduceEq, Int.reduceNeg, reduceCtorEq, resV, resAll, ARes.ev, LV.flat, ite_true, ite_false, exists_eq_left', exists_eq_left, keyOf, implies_true, fillC, capOf]
    refine callK_of g_box ?_
    simp (disch := omega) only [h1, h3, h14, h15, h16, Tri.get h', Cell.row, hbox', ↓SXd, SXu, slBounds, ↓sop, ↓aop, ↓reduceIte, LV.cells, AOp.dst, LV.I, LV.B, LV.U, LV.S, LV.nil, Nat.reduceEqDiff, Nat.reduceAdd, Nat.reduceMul, Nat.reduceSub, Nat.reduceLeDiff, Nat.reduceBEq, Nat.reduceDiv, Nat.reduceMod, Int.reduceToNat, Int.reduceLT, Int.reduceLE, Int.reduceAdd, Int.reduceSub, Int.reduceMul, Int.reduceEq, Int.reduceNeg, reduceCtorEq, resV, resAll, ARes.ev, LV.flat, ite_true, ite_false, exists_eq_left', exists_eq_left, keyOf, implies_true, fillC, capOf]
    refine callK_of (g_line2 (by omega) (by omega)) ?_
    simp (disch := omega) only [h1, h3, h14, h15, h16, Tri.get h', Cell.row, hbox', houtc, intL_get, maxV, if_true, ↓SXd, SXu, slBounds, ↓sop, ↓aop, ↓reduceIte, LV.cells, AOp.dst, LV.I, LV.B, LV.U, LV.S, LV.nil, Nat.reduceEqDiff, Nat.reduceAdd, Nat.reduceMul, Nat.reduceSub, Nat.reduceLeDiff, Nat.reduceBEq, Nat.reduceDiv, Nat.reduceMod, Int.reduceToNat, Int.reduceLT, Int.reduceLE, Int.reduceAdd, Int.reduceSub, Int.reduceMul, Int.reduceEq, Int.reduceNeg, reduceCtorEq, resV, resAll, ARes.ev, LV.flat, ite_true, ite_false, exists_eq_left', exists_eq_left, keyOf, implies_true, fillC, capOf]
    refine memK_int hout.app (by omega) fun N l1 l2 l3 => ?_
    simp (disch := omega) only [h1, h3, h14, h15, h16, ↓SXd, SXu, slBounds, ↓sop, ↓aop, ↓reduceIte, LV.cells, AOp.dst, LV.I, LV.B, LV.U, LV.S, LV.nil, Nat.reduceEqDiff, Nat.reduceAdd, Nat.reduceMul, Nat.reduceSub, Nat.reduceLeDiff, Nat.reduceBEq, Nat.reduceDiv, Nat.reduceMod, Int.reduceToNat, Int.reduceLT, Int.reduceLE, Int.reduceAdd, Int.reduceSub, Int.reduceMul, Int.reduceEq, Int.reduceNeg, reduceCtorEq, resV, resAll, ARes.ev, LV.flat, ite_true, ite_false, exists_eq_left', exists_eq_left, keyOf, implies_true, fillC, capOf]
    refine ⟨m - 1, by omega, k + 1, _, by omega, pre_step (Pre.app' hpre) (by omega) (j := 0) l1 l3, live_step hbox.app (by omega) l3, l2, h1, h3, h14, h15, eqI (natI _), ?_, by simpa using hol⟩
    rw [take_succ_foldl _ _ _ _ default (by omega), ← ho]
    rfl
  · simp (disch := omega) only [h1, h3, h14, h15, h16, ↓SXd, SXu, slBounds, ↓sop, ↓aop, ↓reduceIte, LV.cells, AOp.dst, LV.I, LV.B, LV.U, LV.S, LV.nil, Nat.reduceEqDiff, Nat.reduceAdd, Nat.reduceMul, Nat.reduceSub, Nat.reduceLeDiff, Nat.reduceBEq, Nat.reduceDiv, Nat.reduceMod, Int.reduceToNat, Int.reduceLT, Int.reduceLE, Int.reduceAdd, Int.reduceSub, Int.reduceMul, Int.reduceEq, Int.reduceNeg, reduceCtorEq, resV, resAll, ARes.ev, LV.flat, ite_true, ite_false, exists_eq_left', exists_eq_left, keyOf, implies_true, fillC, capOf]
    have : k = cs.length := by omega
    subst this
    rw [List.take_length] at ho
    rw [show topsOf x y cs = out from ho.symm]
    exact cmp_keepL hpre (by omega) hout (intL_lo out) (by simp [rn, rn0, rn1])

end Go.Ab

/- Contracts: g_top g_isTop g_isTop_nil. -/
namespace Go.Ab
open Go
set_option linter.unusedSimpArgs false
set_option linter.unusedVariables false
set_option maxRecDepth 20000

end Go.Ab

/- Plain words: how far columns are, step by step. -/
namespace Go.Ab

theorem getD_mem {α : Type} {l : List α} {k : Nat} {d : α} (h : k < l.length) : l.getD k d ∈ l := by
  simp [h]

/-- One neighbour of column p is looked at. -/
def visit (p : Int) (st : List Int × List Int) (q : Int) : List Int × List Int :=
  if st.1.getD q.toNat 0 < 0 then (st.1.set q.toNat (st.1.getD p.toNat 0 + 1), st.2 ++ [q]) else st
def bfs (N : Int → List Int) : Nat → Nat → List Int × List Int → List Int
  | 0, _, st => st.1
  | f + 1, n, st => if n < st.2.length then bfs N f (n + 1) ((N (st.2.getD n 0)).foldl (visit (st.2.getD n 0)) st) else st.1
/-- How many steps lead from column p to each column, or -1. -/
def farFrom (c : Nat) (N : Int → List Int) (p : Int) : List Int := bfs N c 0 ((List.replicate c (-1)).set p.toNat 0, [p])

structure BInv (c : Nat) (st : List Int × List Int) : Prop where
  len : st.1.length = c
  cnt : st.1.countP (fun v => decide (v < 0)) + st.2.length = c
  mem : ∀ q ∈ st.2, 0 ≤ q ∧ q < (c : Int)
  val : ∀ k, k < c → -1 ≤ st.1.getD k 0 ∧ st.1.getD k 0 ≤ (st.2.length : Int)

theorem BInv.visit {c : Nat} {st : List Int × List Int} {p q : Int} (h : BInv c st) (hp : 0 ≤ p ∧ p < c) (hq : 0 ≤ q ∧ q < c) : BInv c (Go.Ab.visit p st q) := by
  unfold Go.Ab.visit
  split
  · rename_i hlt
    have hql : q.toNat < st.1.length := by rw [h.len]; omega
    have hvp := h.val p.toNat (by omega)
    refine ⟨by simpa using h.len, ?_, fun r hr => ?_, fun k hk => ?_⟩
    · have h1 := h.cnt
      simp only [List.length_append, List.length_singleton]
      rw [List.countP_set hql]
      have e : st.1[q.toNat] = st.1.getD q.toNat 0 := by simp [hql]
      have h2 : 0 < st.1.countP (fun v => decide (v < 0)) := List.countP_pos_iff.2 ⟨st.1[q.toNat], List.getElem_mem _, by rw [e]; simpa using hlt⟩
      rw [e]
      simp only [hlt, decide_true, if_true, show decide (st.1.getD p.toNat 0 + 1 < 0) = false from decide_eq_false (by omega), Bool.false_eq_true, if_false]
      omega
    · rcases List.mem_append.1 hr with hr | hr
      · exact h.mem r hr
      · rw [List.mem_singleton.1 hr]; exact hq
    · simp only [List.length_append, List.length_singleton]
      rw [getD_set]
      have := h.val k hk
      split <;> omega
  · exact h

theorem BInv.fold {c : Nat} {p : Int} (hp : 0 ≤ p ∧ p < c) : ∀ (l : List Int) (st : List Int × List Int), BInv c st → (∀ q ∈ l, 0 ≤ q ∧ q < (c : Int)) → BInv c (l.foldl (Go.Ab.visit p) st)
  | [], st, h, _ => h
  | q :: l, st, h, hl => BInv.fold hp l _ (h.visit hp (hl q (by simp))) fun r hr => hl r (by simp [hr])

theorem BInv.start {c : Nat} {p : Int} (hp : 0 ≤ p ∧ p < c) : BInv c ((List.replicate c (-1)).set p.toNat 0, [p]) := by
  refine ⟨by simp, ?_, fun q hq => by rw [List.mem_singleton.1 hq]; exact hp, fun k hk => ?_⟩
  · have hl : p.toNat < (List.replicate c (-1 : Int)).length := by simp; omega
    simp only
    rw [List.countP_set hl, List.countP_replicate]
    simp
    omega
  · simp only [getD_set]
    split
    · simp
    · simp [hk]

end Go.Ab

/- Plain words: regions. -/
namespace Go.Ab

def spreadOf (x y : Int) (cs : List Cell) (p s : Int) : List Int := farFrom (x * y).toNat (fun q => stepsOf x y (topsOf x y cs) q s) p
def regionOf (x y : Int) (cs : List Cell) (p s : Int) : List Int := (nums (x * y).toNat).filter fun q => decide (0 ≤ (spreadOf x y cs p s).getD q.toNat 0)
def countRegions (x y : Int) (cs : List Cell) (s : Int) : Int := ((nums (x * y).toNat).filter fun p => decide ((regionOf x y cs p s).getD 0 0 = p)).length
end Go.Ab

/- Plain words: the neighbours of a column, the program's way; they are those of the reference. -/
namespace Go.Ab

def nearL (y c p : Int) : List Int :=
  (if y ≤ p then [p - y] else []) ++ ((if 0 < p.tmod y then [p - 1] else []) ++ ((if p.tmod y < y - 1 then [p + 1] else []) ++ (if p + y < c then [p + y] else [])))

end Go.Ab

/- Contracts: the program's steps between columns. -/
namespace Go.Ab
open Go
set_option linter.unusedSimpArgs false
set_option linter.unusedVariables false

end Go.Ab

/- Contracts: searching and deleting in slices, by a function. -/
namespace Go.Ab
open Go
set_option linter.unusedSimpArgs false
set_option linter.unusedVariables false

/-- The place of the first number with a mark, or -1. -/
def idxF (pr : Int → Bool) (xs : List Int) : Int := match xs.findIdx? pr with | some i => (i : Int) | none => -1
/-- What DeleteFunc leaves in the block: what stays, then zeros. -/
def delRow (pr : Int → Bool) (xs : List Int) : List Int := xs.filter (fun v => !pr v) ++ List.replicate (xs.length - (xs.filter fun v => !pr v).length) 0

end Go.Ab

/- Contracts: the program's steps; repeated numbers. -/
namespace Go.Ab
open Go
set_option linter.unusedSimpArgs false
set_option linter.unusedVariables false
set_option maxRecDepth 20000

/-- The row that the program's steps leave: the steps, then zeros. -/
def stepRow (x y : Int) (ts : List Int) (p s : Int) : List Int := stepsOf x y ts p s ++ List.replicate ((nexts x y p).length - (stepsOf x y ts p s).length) 0

end Go.Ab

/- Contracts: the program's distances. -/
namespace Go.Ab
open Go
set_option linter.unusedSimpArgs false
set_option linter.unusedVariables false

end Go.Ab

/- The abstract code of some functions (written by a program of mine from the translation, by way of prepF). -/
namespace Go.Ab.C
open Go.Ab
end Go.Ab.C

/- That the program has this code. -/
namespace Go.Ab.K
open Go Go.Ab
end Go.Ab.K

/- The abstract code of some functions (written by a program of mine from the translation, by way of prepF). -/
namespace Go.Ab.C
open Go.Ab
end Go.Ab.C

/- That the program has this code. -/
namespace Go.Ab.K
open Go Go.Ab
end Go.Ab.K

/- The abstract code of some functions (written by a program of mine from the translation, by way of prepF). -/
namespace Go.Ab.C
open Go.Ab
end Go.Ab.C

/- That the program has this code. -/
namespace Go.Ab.K
open Go Go.Ab
end Go.Ab.K

/- Contracts: the reference's steps. -/
namespace Go.Ab
open Go
set_option linter.unusedSimpArgs false
set_option linter.unusedVariables false

def Low (ts : List Int) : Prop := ∀ k, k < ts.length → -100 ≤ ts.getD k 0 ∧ ts.getD k 0 ≤ 100

end Go.Ab

/- Contracts: the reference's spread. -/
namespace Go.Ab
open Go
set_option linter.unusedSimpArgs false
set_option linter.unusedVariables false

end Go.Ab

/- Contracts: the reference's regions. -/
namespace Go.Ab
open Go
set_option linter.unusedSimpArgs false
set_option linter.unusedVariables false

/-- What TopRegion answers. -/
noncomputable def topRegionOf (x y z : Int) (cs : List Cell) (p s : Int) : Option (List Int) := if HeapOK x y z cs ∧ (0 ≤ p ∧ p ≤ x * y - 1) ∧ 0 ≤ s then some (regionOf x y cs p s) else none

/-- What CountRegions answers. -/
noncomputable def rcOf (x y z : Int) (cs : List Cell) (s : Int) : Option Int := if HeapOK x y z cs ∧ 0 ≤ s then some (countRegions x y cs s) else none

end Go.Ab

/- Contracts: the program's regions. -/
namespace Go.Ab
open Go
set_option linter.unusedSimpArgs false
set_option linter.unusedVariables false

end Go.Ab

/- Plain words: what a spread tells: the least number of steps. -/
namespace Go.Ab

/-- What is known of column v. -/
def dist (st : List Int × List Int) (v : Int) : Int := st.1.getD v.toNat 0

structure FInv (c : Nat) (N : Int → List Int) (p : Int) (n : Nat) (st : List Int × List Int) : Prop where
  base : BInv c st
  here : dist st p = 0
  nonneg : ∀ i, i < st.2.length → 0 ≤ dist st (st.2.getD i 0)
  listed : ∀ v : Int, 0 ≤ v → v < c → 0 ≤ dist st v → ∃ i, i < st.2.length ∧ st.2.getD i 0 = v
  sorted : ∀ i j, i ≤ j → j < st.2.length → dist st (st.2.getD i 0) ≤ dist st (st.2.getD j 0)
  parent : ∀ v : Int, 0 ≤ v → v < c → 0 < dist st v → ∃ a : Int, (0 ≤ a ∧ a < c) ∧ v ∈ N a ∧ 0 ≤ dist st a ∧ dist st v = dist st a + 1
  root : ∀ v : Int, 0 ≤ v → v < c → dist st v = 0 → v = p
  done : ∀ i, i < n → i < st.2.length → ∀ b ∈ N (st.2.getD i 0), 0 ≤ dist st b ∧ dist st b ≤ dist st (st.2.getD i 0) + 1

/-- One more neighbour of the column at place n. -/
theorem FInv.visit1 {c : Nat} {N : Int → List Int} {p a q : Int} {n : Nat} {st : List Int × List Int} (h : FInv c N p n st) (hn : n < st.2.length) (ha : st.2.getD n 0 = a) (hb : ∀ i, i < st.2.length → dist st (st.2.getD i 0) ≤ dist st a + 1)
    (hq : 0 ≤ q ∧ q < c) (hqa : q ∈ N a) : FInv c N p n (visit a st q) ∧ n < (visit a st q).2.length ∧ (visit a st q).2.getD n 0 = a ∧ (∀ i, i < (visit a st q).2.length → dist (visit a st q) ((visit a st q).2.getD i 0) ≤ dist (visit a st q) a + 1) ∧
    (0 ≤ dist (visit a st q) q ∧ dist (visit a st q) q ≤ dist (visit a st q) a + 1) ∧ (∀ v : Int, 0 ≤ dist st v → dist (visit a st q) v = dist st v) := by
  have hac := h.base.mem a (by rw [← ha]; exact getD_mem hn)
  have ha0 := h.nonneg n hn
  rw [ha] at ha0
  have hbase := h.base.visit hac hq
  by_cases hlt : st.1.getD q.toNat 0 < 0
  · have hv : visit a st q = (st.1.set q.toNat (st.1.getD a.toNat 0 + 1), st.2 ++ [q]) := by unfold Go.Ab.visit; rw [if_pos hlt]
    have hql : q.toNat < st.1.length := by rw [h.base.len]; omega
    rw [hv] at hbase ⊢
    have hd : ∀ v : Int, dist (st.1.set q.toNat (st.1.getD a.toNat 0 + 1), st.2 ++ [q]) v = if v.toNat = q.toNat then dist st a + 1 else dist st v := fun v => by
      unfold dist; rw [getD_set]
      by_cases e : v.toNat = q.toNat
      · rw [if_pos ⟨e, hql⟩, if_pos e]
      · rw [if_neg (fun h => e h.1), if_neg e]
    have hold : ∀ v : Int, 0 ≤ dist st v → dist (st.1.set q.toNat (st.1.getD a.toNat 0 + 1), st.2 ++ [q]) v = dist st v := fun v hv => by
      rw [hd, if_neg]; intro e; unfold dist at hv; rw [e] at hv; omega
    have hqd : dist (st.1.set q.toNat (st.1.getD a.toNat 0 + 1), st.2 ++ [q]) q = dist st a + 1 := by rw [hd, if_pos rfl]
    have hl1 : ∀ i, i < st.2.length → (st.2 ++ [q]).getD i 0 = st.2.getD i 0 := fun i hi => by simp only [List.getD_eq_getElem?_getD]; rw [List.getElem?_append_left hi]
    have hl2 : (st.2 ++ [q]).getD st.2.length 0 = q := by simp
    have hlen : (st.2 ++ [q]).length = st.2.length + 1 := by simp
    have hcase : ∀ i, i < (st.2 ++ [q]).length → i < st.2.length ∨ i = st.2.length := fun i hi => by omega
    refine ⟨⟨hbase, by rw [hold _ (by rw [h.here]; omega)]; exact h.here, fun i hi => ?_, fun v h0 hc hv => ?_, fun i j hij hj => ?_, fun v h0 hc hv => ?_, fun v h0 hc hv => ?_, fun i hi hi' b hb' => ?_⟩, by simp only [hlen]; omega, by rw [hl1 n hn, ha], fun i hi => ?_, ?_, hold⟩
    · rcases hcase i hi with h1 | rfl
      · rw [hl1 i h1, hold _ (h.nonneg i h1)]; exact h.nonneg i h1
      · simp only [hl2]; rw [hqd]; omega
    · rw [hd] at hv
      by_cases e : v.toNat = q.toNat
      · exact ⟨st.2.length, by simp only [hlen]; omega, by rw [hl2]; omega⟩
      · rw [if_neg e] at hv
        obtain ⟨i, h1, h2⟩ := h.listed v h0 hc hv
        exact ⟨i, by simp only [hlen]; omega, by rw [hl1 i h1]; exact h2⟩
    · rcases hcase j hj with h1 | rfl
      · rw [hl1 i (by omega), hl1 j h1, hold _ (h.nonneg i (by omega)), hold _ (h.nonneg j h1)]; exact h.sorted i j hij h1
      · simp only [hl2]; rw [hqd]
        rcases Nat.lt_or_ge i st.2.length with h2 | h2
        · rw [hl1 i h2, hold _ (h.nonneg i h2)]; exact hb i h2
        · rw [show i = st.2.length by omega, hl2, hqd]; omega
    · by_cases e : v.toNat = q.toNat
      · have hvq : v = q := by omega
        subst hvq
        exact ⟨a, hac, hqa, by rw [hold _ ha0]; exact ha0, by rw [hqd, hold _ ha0]⟩
      · rw [hd, if_neg e] at hv
        obtain ⟨b, h1, h2, h3, h4⟩ := h.parent v h0 hc hv
        exact ⟨b, h1, h2, by rw [hold _ h3]; exact h3, by rw [hold _ (by omega), hold _ h3]; exact h4⟩
    · by_cases e : v.toNat = q.toNat
      · rw [hd, if_pos e] at hv; omega
      · rw [hd, if_neg e] at hv; exact h.root v h0 hc hv
    · rw [hl1 i (by omega)] at hb' ⊢
      have h1 := h.done i hi (by omega) b hb'
      rw [hold _ h1.1, hold _ (h.nonneg i (by omega))]; exact h1
    · rw [hold _ ha0]
      rcases hcase i hi with h1 | rfl
      · rw [hl1 i h1, hold _ (h.nonneg i h1)]; exact hb i h1
      · simp only [hl2]; rw [hqd]; exact Int.le_refl _
    · rw [hqd, hold _ ha0]; omega
  · have hv : visit a st q = st := by unfold Go.Ab.visit; rw [if_neg hlt]
    rw [hv]
    obtain ⟨i, h1, h2⟩ := h.listed q hq.1 hq.2 (by unfold dist; omega)
    have := hb i h1
    rw [h2] at this
    exact ⟨h, hn, ha, hb, ⟨by unfold dist; omega, this⟩, fun _ _ => rfl⟩

theorem FInv.fold {c : Nat} {N : Int → List Int} {p a : Int} {n : Nat} (hN : ∀ p q, q ∈ N p → 0 ≤ q ∧ q < (c : Int)) : ∀ (l done : List Int) (st : List Int × List Int), FInv c N p n st → n < st.2.length → st.2.getD n 0 = a → (∀ i, i < st.2.length → dist st (st.2.getD i 0) ≤ dist st a + 1) →
    (∀ q ∈ l, q ∈ N a) → (∀ q ∈ done, 0 ≤ dist st q ∧ dist st q ≤ dist st a + 1) →
    FInv c N p n (l.foldl (Go.Ab.visit a) st) ∧ n < (l.foldl (Go.Ab.visit a) st).2.length ∧ (l.foldl (Go.Ab.visit a) st).2.getD n 0 = a ∧ (∀ i, i < (l.foldl (Go.Ab.visit a) st).2.length → dist (l.foldl (Go.Ab.visit a) st) ((l.foldl (Go.Ab.visit a) st).2.getD i 0) ≤ dist (l.foldl (Go.Ab.visit a) st) a + 1) ∧
    (∀ q, q ∈ done ∨ q ∈ l → 0 ≤ dist (l.foldl (Go.Ab.visit a) st) q ∧ dist (l.foldl (Go.Ab.visit a) st) q ≤ dist (l.foldl (Go.Ab.visit a) st) a + 1) := by
  intro l
  induction l with
  | nil => intro done st h hn ha hb _ hd; exact ⟨h, hn, ha, hb, fun q hq => hd q (by simpa using hq)⟩
  | cons q l ih =>
    intro done st h hn ha hb hl hd
    have hqa := hl q (by simp)
    obtain ⟨h1, h2, h3, h4, h5, h6⟩ := h.visit1 hn ha hb (hN a q hqa) hqa
    have ha0 := h.nonneg n hn
    rw [ha] at ha0
    obtain ⟨k1, k2, k3, k4, k5⟩ := ih (q :: done) _ h1 h2 h3 h4 (fun r hr => hl r (by simp [hr])) (fun r hr => by
      rcases List.mem_cons.1 hr with rfl | hr
      · exact h5
      · rw [h6 _ (hd r hr).1, h6 _ ha0]; exact hd r hr)
    exact ⟨k1, k2, k3, k4, fun r hr => k5 r (by simp only [List.mem_cons] at hr ⊢; rcases hr with h | h | h <;> simp [h])⟩

theorem FInv.next {c : Nat} {N : Int → List Int} {p : Int} {n : Nat} {st : List Int × List Int} (hN : ∀ p q, q ∈ N p → 0 ≤ q ∧ q < (c : Int)) (h : FInv c N p n st) (hn : n < st.2.length) (hb : ∀ i, i < st.2.length → dist st (st.2.getD i 0) ≤ dist st (st.2.getD n 0) + 1) :
    FInv c N p (n + 1) ((N (st.2.getD n 0)).foldl (visit (st.2.getD n 0)) st) ∧ ∀ i, n + 1 < ((N (st.2.getD n 0)).foldl (visit (st.2.getD n 0)) st).2.length → i < ((N (st.2.getD n 0)).foldl (visit (st.2.getD n 0)) st).2.length →
      dist ((N (st.2.getD n 0)).foldl (visit (st.2.getD n 0)) st) (((N (st.2.getD n 0)).foldl (visit (st.2.getD n 0)) st).2.getD i 0) ≤ dist ((N (st.2.getD n 0)).foldl (visit (st.2.getD n 0)) st) (((N (st.2.getD n 0)).foldl (visit (st.2.getD n 0)) st).2.getD (n + 1) 0) + 1 := by
  obtain ⟨k1, k2, k3, k4, k5⟩ := FInv.fold hN (N (st.2.getD n 0)) [] st h hn rfl hb (fun q hq => hq) (fun q hq => by cases hq)
  generalize (N (st.2.getD n 0)).foldl (visit (st.2.getD n 0)) st = st' at k1 k2 k3 k4 k5 ⊢
  refine ⟨⟨k1.base, k1.here, k1.nonneg, k1.listed, k1.sorted, k1.parent, k1.root, fun i hi hi' b hb' => ?_⟩, fun i h1 h2 => ?_⟩
  · rcases Nat.lt_or_ge i n with h3 | h3
    · exact k1.done i h3 hi' b hb'
    · have : i = n := by omega
      subst this
      rw [k3] at hb' ⊢
      exact k5 b (.inr hb')
  · have h3 := k4 i h2
    have h4 := k1.sorted n (n + 1) (by omega) h1
    rw [k3] at h4
    omega

theorem FInv.start {c : Nat} {N : Int → List Int} {p : Int} (hp : 0 ≤ p ∧ p < c) : FInv c N p 0 ((List.replicate c (-1)).set p.toNat 0, [p]) := by
  have hd : ∀ v : Int, 0 ≤ v → v < c → dist ((List.replicate c (-1)).set p.toNat 0, [p]) v = if v = p then 0 else -1 := fun v h0 hc => by
    unfold dist
    simp only [getD_set, List.length_replicate]
    by_cases e : v = p
    · subst e; rw [if_pos ⟨rfl, by omega⟩, if_pos rfl]
    · rw [if_neg (fun h => e (by omega)), if_neg e]
      simp only [List.getD_eq_getElem?_getD, List.getElem?_replicate]
      rw [if_pos (by omega)]; rfl
  refine ⟨BInv.start hp, by rw [hd p hp.1 hp.2, if_pos rfl], fun i hi => ?_, fun v h0 hc hv => ?_, fun i j hij hj => ?_, fun v h0 hc hv => ?_, fun v h0 hc hv => ?_, fun i hi => by omega⟩
  · have : i = 0 := by simp at hi; omega
    subst this
    show 0 ≤ dist _ p
    rw [hd p hp.1 hp.2, if_pos rfl]; exact Int.le_refl 0
  · rw [hd v h0 hc] at hv
    split at hv
    · rename_i e; exact ⟨0, by simp, by simp [e]⟩
    · omega
  · have h1 : j = 0 := by simp at hj; omega
    have h2 : i = 0 := by omega
    subst h1; subst h2; exact Int.le_refl _
  · rw [hd v h0 hc] at hv; split at hv <;> omega
  · rw [hd v h0 hc] at hv; split at hv
    · assumption
    · omega

/-- Steps one behind the other. -/
inductive Way (N : Int → List Int) (p : Int) : Nat → Int → Prop
  | nil : Way N p 0 p
  | snoc {n : Nat} {a b : Int} : Way N p n a → b ∈ N a → Way N p (n + 1) b

theorem Way.cons {N : Int → List Int} {n : Nat} {p a b : Int} (h : b ∈ N p) (w : Way N b n a) : Way N p (n + 1) a := by
  induction w with
  | nil => exact .snoc .nil h
  | snoc _ h' ih => exact .snoc ih h'
section
variable {c : Nat} {N : Int → List Int} {p : Int} (hN : ∀ p q, q ∈ N p → 0 ≤ q ∧ q < (c : Int)) (hp : 0 ≤ p ∧ p < c)
include hN hp

end

end Go.Ab

/- Plain words: least numbers; the grid is one region; walks. -/
namespace Go.Ab

/-- The least number of which f holds. -/
noncomputable def leastN (f : Nat → Prop) : Nat := by
  classical
  exact if h : ∃ k, f k ∧ ∀ j, j < k → ¬ f j then Classical.choose h else 0
theorem nexts_comm {x y p q : Int} (hp : 0 ≤ p ∧ p < x * y) (h : q ∈ nexts x y p) : p ∈ nexts x y q := by
  unfold nexts at *
  rw [List.mem_filter] at *
  refine ⟨List.mem_map.2 ⟨p.toNat, List.mem_range.2 (by omega), by simp only [Int.ofNat_eq_natCast]; omega⟩, ?_⟩
  have h2 := of_decide_eq_true h.2
  refine decide_eq_true ?_
  unfold apart at *
  omega
end Go.Ab

/- Contracts: distances and least reaches, both sides. -/
namespace Go.Ab
open Go
set_option linter.unusedSimpArgs false
set_option linter.unusedVariables false

/-- The distance of two columns, or -1. -/
noncomputable def tdOf (x y z : Int) (cs : List Cell) (p q s : Int) : Int := by
  classical
  exact if (HeapOK x y z cs ∧ (0 ≤ p ∧ p ≤ x * y - 1)) ∧ (0 ≤ q ∧ q ≤ x * y - 1) ∧ 0 ≤ s then (spreadOf x y cs p s).getD q.toNat 0 else -1

end Go.Ab

/- Contracts: least reaches, both sides. -/
namespace Go.Ab
open Go
set_option linter.unusedSimpArgs false
set_option linter.unusedVariables false

/-- Column q is reached from p at the reach s. -/
def Near' (x y : Int) (cs : List Cell) (p q : Int) (s : Nat) : Prop := 0 ≤ (spreadOf x y cs p s).getD q.toNat 0
/-- What LeastReach answers. -/
noncomputable def reachOf (x y z : Int) (cs : List Cell) (p q : Int) : Option Nat := by
  classical
  exact if (HeapOK x y z cs ∧ (0 ≤ p ∧ p ≤ x * y - 1)) ∧ (0 ≤ q ∧ q ≤ x * y - 1) then some (leastN (Near' x y cs p q)) else none

end Go.Ab

/- Plain words: least climbs. -/
namespace Go.Ab

def relax1 (ts : List Int) (a c : Int) (st : List Int × Bool) (b : Int) : List Int × Bool :=
  if st.1.getD b.toNat 0 < 0 ∨ c + max (ts.getD b.toNat 0 - ts.getD a.toNat 0) 0 < st.1.getD b.toNat 0 then (st.1.set b.toNat (c + max (ts.getD b.toNat 0 - ts.getD a.toNat 0) 0), true) else st
def relaxCol (ts : List Int) (St : Int → List Int) (st : List Int × Bool) (a : Int) : List Int × Bool :=
  if st.1.getD a.toNat 0 < 0 then st else (St a).foldl (relax1 ts a (st.1.getD a.toNat 0)) st
def climbRound (ts : List Int) (St : Int → List Int) (c : Nat) (best : List Int) : List Int × Bool := (nums c).foldl (relaxCol ts St) (best, false)
def climbLoop (ts : List Int) (St : Int → List Int) (c : Nat) : Nat → List Int → List Int
  | 0, best => best
  | f + 1, best => if (climbRound ts St c best).2 then climbLoop ts St c f (climbRound ts St c best).1 else (climbRound ts St c best).1

def phiOf (v : Int) : Nat := if v < 0 then 100 else v.toNat
def phi (best : List Int) : Nat := (best.map phiOf).sum

def cnt0 (l : List Int) : Nat := l.countP fun v => decide (0 ≤ v)
structure CI (c : Nat) (N : Int → List Int) (p : Int) (best : List Int) : Prop where
  len : best.length = c
  lo : ∀ k, k < c → -1 ≤ best.getD k 0
  hi : ∀ k, k < c → best.getD k 0 ≤ 4 * (cnt0 best : Int) - 4
  root : 0 ≤ best.getD p.toNat 0
  way : ∀ v : Int, 0 ≤ v → v < c → 0 ≤ best.getD v.toNat 0 → ∃ n, Way N p n v

theorem CI.top {c : Nat} {N : Int → List Int} {p : Int} {best : List Int} (h : CI c N p best) (hc : c ≤ 16) : ∀ k, k < c → best.getD k 0 ≤ 60 := fun k hk => by
  have h1 := h.hi k hk
  have h2 : cnt0 best ≤ best.length := List.countP_le_length
  have h3 := h.len
  omega

section
variable {c : Nat} {N : Int → List Int} {p : Int} {ts : List Int} (hN : ∀ p q, q ∈ N p → 0 ≤ q ∧ q < (c : Int)) (hne : ∀ p, p ∉ N p) (hts : ∀ k, 0 ≤ ts.getD k 0 ∧ ts.getD k 0 ≤ 4) (hc : c ≤ 16)
include hN hne hts hc

end

def climbStart (c : Nat) (p : Int) : List Int := (List.replicate c (-1)).set p.toNat 0
end Go.Ab

/- Contracts: least climbs, both sides. -/
namespace Go.Ab
open Go
set_option linter.unusedSimpArgs false
set_option linter.unusedVariables false

/-- The least climbs from a column to all others. -/
def climbs (x y : Int) (cs : List Cell) (p s : Int) : List Int := climbLoop (topsOf x y cs) (fun r => stepsOf x y (topsOf x y cs) r s) (x * y).toNat 2000 (climbStart (x * y).toNat p)
/-- What LeastClimb answers. -/
noncomputable def climbOf (x y z : Int) (cs : List Cell) (p q s : Int) : Option Int := by
  classical
  exact if ((HeapOK x y z cs ∧ (0 ≤ p ∧ p ≤ x * y - 1)) ∧ (0 ≤ q ∧ q ≤ x * y - 1) ∧ 0 ≤ s) ∧ 0 ≤ (spreadOf x y cs p s).getD q.toNat 0 then some ((climbs x y cs p s).getD q.toNat 0) else none

section
variable {x y z s p : Int} {cs : List Cell} (hH : HeapOK x y z cs)
include hH

end

end Go.Ab

/- Plain words: the first walk. -/
namespace Go.Ab

def nextOf (D : List Int) (d : Int) (l : List Int) : Int := l.getD (idxF (fun r => decide (D.getD r.toNat 0 = d)) l).toNat 0
/-- The walk from a column on, that many steps long. -/
def walkW (D : List Int) (St : Int → List Int) : Nat → Int → List Int
  | 0, now => [now]
  | f + 1, now => now :: walkW D St f (nextOf D f (St now))
section
variable {x y s q : Int} {cs : List Cell} (hq : 0 ≤ q ∧ q ≤ x * y - 1)
include hq
end

/-- What FirstTopWalk answers. -/
noncomputable def walkOf (x y z : Int) (cs : List Cell) (p q s : Int) : Option (List Int) := by
  classical
  exact if ((HeapOK x y z cs ∧ (0 ≤ p ∧ p ≤ x * y - 1)) ∧ (0 ≤ q ∧ q ≤ x * y - 1) ∧ 0 ≤ s) ∧ 0 ≤ (spreadOf x y cs q s).getD p.toNat 0 then
    some (walkW (spreadOf x y cs q s) (fun r => stepsOf x y (topsOf x y cs) r s) ((spreadOf x y cs q s).getD p.toNat 0).toNat p) else none
end Go.Ab

/- Plain words: the reach and the climb of a walk; what the law of the walks says of them. -/
namespace Go.Ab
open Go
set_option linter.unusedSimpArgs false
set_option linter.unusedVariables false

def sumN (f : Nat → Int) : Nat → Int
  | 0 => 0
  | k + 1 => sumN f k + f k
/-- The reach of the first k steps. -/
def gapN (u : Nat → Int) : Nat → Int
  | 0 => 0
  | k + 1 => max (gapN u k) (gap (u (k + 1)) (u k))
def upN (u : Nat → Int) (k : Nat) : Int := sumN (fun i => max (u (i + 1) - u i) 0) k
/-- The heights along a walk. -/
def along (ts w : List Int) (i : Nat) : Int := ts.getD (w.getD i 0).toNat 0
def WalkOK (x y z : Int) (cs : List Cell) (w : List Int) : Prop := HeapOK x y z cs ∧ 0 < w.length ∧ (∀ i, i < w.length → 0 ≤ w.getD i 0 ∧ w.getD i 0 ≤ x * y - 1) ∧ ∀ i, i + 1 < w.length → w.getD (i + 1) 0 ∈ nexts x y (w.getD i 0)
/-- What WalkClimb answers. -/
noncomputable def wcOf (x y z : Int) (cs : List Cell) (w : List Int) : Option (Int × Int) := by
  classical
  exact if WalkOK x y z cs w then some (gapN (along (topsOf x y cs) w) (w.length - 1), upN (along (topsOf x y cs) w) (w.length - 1)) else none
theorem getD_reverse {l : List Int} {i : Nat} (h : i < l.length) : l.reverse.getD i 0 = l.getD (l.length - 1 - i) 0 := by
  simp [List.getD_eq_getElem?_getD, List.getElem?_reverse h]
theorem WalkOK.reverse {x y z : Int} {cs : List Cell} {w : List Int} (h : WalkOK x y z cs w) : WalkOK x y z cs w.reverse := by
  obtain ⟨h1, h2, h3, h4⟩ := h
  refine ⟨h1, by simpa using h2, fun i hi => ?_, fun i hi => ?_⟩
  · rw [List.length_reverse] at hi
    rw [getD_reverse hi]; exact h3 _ (by omega)
  · rw [List.length_reverse] at hi
    rw [getD_reverse (by omega), getD_reverse (by omega)]
    have e := h4 (w.length - 1 - (i + 1)) (by omega)
    rw [show w.length - 1 - (i + 1) + 1 = w.length - 1 - i by omega] at e
    have e2 := h3 (w.length - 1 - (i + 1)) (by omega)
    exact nexts_comm (by omega) e
theorem Way.mono {N N' : Int → List Int} (h : ∀ p q, q ∈ N p → q ∈ N' p) {p : Int} {n : Nat} {q : Int} (w : Way N p n q) : Way N' p n q := by
  induction w with
  | nil => exact .nil
  | snoc _ h' ih => exact .snoc ih (h _ _ h')
end Go.Ab

/- The abstract code of some functions (written by a program of mine from the translation, by way of prepF). -/
namespace Go.Ab.C
open Go.Ab
end Go.Ab.C

/- That the program has this code. -/
namespace Go.Ab.K
open Go Go.Ab
end Go.Ab.K

/- Contracts: least climbs, the program's side. -/
namespace Go.Ab
open Go
set_option linter.unusedSimpArgs false
set_option linter.unusedVariables false

end Go.Ab

/- Contracts: steps between columns and the climbs of walks, both sides; heights. -/
namespace Go.Ab
open Go
set_option linter.unusedSimpArgs false
set_option linter.unusedVariables false
set_option maxRecDepth 20000

/-- What StepColumns answers. -/
noncomputable def stepRes (x y z : Int) (cs : List Cell) (p s : Int) : Option (List Int) := by
  classical
  exact if HeapOK x y z cs ∧ (0 ≤ p ∧ p ≤ x * y - 1) ∧ 0 ≤ s then some (stepsOf x y (topsOf x y cs) p s) else none
/-- What TopHeights answers. -/
noncomputable def topRes (x y z : Int) (cs : List Cell) : Option (List Int) := by
  classical
  exact if HeapOK x y z cs then some (topsOf x y cs) else none
section
variable {x y z : Int} {t o : Nat} {cs : List Cell} {M : Mem} (h : Tri M t o cs) (hn : cs.length ≤ 1000000000)
include h hn
end
end Go.Ab

/- Contracts: views, shadows and heights of columns, both sides, for all heaps. -/
namespace Go.Ab
open Go
set_option linter.unusedSimpArgs false
set_option linter.unusedVariables false
set_option maxRecDepth 20000

noncomputable def vwOf (x y z : Int) (cs : List Cell) (d : Int) : List Int := by
  classical
  exact if HeapOK x y z cs ∧ Dir d then viewL x y z d.toNat cs else []
noncomputable def shsOf (x y z : Int) (cs : List Cell) : Option Shd := by
  classical
  exact if HeapOK x y z cs then some ⟨x, y, z, shdOf x y z 2 cs, shdOf x y z 1 cs, shdOf x y z 0 cs⟩ else none
noncomputable def tpsOf (x y z : Int) (cs : List Cell) : List Int := by
  classical
  exact if HeapOK x y z cs then topsOf x y cs else []
section
variable {x y z : Int} {t : Nat} {cs : List Cell} {M : Mem} (h : Tri M t 0 cs) (hn : cs.length ≤ 1000000000)
include h hn
end
end Go.Ab

/- Contracts: layers as tables, both sides; the sum of a layer. -/
namespace Go.Ab
open Go
set_option linter.unusedSimpArgs false
set_option linter.unusedVariables false
set_option maxRecDepth 20000

def lyrC (d : Nat) (k i j : Int) : Cell := if d = 0 then ⟨k, i, j⟩ else if d = 1 then ⟨i, k, j⟩ else ⟨i, j, k⟩
def dirA (d : Nat) : Int := if d = 0 then 1 else 0
def dirB (d : Nat) : Int := if d = 2 then 1 else 2
def lyrV (d : Nat) (k : Int) (cs : List Cell) (i j : Nat) : Int := if lyrC d k i j ∈ cs then 1 else 0
def lyrR (x y z : Int) (d : Nat) (k : Int) (cs : List Cell) (i : Nat) (n : Nat) : List Int := (List.range n).map fun j => lyrV d k cs i j
def lyrT (x y z : Int) (d : Nat) (k : Int) (cs : List Cell) (m : Nat) : List (List Int) := (List.range m).map fun i => lyrR x y z d k cs i (sideOf x y z (dirB d)).toNat
section
variable {x y z : Int} {d : Nat} {k : Int} {cs : List Cell}
theorem lyrR_succ {i n : Nat} : lyrR x y z d k cs i (n + 1) = lyrR x y z d k cs i n ++ [lyrV d k cs i n] := by simp [lyrR, List.range_succ]
theorem lyrR_len {i n : Nat} : (lyrR x y z d k cs i n).length = n := by simp [lyrR]
theorem lyrT_succ {m : Nat} : lyrT x y z d k cs (m + 1) = lyrT x y z d k cs m ++ [lyrR x y z d k cs m (sideOf x y z (dirB d)).toNat] := by simp [lyrT, List.range_succ]
theorem lyrT_len {m : Nat} : (lyrT x y z d k cs m).length = m := by simp [lyrT]
theorem lyr_row {i j : Int} (hd : d < 3) : (([LV.I 0, .I 0, .I 0].set d (.I k)).set (dirA d).toNat (.I i)).set (dirB d).toNat (.I j) = [.I (lyrC d k i j).a, .I (lyrC d k i j).b, .I (lyrC d k i j).c] := by
  rcases (show d = 0 ∨ d = 1 ∨ d = 2 by omega) with rfl | rfl | rfl <;> rfl
theorem litSum_append {l l' : List Int} : litSum (l ++ l') = litSum l + litSum l' := by
  induction l with
  | nil => simp [litSum]
  | cons a l ih => simp only [List.cons_append, litSum, ih]; omega
/-- The sum of all rows. -/
def tabSum (L : List (List Int)) : Int := litSum (L.map litSum)
theorem lyr_in (hS : Sides x y z) (hd : d < 3) (hk : 0 ≤ k ∧ k < sideOf x y z (d : Nat)) {c : Cell} : (c.inBox x y z ∧ c.at (d : Nat) = k) ↔ ∃ i j : Nat, (i < (sideOf x y z (dirA d)).toNat ∧ j < (sideOf x y z (dirB d)).toNat) ∧ c = lyrC d k i j := by
  obtain ⟨⟨_, _⟩, ⟨_, _⟩, ⟨_, _⟩⟩ := id hS
  obtain ⟨a, b, e⟩ := c
  rcases (show d = 0 ∨ d = 1 ∨ d = 2 by omega) with rfl | rfl | rfl
  · constructor
    · rintro ⟨⟨⟨h1, h2⟩, ⟨h3, h4⟩, h5, h6⟩, h7⟩
      simp only [Cell.at, sideOf, dirA, dirB] at *
      refine ⟨b.toNat, e.toNat, ⟨by simp; omega, by simp; omega⟩, ?_⟩
      simp only [lyrC, if_true, cell_eq]
      simp at h7
      omega
    · rintro ⟨i, j, ⟨h1, h2⟩, h3⟩
      simp [lyrC, cell_eq] at h3
      simp [sideOf, dirA, dirB] at h1 h2 hk
      obtain ⟨rfl, rfl, rfl⟩ := h3
      simp [Cell.inBox, Cell.at]
      omega
  · constructor
    · rintro ⟨⟨⟨h1, h2⟩, ⟨h3, h4⟩, h5, h6⟩, h7⟩
      simp only [Cell.at, sideOf, dirA, dirB] at *
      refine ⟨a.toNat, e.toNat, ⟨by simp; omega, by simp; omega⟩, ?_⟩
      simp [lyrC, cell_eq]
      simp at h7
      omega
    · rintro ⟨i, j, ⟨h1, h2⟩, h3⟩
      simp [lyrC, cell_eq] at h3
      simp [sideOf, dirA, dirB] at h1 h2 hk
      obtain ⟨rfl, rfl, rfl⟩ := h3
      simp [Cell.inBox, Cell.at]
      omega
  · constructor
    · rintro ⟨⟨⟨h1, h2⟩, ⟨h3, h4⟩, h5, h6⟩, h7⟩
      simp only [Cell.at, sideOf, dirA, dirB] at *
      refine ⟨a.toNat, b.toNat, ⟨by simp; omega, by simp; omega⟩, ?_⟩
      simp [lyrC, cell_eq]
      simp at h7
      omega
    · rintro ⟨i, j, ⟨h1, h2⟩, h3⟩
      simp [lyrC, cell_eq] at h3
      simp [sideOf, dirA, dirB] at h1 h2 hk
      obtain ⟨rfl, rfl, rfl⟩ := h3
      simp [Cell.inBox, Cell.at]
      omega
theorem lyr_inj (hd : d < 3) {i j i' j' : Nat} (h : lyrC d k i j = lyrC d k i' j') : i = i' ∧ j = j' := by
  rcases (show d = 0 ∨ d = 1 ∨ d = 2 by omega) with rfl | rfl | rfl <;> simp [lyrC, cell_eq] at h <;> omega
end
/-- What LayerOf answers. -/
def LyrOK (x y z : Int) (cs : List Cell) (d k : Int) : Prop := HeapOK x y z cs ∧ Dir d ∧ 0 ≤ k ∧ k < sideOf x y z d
noncomputable instance (x y z : Int) (cs : List Cell) (d k : Int) : Decidable (LyrOK x y z cs d k) := Classical.propDecidable _
noncomputable def lyrOf (x y z : Int) (cs : List Cell) (d k : Int) : List (List Int) := if LyrOK x y z cs d k then lyrT x y z d.toNat k cs (sideOf x y z (dirA d.toNat)).toNat else []
noncomputable def lyrB (x y z : Int) (cs : List Cell) (d k : Int) : Bool := decide (LyrOK x y z cs d k)
def TabG (M : Mem) (L : List (List Int)) (b : Bool) (v : LV) (N : Mem) : Prop := ∃ w, v = .tup [w, .B b] ∧ TabV N w L ∧ Pre M N
section
variable {x y z : Int} {t : Nat} {cs : List Cell} {M : Mem} (h : Tri M t 0 cs)
include h
theorem h_l2Layer {d : Nat} {k : Int} (hH : HeapOK x y z cs) (hd : d < 3) (hk : 0 ≤ k ∧ k < sideOf x y z (d : Nat)) : CallsR PG F.spec_l2Layer [.agg [.I x, .I y, .I z, .ref t 0 cs.length], .I d, .I k] M fun v N => ∃ u : Nat, v = .ref u 0 (lyrT x y z d k cs (sideOf x y z (dirA d)).toNat).length ∧ TabV N (.ref u 0 (lyrT x y z d k cs (sideOf x y z (dirA d)).toNat).length) (lyrT x y z d k cs (sideOf x y z (dirA d)).toNat) ∧ Pre M N := by
  have hS := hH.1
  have hlen := hH.len
  have hda : Dir (dirA d) := by unfold dirA Dir; split <;> omega
  have hdb : Dir (dirB d) := by unfold dirB Dir; split <;> omega
  have hrA : 0 ≤ dirA d ∧ dirA d < 3 := by unfold dirA; split <;> omega
  have hrB : 0 ≤ dirB d ∧ dirB d < 3 := by unfold dirB; split <;> omega
  have hlr := fun (i j : Int) => lyr_row (k := k) (i := i) (j := j) hd
  refine callsR_run K.spec_l2Layer rfl ?_
  simp (disch := omega) only [C.spec_l2Layer, ↓SXd, SXu, slBounds, ↓sop, ↓aop, ↓reduceIte, LV.cells, AOp.dst, LV.I, LV.B, LV.U, LV.S, LV.nil, Nat.reduceEqDiff, Nat.reduceAdd, Nat.reduceMul, Nat.reduceSub, Nat.reduceLeDiff, Nat.reduceBEq, Nat.reduceDiv, Nat.reduceMod, Int.reduceToNat, Int.reduceLT, Int.reduceLE, Int.reduceAdd, Int.reduceSub, Int.reduceMul, Int.reduceEq, Int.reduceNeg, reduceCtorEq, resV, resAll, ARes.ev, LV.flat, ite_true, ite_false, exists_eq_left', exists_eq_left, keyOf, implies_true, fillC, capOf]
  refine callK_of (h_l2Others hd) ?_
  change putK _ _ _ (.tup [.I (dirA d), .I (dirB d)]) _
  simp (disch := omega) only [↓SXd, SXu, slBounds, ↓sop, ↓aop, ↓reduceIte, LV.cells, AOp.dst, LV.I, LV.B, LV.U, LV.S, LV.nil, Nat.reduceEqDiff, Nat.reduceAdd, Nat.reduceMul, Nat.reduceSub, Nat.reduceLeDiff, Nat.reduceBEq, Nat.reduceDiv, Nat.reduceMod, Int.reduceToNat, Int.reduceLT, Int.reduceLE, Int.reduceAdd, Int.reduceSub, Int.reduceMul, Int.reduceEq, Int.reduceNeg, reduceCtorEq, resV, resAll, ARes.ev, LV.flat, ite_true, ite_false, exists_eq_left', exists_eq_left, keyOf, implies_true, fillC, capOf]
  have sA := sideOf_in hS (dirA d)
  have sB := sideOf_in hS (dirB d)
  refine ev_loop (fun m fr M' => ∃ (i : Nat) (u : Nat), i + m = (sideOf x y z (dirA d)).toNat ∧ Pre M M' ∧ M.length + 1 ≤ M'.length ∧ Live M' M.length (.row [.I x, .I y, .I z, .ref t 0 cs.length] true 0) ∧ TabO M' u (lyrT x y z d k cs i) M'.length M.length ∧ M.length < u ∧
    fr 1 = .I d ∧ fr 2 = .I k ∧ fr 3 = .ptr M.length 0 ∧ fr 7 = .I (dirA d) ∧ fr 8 = .I (dirB d) ∧ fr 9 = .ref u 0 (lyrT x y z d k cs i).length ∧ fr 10 = .I i) (sideOf x y z (dirA d)).toNat
    ⟨0, M.length + 1, by omega, Pre.app _ _, by simp, Live.new, TabO.nil (Live.newj (j := 1) rfl) (by omega), by omega, rfl, rfl, rfl, rfl, rfl, rfl, rfl⟩ ?_
  rintro m fr M' ⟨i, u, hi, hpre, hM', b3, hT, hu, f1, f2, f3, f7, f8, f9, f10⟩
  simp (disch := omega) only [f1, f2, f3, f7, f8, f9, f10, b3.cells, ↓SXd, SXu, slBounds, ↓sop, ↓aop, ↓reduceIte, LV.cells, AOp.dst, LV.I, LV.B, LV.U, LV.S, LV.nil, Nat.reduceEqDiff, Nat.reduceAdd, Nat.reduceMul, Nat.reduceSub, Nat.reduceLeDiff, Nat.reduceBEq, Nat.reduceDiv, Nat.reduceMod, Int.reduceToNat, Int.reduceLT, Int.reduceLE, Int.reduceAdd, Int.reduceSub, Int.reduceMul, Int.reduceEq, Int.reduceNeg, reduceCtorEq, resV, resAll, ARes.ev, LV.flat, ite_true, ite_false, exists_eq_left', exists_eq_left, keyOf, implies_true, fillC, capOf]
  refine callK_of (h_l2Long hda) ?_
  simp (disch := omega) only [f1, f2, f3, f7, f8, f9, f10, ↓SXd, SXu, slBounds, ↓sop, ↓aop, ↓reduceIte, LV.cells, AOp.dst, LV.I, LV.B, LV.U, LV.S, LV.nil, Nat.reduceEqDiff, Nat.reduceAdd, Nat.reduceMul, Nat.reduceSub, Nat.reduceLeDiff, Nat.reduceBEq, Nat.reduceDiv, Nat.reduceMod, Int.reduceToNat, Int.reduceLT, Int.reduceLE, Int.reduceAdd, Int.reduceSub, Int.reduceMul, Int.reduceEq, Int.reduceNeg, reduceCtorEq, resV, resAll, ARes.ev, LV.flat, ite_true, ite_false, exists_eq_left', exists_eq_left, keyOf, implies_true, fillC, capOf]
  refine condC_dec (fun hlt => ?_) (fun hlt => ?_)
  · have hi4 : i < 4 := by omega
    have hb3l := b3.lt
    simp (disch := omega) only [f1, f2, f3, f7, f8, f9, f10, ↓SXd, SXu, slBounds, ↓sop, ↓aop, ↓reduceIte, LV.cells, AOp.dst, LV.I, LV.B, LV.U, LV.S, LV.nil, Nat.reduceEqDiff, Nat.reduceAdd, Nat.reduceMul, Nat.reduceSub, Nat.reduceLeDiff, Nat.reduceBEq, Nat.reduceDiv, Nat.reduceMod, Int.reduceToNat, Int.reduceLT, Int.reduceLE, Int.reduceAdd, Int.reduceSub, Int.reduceMul, Int.reduceEq, Int.reduceNeg, reduceCtorEq, resV, resAll, ARes.ev, LV.flat, ite_true, ite_false, exists_eq_left', exists_eq_left, keyOf, implies_true, fillC, capOf]
    refine ev_loop (fun m2 fr N => ∃ (j r : Nat), j + m2 = (sideOf x y z (dirB d)).toNat ∧ Pre M' N ∧ M'.length ≤ r ∧ Live N r (.row (intL (lyrR x y z d k cs i j)) true 1) ∧
      fr 1 = .I d ∧ fr 2 = .I k ∧ fr 3 = .ptr M.length 0 ∧ fr 7 = .I (dirA d) ∧ fr 8 = .I (dirB d) ∧ fr 9 = .ref u 0 (lyrT x y z d k cs i).length ∧ fr 10 = .I i ∧ fr 11 = .ref r 0 (lyrR x y z d k cs i j).length ∧ fr 12 = .I j) (sideOf x y z (dirB d)).toNat
      ⟨0, M'.length, by omega, Pre.app _ _, Nat.le_refl _, Live.new, f1, f2, f3, f7, f8, f9, f10, rfl, rfl⟩ ?_
    clear f1 f2 f3 f7 f8 f9 f10
    rintro m2 fr N ⟨j, r, hj, hp, hr, br, f1, f2, f3, f7, f8, f9, f10, f11, f12⟩
    have c3 := b3.pre hp
    simp (disch := omega) only [f2, f3, f7, f8, f9, f10, f11, f12, c3.cells, ↓SXd, SXu, slBounds, ↓sop, ↓aop, ↓reduceIte, LV.cells, AOp.dst, LV.I, LV.B, LV.U, LV.S, LV.nil, Nat.reduceEqDiff, Nat.reduceAdd, Nat.reduceMul, Nat.reduceSub, Nat.reduceLeDiff, Nat.reduceBEq, Nat.reduceDiv, Nat.reduceMod, Int.reduceToNat, Int.reduceLT, Int.reduceLE, Int.reduceAdd, Int.reduceSub, Int.reduceMul, Int.reduceEq, Int.reduceNeg, reduceCtorEq, resV, resAll, ARes.ev, LV.flat, ite_true, ite_false, exists_eq_left', exists_eq_left, keyOf, implies_true, fillC, capOf]
    refine callK_of (h_l2Long hdb) ?_
    simp (disch := omega) only [f2, f3, f7, f8, f9, f10, f11, f12, ↓SXd, SXu, slBounds, ↓sop, ↓aop, ↓reduceIte, LV.cells, AOp.dst, LV.I, LV.B, LV.U, LV.S, LV.nil, Nat.reduceEqDiff, Nat.reduceAdd, Nat.reduceMul, Nat.reduceSub, Nat.reduceLeDiff, Nat.reduceBEq, Nat.reduceDiv, Nat.reduceMod, Int.reduceToNat, Int.reduceLT, Int.reduceLE, Int.reduceAdd, Int.reduceSub, Int.reduceMul, Int.reduceEq, Int.reduceNeg, reduceCtorEq, resV, resAll, ARes.ev, LV.flat, ite_true, ite_false, exists_eq_left', exists_eq_left, keyOf, implies_true, fillC, capOf]
    refine condC_dec (fun hlt2 => ?_) (fun hlt2 => ?_)
    · have hj4 : j < 4 := by omega
      have hc3l := c3.lt
      have hbrl := br.lt
      simp (disch := omega) only [f2, f3, f7, f8, f9, f10, f11, f12, splice, ↓SXd, SXu, slBounds, ↓sop, ↓aop, ↓reduceIte, LV.cells, AOp.dst, LV.I, LV.B, LV.U, LV.S, LV.nil, Nat.reduceEqDiff, Nat.reduceAdd, Nat.reduceMul, Nat.reduceSub, Nat.reduceLeDiff, Nat.reduceBEq, Nat.reduceDiv, Nat.reduceMod, Int.reduceToNat, Int.reduceLT, Int.reduceLE, Int.reduceAdd, Int.reduceSub, Int.reduceMul, Int.reduceEq, Int.reduceNeg, reduceCtorEq, resV, resAll, ARes.ev, LV.flat, ite_true, ite_false, exists_eq_left', exists_eq_left, keyOf, implies_true, fillC, capOf]
      have e13 : Live (N ++ [some (.row [.I 0, .I 0, .I 0] true 0)]) N.length (.row [.I 0, .I 0, .I 0] true 0) := Live.new
      have hpN : Pre N (N ++ [some (.row [.I 0, .I 0, .I 0] true 0)]) := Pre.app _ _
      have d3 := c3.pre hpN
      have dr := br.pre hpN
      have hpq := hp.trans hpN
      generalize hN1 : N ++ [some (Blk.row [.I 0, .I 0, .I 0] true 0)] = N1 at e13 hpN d3 dr hpq ⊢
      clear hN1
      have hNl := hp.1
      simp (disch := omega) only [f2, f3, f7, f8, f9, f10, f11, f12, f1, ↓SXd, SXu, slBounds, ↓sop, ↓aop, ↓reduceIte, LV.cells, AOp.dst, LV.I, LV.B, LV.U, LV.S, LV.nil, Nat.reduceEqDiff, Nat.reduceAdd, Nat.reduceMul, Nat.reduceSub, Nat.reduceLeDiff, Nat.reduceBEq, Nat.reduceDiv, Nat.reduceMod, Int.reduceToNat, Int.reduceLT, Int.reduceLE, Int.reduceAdd, Int.reduceSub, Int.reduceMul, Int.reduceEq, Int.reduceNeg, reduceCtorEq, resV, resAll, ARes.ev, LV.flat, ite_true, ite_false, exists_eq_left', exists_eq_left, keyOf, implies_true, fillC, capOf]
      refine memK_at e13 (show d < 3 by omega) fun N2 k1 k2 k3 => ?_
      have hP2 := pre_step hpq (by omega) (j := 0) k1 k3
      have d3 := live_step d3 (by omega) k3
      have dr := live_step dr (by omega) k3
      clear e13 hpN hpq k3
      simp (disch := omega) only [f2, f3, f7, f8, f9, f10, f11, f12, ↓SXd, SXu, slBounds, ↓sop, ↓aop, ↓reduceIte, LV.cells, AOp.dst, LV.I, LV.B, LV.U, LV.S, LV.nil, Nat.reduceEqDiff, Nat.reduceAdd, Nat.reduceMul, Nat.reduceSub, Nat.reduceLeDiff, Nat.reduceBEq, Nat.reduceDiv, Nat.reduceMod, Int.reduceToNat, Int.reduceLT, Int.reduceLE, Int.reduceAdd, Int.reduceSub, Int.reduceMul, Int.reduceEq, Int.reduceNeg, reduceCtorEq, resV, resAll, ARes.ev, LV.flat, ite_true, ite_false, exists_eq_left', exists_eq_left, keyOf, implies_true, fillC, capOf]
      refine memK_at k2 (show (dirA d).toNat < ([LV.I 0, .I 0, .I 0].set d (.I k)).length by simp; omega) fun N3 q1 q2 q3 => ?_
      have hP3 := pre_step hP2 (by omega) (j := 0) q1 q3
      have d3 := live_step d3 (by omega) q3
      have dr := live_step dr (by omega) q3
      clear k2 q3 hP2
      simp (disch := omega) only [f2, f3, f7, f8, f9, f10, f11, f12, ↓SXd, SXu, slBounds, ↓sop, ↓aop, ↓reduceIte, LV.cells, AOp.dst, LV.I, LV.B, LV.U, LV.S, LV.nil, Nat.reduceEqDiff, Nat.reduceAdd, Nat.reduceMul, Nat.reduceSub, Nat.reduceLeDiff, Nat.reduceBEq, Nat.reduceDiv, Nat.reduceMod, Int.reduceToNat, Int.reduceLT, Int.reduceLE, Int.reduceAdd, Int.reduceSub, Int.reduceMul, Int.reduceEq, Int.reduceNeg, reduceCtorEq, resV, resAll, ARes.ev, LV.flat, ite_true, ite_false, exists_eq_left', exists_eq_left, keyOf, implies_true, fillC, capOf]
      refine memK_at q2 (show (dirB d).toNat < (([LV.I 0, .I 0, .I 0].set d (.I k)).set (dirA d).toNat (.I i)).length by simp; omega) fun N4 w1 w2 w3 => ?_
      have hP4 := pre_step hP3 (by omega) (j := 0) w1 w3
      have d3 := live_step d3 (by omega) w3
      have dr := live_step dr (by omega) w3
      rw [hlr] at w2
      clear q2 w3 hP3
      simp (disch := omega) only [f2, f3, f7, f8, f9, f10, f11, f12, d3.cells, w2.cells, ↓SXd, SXu, slBounds, ↓sop, ↓aop, ↓reduceIte, LV.cells, AOp.dst, LV.I, LV.B, LV.U, LV.S, LV.nil, Nat.reduceEqDiff, Nat.reduceAdd, Nat.reduceMul, Nat.reduceSub, Nat.reduceLeDiff, Nat.reduceBEq, Nat.reduceDiv, Nat.reduceMod, Int.reduceToNat, Int.reduceLT, Int.reduceLE, Int.reduceAdd, Int.reduceSub, Int.reduceMul, Int.reduceEq, Int.reduceNeg, reduceCtorEq, resV, resAll, ARes.ev, LV.flat, ite_true, ite_false, exists_eq_left', exists_eq_left, keyOf, implies_true, fillC, capOf]
      refine callK_of (h_l2Has ((h.pre hpre).pre hP4) (by omega)) ?_
      have hlv : lyrV d k cs i j = if lyrC d k i j ∈ cs then 1 else 0 := rfl
      have hrs := lyrR_succ (x := x) (y := y) (z := z) (d := d) (k := k) (cs := cs) (i := i) (n := j)
      have hrl := lyrR_len (x := x) (y := y) (z := z) (d := d) (k := k) (cs := cs) (i := i) (n := j)
      by_cases hm : lyrC d k i j ∈ cs
      · rw [if_pos hm] at hlv
        rw [show decide ((⟨(lyrC d k i j).a, (lyrC d k i j).b, (lyrC d k i j).c⟩ : Cell) ∈ cs) = true from decide_eq_true hm]
        simp (disch := omega) only [f2, f3, f7, f8, f9, f10, f11, f12, ↓SXd, SXu, slBounds, ↓sop, ↓aop, ↓reduceIte, LV.cells, AOp.dst, LV.I, LV.B, LV.U, LV.S, LV.nil, Nat.reduceEqDiff, Nat.reduceAdd, Nat.reduceMul, Nat.reduceSub, Nat.reduceLeDiff, Nat.reduceBEq, Nat.reduceDiv, Nat.reduceMod, Int.reduceToNat, Int.reduceLT, Int.reduceLE, Int.reduceAdd, Int.reduceSub, Int.reduceMul, Int.reduceEq, Int.reduceNeg, reduceCtorEq, resV, resAll, ARes.ev, LV.flat, ite_true, ite_false, exists_eq_left', exists_eq_left, keyOf, implies_true, fillC, capOf]
        refine appendK_int dr (by omega) fun N5 l1 l2 l3 => ?_
        rw [hlv] at hrs
        rw [← hrs] at l2 ⊢
        simp (disch := omega) only [f2, f3, f7, f8, f9, f10, f11, f12, ↓SXd, SXu, slBounds, ↓sop, ↓aop, ↓reduceIte, LV.cells, AOp.dst, LV.I, LV.B, LV.U, LV.S, LV.nil, Nat.reduceEqDiff, Nat.reduceAdd, Nat.reduceMul, Nat.reduceSub, Nat.reduceLeDiff, Nat.reduceBEq, Nat.reduceDiv, Nat.reduceMod, Int.reduceToNat, Int.reduceLT, Int.reduceLE, Int.reduceAdd, Int.reduceSub, Int.reduceMul, Int.reduceEq, Int.reduceNeg, reduceCtorEq, resV, resAll, ARes.ev, LV.flat, ite_true, ite_false, exists_eq_left', exists_eq_left, keyOf, implies_true, fillC, capOf]
        exact ⟨m2 - 1, by omega, j + 1, N4.length + 1, by omega, pre_step hP4 (by omega) (j := 2) l1 l3, by have := hP4.1; omega, l2, f1, f2, f3, f7, f8, f9, f10, rfl, eqI (natI _)⟩
      · rw [if_neg hm] at hlv
        rw [show decide ((⟨(lyrC d k i j).a, (lyrC d k i j).b, (lyrC d k i j).c⟩ : Cell) ∈ cs) = false from decide_eq_false hm]
        simp (disch := omega) only [f2, f3, f7, f8, f9, f10, f11, f12, ↓SXd, SXu, slBounds, ↓sop, ↓aop, ↓reduceIte, LV.cells, AOp.dst, LV.I, LV.B, LV.U, LV.S, LV.nil, Nat.reduceEqDiff, Nat.reduceAdd, Nat.reduceMul, Nat.reduceSub, Nat.reduceLeDiff, Nat.reduceBEq, Nat.reduceDiv, Nat.reduceMod, Int.reduceToNat, Int.reduceLT, Int.reduceLE, Int.reduceAdd, Int.reduceSub, Int.reduceMul, Int.reduceEq, Int.reduceNeg, reduceCtorEq, resV, resAll, ARes.ev, LV.flat, ite_true, ite_false, exists_eq_left', exists_eq_left, keyOf, implies_true, fillC, capOf]
        refine appendK_int dr (by omega) fun N5 l1 l2 l3 => ?_
        rw [hlv] at hrs
        rw [← hrs] at l2 ⊢
        simp (disch := omega) only [f2, f3, f7, f8, f9, f10, f11, f12, ↓SXd, SXu, slBounds, ↓sop, ↓aop, ↓reduceIte, LV.cells, AOp.dst, LV.I, LV.B, LV.U, LV.S, LV.nil, Nat.reduceEqDiff, Nat.reduceAdd, Nat.reduceMul, Nat.reduceSub, Nat.reduceLeDiff, Nat.reduceBEq, Nat.reduceDiv, Nat.reduceMod, Int.reduceToNat, Int.reduceLT, Int.reduceLE, Int.reduceAdd, Int.reduceSub, Int.reduceMul, Int.reduceEq, Int.reduceNeg, reduceCtorEq, resV, resAll, ARes.ev, LV.flat, ite_true, ite_false, exists_eq_left', exists_eq_left, keyOf, implies_true, fillC, capOf]
        exact ⟨m2 - 1, by omega, j + 1, N4.length + 1, by omega, pre_step hP4 (by omega) (j := 2) l1 l3, by have := hP4.1; omega, l2, f1, f2, f3, f7, f8, f9, f10, rfl, eqI (natI _)⟩
    · have hjl : j = (sideOf x y z (dirB d)).toNat := by omega
      subst hjl
      have hts := lyrT_succ (x := x) (y := y) (z := z) (d := d) (k := k) (cs := cs) (m := i)
      have htl := lyrT_len (x := x) (y := y) (z := z) (d := d) (k := k) (cs := cs) (m := i)
      simp (disch := omega) only [f2, f3, f7, f8, f9, f10, f11, f12, ↓SXd, SXu, slBounds, ↓sop, ↓aop, ↓reduceIte, LV.cells, AOp.dst, LV.I, LV.B, LV.U, LV.S, LV.nil, Nat.reduceEqDiff, Nat.reduceAdd, Nat.reduceMul, Nat.reduceSub, Nat.reduceLeDiff, Nat.reduceBEq, Nat.reduceDiv, Nat.reduceMod, Int.reduceToNat, Int.reduceLT, Int.reduceLE, Int.reduceAdd, Int.reduceSub, Int.reduceMul, Int.reduceEq, Int.reduceNeg, reduceCtorEq, resV, resAll, ARes.ev, LV.flat, ite_true, ite_false, exists_eq_left', exists_eq_left, keyOf, implies_true, fillC, capOf]
      refine appendK_tab hT hp br hr (by omega) (hpre.trans hp) (by omega) fun u' Q hTab hM hu' hold hQl => ?_
      rw [← hts] at hTab ⊢
      simp (disch := omega) only [f2, f3, f7, f8, f9, f10, f11, f12, ↓SXd, SXu, slBounds, ↓sop, ↓aop, ↓reduceIte, LV.cells, AOp.dst, LV.I, LV.B, LV.U, LV.S, LV.nil, Nat.reduceEqDiff, Nat.reduceAdd, Nat.reduceMul, Nat.reduceSub, Nat.reduceLeDiff, Nat.reduceBEq, Nat.reduceDiv, Nat.reduceMod, Int.reduceToNat, Int.reduceLT, Int.reduceLE, Int.reduceAdd, Int.reduceSub, Int.reduceMul, Int.reduceEq, Int.reduceNeg, reduceCtorEq, resV, resAll, ARes.ev, LV.flat, ite_true, ite_false, exists_eq_left', exists_eq_left, keyOf, implies_true, fillC, capOf]
      have hc3l := c3.lt
      refine ⟨m - 1, by omega, i + 1, u', by omega, hM, by omega, ?_, hTab, by rcases hu' with e | e <;> omega, f1, f2, f3, f7, f8, rfl, eqI (natI _)⟩
      unfold Live at c3 ⊢
      rw [hold _ (by omega) hc3l]; exact c3
  · have hil : i = (sideOf x y z (dirA d)).toNat := by omega
    subst hil
    simp (disch := omega) only [f1, f2, f3, f7, f8, f9, f10, ↓SXd, SXu, slBounds, ↓sop, ↓aop, ↓reduceIte, LV.cells, AOp.dst, LV.I, LV.B, LV.U, LV.S, LV.nil, Nat.reduceEqDiff, Nat.reduceAdd, Nat.reduceMul, Nat.reduceSub, Nat.reduceLeDiff, Nat.reduceBEq, Nat.reduceDiv, Nat.reduceMod, Int.reduceToNat, Int.reduceLT, Int.reduceLE, Int.reduceAdd, Int.reduceSub, Int.reduceMul, Int.reduceEq, Int.reduceNeg, reduceCtorEq, resV, resAll, ARes.ev, LV.flat, ite_true, ite_false, exists_eq_left', exists_eq_left, keyOf, implies_true, fillC, capOf]
    exact ⟨u, rfl, hT.v, hpre⟩
end
end Go.Ab

/- Sums of the rows and of the columns of a table; contract of the reference's. -/
namespace Go.Ab
open Go
set_option linter.unusedSimpArgs false
set_option linter.unusedVariables false
set_option maxRecDepth 20000

def Tab01 (n : Nat) (T : List (List Int)) : Prop := ∀ row ∈ T, row.length = n ∧ ∀ a ∈ row, a = 0 ∨ a = 1
def colsE (n : Nat) (T : List (List Int)) : List Int := (List.range n).map fun j => litSum (T.map fun row => row.getD j 0)
theorem litSum_bits : ∀ {l : List Int}, (∀ a ∈ l, a = 0 ∨ a = 1) → 0 ≤ litSum l ∧ litSum l ≤ l.length
  | [], _ => by simp [litSum]
  | a :: l, h => by
    have h1 := litSum_bits fun b hb => h b (List.mem_cons_of_mem a hb)
    have h2 := h a (by simp)
    simp only [litSum, List.length_cons]
    omega
theorem colsE_bound {n : Nat} {T : List (List Int)} (hT : Tab01 n T) : ∀ a ∈ colsE n T, 0 ≤ a ∧ a ≤ T.length := by
  intro a ha
  obtain ⟨j, hj, rfl⟩ := List.mem_map.1 ha
  have := litSum_bits (l := T.map fun row => row.getD j 0) fun b hb => by
    obtain ⟨row, h1, rfl⟩ := List.mem_map.1 hb
    have h2 := hT row h1
    exact h2.2 _ (getD_mem' (by rw [h2.1]; exact List.mem_range.1 hj))
  rw [List.length_map] at this
  exact this
theorem TabV.atR {N : Mem} {t n : Nat} {L : List (List Int)} {i : Nat} (h : TabV N (.ref t 0 n) L) (hi : i < L.length) : ∃ u : Nat, getCell N t i = some (.ref u 0 (L.getD i []).length) ∧ Ints N u 0 (L.getD i []) := by
  obtain ⟨t', u, h1, h2, h3⟩ := h.at hi
  cases h1
  exact ⟨u, h2, h3⟩
end Go.Ab

/- The abstract code of some functions (written by a program of mine from the translation, by way of prepF). -/
namespace Go.Ab.C
open Go.Ab
def impl_third : AFn :=
 ⟨2, 9, [.tmp 4],
 .seq (.ops [(none, .mv 4 (.c (.I 0)))])
 (.seq (.ops [(none, .mv 5 (.t 0)),
 (none, .bin 6 .sub (.c (.I 3)) (.t 5)),
 (none, .mv 7 (.t 1)),
 (none, .bin 8 .sub (.t 6) (.t 7)),
 (none, .mv 4 (.t 8))])
 (.ret))⟩
def impl_areDirections : AFn :=
 ⟨2, 16, [.tmp 4],
 .seq (.ops [(none, .mv 4 (.c (.B false)))])
 (.seq (.ops [(none, .mv 5 (.t 0)),
 (none, .call (some 6) F.impl_isDirection [(.t 5)]),
 (none, .mv 7 (.t 6)),
 (some (7, true), .mv 8 (.t 1)),
 (some (7, true), .call (some 9) F.impl_isDirection [(.t 8)]),
 (none, .pick 10 (.t 7) (.t 9) (.c (.B false))),
 (none, .mv 11 (.t 10)),
 (some (11, true), .mv 12 (.t 0)),
 (some (11, true), .mv 13 (.t 1)),
 (some (11, true), .bin 14 .neq (.t 12) (.t 13)),
 (none, .pick 15 (.t 11) (.t 14) (.c (.B false))),
 (none, .mv 4 (.t 15))])
 (.ret))⟩
end Go.Ab.C

/- That the program has this code. -/
namespace Go.Ab.K
open Go Go.Ab
theorem impl_third : prepF Go.Proofs.Try.prog F.impl_third = some C.impl_third := by kernel_rfl
theorem impl_areDirections : prepF Go.Proofs.Try.prog F.impl_areDirections = some C.impl_areDirections := by kernel_rfl
end Go.Ab.K

/- The abstract code of some functions (written by a program of mine from the translation, by way of prepF). -/
namespace Go.Ab.C
open Go.Ab
def impl_Heap_layer : AFn :=
 ⟨3, 78, [.tmp 6, .tmp 7, .tmp 8],
 .seq (.ops [(none, .box 3 (.t 0)),
 (none, .mv 6 (.c (.U 0))),
 (none, .mv 7 (.c .nil)),
 (none, .mv 8 (.c .nil))])
 (.seq (.ops [(none, .mv 18 (.t 1)),
 (none, .call (some 19) F.impl_others [(.t 18)]),
 (none, .mv 17 (.t 19)),
 (none, .extract 20 (.t 17) 0),
 (none, .extract 21 (.t 17) 1),
 (none, .mv 9 (.t 20)),
 (none, .mv 10 (.t 21))])
 (.seq (.ops [(none, .loadN 22 4 (.t 3)),
 (none, .call (some 23) F.impl_Heap_box [(.t 22)]),
 (none, .alloc 11 [(.I 0), (.I 0), (.I 0)]),
 (none, .store 3 (.t 11) (.t 23))])
 (.seq (.draw [⟨(none, .mv 24 (.t 9)), [], []⟩,
 ⟨(none, .idxA 25 3 1 (.t 11) (.t 24)), [], []⟩,
 ⟨(none, .load1 26 (.t 25)), [], []⟩,
 ⟨(none, .mv 28 (.t 10)), [], []⟩,
 ⟨(none, .idxA 29 3 1 (.t 11) (.t 28)), [], []⟩,
 ⟨(none, .load1 30 (.t 29)), [], []⟩,
 ⟨(none, .mv 12 (.c (.U 0))), [], []⟩,
 ⟨(none, .mksl 27 1 8 [(.I 0)] (.t 26) (.t 26)), [], []⟩,
 ⟨(none, .mv 13 (.t 27)), [], []⟩,
 ⟨(none, .mksl 31 1 8 [(.I 0)] (.t 30) (.t 30)), [], []⟩,
 ⟨(none, .mv 14 (.t 31)), [], []⟩])
 (.seq (.seq (.ops [(none, .fieldAddr 32 (.t 3) 3),
 (none, .load1 33 (.t 32)),
 (none, .len 34 (.t 33)),
 (none, .mv 35 (.c (.I 0)))])
 (.block 0 (.loop (.seq (.ops [(none, .bin 36 .lss (.t 35) (.t 34))])
 (.seq (.cond (.t 36) (.skip)
 (.exit 0))
 (.seq (.block 1 (.seq (.ops [(none, .idxS 37 3 (.t 33) (.t 35)),
 (none, .loadN 38 3 (.t 37)),
 (none, .alloc 16 [(.I 0), (.I 0), (.I 0)]),
 (none, .store 3 (.t 16) (.t 38))])
 (.seq (.ops [(none, .mv 39 (.t 1)),
 (none, .idxA 40 3 1 (.t 16) (.t 39)),
 (none, .load1 41 (.t 40)),
 (none, .mv 42 (.t 2)),
 (none, .bin 43 .eql (.t 41) (.t 42))])
 (.cond (.t 43) (.seq (.draw [⟨(none, .mv 44 (.t 12)), [], []⟩,
 ⟨(none, .mv 45 (.t 9)), [], []⟩,
 ⟨(none, .idxA 46 3 1 (.t 16) (.t 45)), [], []⟩,
 ⟨(none, .load1 47 (.t 46)), [], []⟩,
 ⟨(none, .mv 48 (.t 10)), [], []⟩,
 ⟨(none, .idxA 49 3 1 (.t 11) (.t 48)), [], []⟩,
 ⟨(none, .load1 50 (.t 49)), [], []⟩,
 ⟨(none, .bin 51 .mul (.t 47) (.t 50)), [], []⟩,
 ⟨(none, .mv 52 (.t 10)), [], []⟩,
 ⟨(none, .idxA 53 3 1 (.t 16) (.t 52)), [], []⟩,
 ⟨(none, .load1 54 (.t 53)), [], []⟩,
 ⟨(none, .bin 55 .add (.t 51) (.t 54)), [], []⟩,
 ⟨(none, .bin 56 .shl (.c (.U 1)) (.t 55)), [], []⟩,
 ⟨(none, .bin 57 .or (.t 44) (.t 56)), [], []⟩,
 ⟨(none, .mv 12 (.t 57)), [], []⟩])
 (.seq (.ops [(none, .mv 58 (.t 13)),
 (none, .mv 59 (.t 9)),
 (none, .idxA 60 3 1 (.t 16) (.t 59)),
 (none, .load1 61 (.t 60)),
 (none, .idxS 62 1 (.t 58) (.t 61)),
 (none, .load1 63 (.t 62)),
 (none, .bin 64 .add (.t 63) (.c (.I 1))),
 (none, .idxS 65 1 (.t 58) (.t 61)),
 (none, .store 1 (.t 65) (.t 64))])
 (.ops [(none, .mv 66 (.t 14)),
 (none, .mv 67 (.t 10)),
 (none, .idxA 68 3 1 (.t 16) (.t 67)),
 (none, .load1 69 (.t 68)),
 (none, .idxS 70 1 (.t 66) (.t 69)),
 (none, .load1 71 (.t 70)),
 (none, .bin 72 .add (.t 71) (.c (.I 1))),
 (none, .idxS 73 1 (.t 66) (.t 69)),
 (none, .store 1 (.t 73) (.t 72))])))
 (.skip)))))
 (.ops [(none, .bin 74 .add (.t 35) (.c (.I 1))),
 (none, .mv 35 (.t 74))])))))))
 (.seq (.ops [(none, .mv 75 (.t 12)),
 (none, .mv 76 (.t 13)),
 (none, .mv 77 (.t 14)),
 (none, .mv 6 (.t 75)),
 (none, .mv 7 (.t 76)),
 (none, .mv 8 (.t 77))])
 (.ret))))))⟩
end Go.Ab.C

/- That the program has this code. -/
namespace Go.Ab.K
open Go Go.Ab
theorem impl_Heap_layer : prepF Go.Proofs.Try.prog F.impl_Heap_layer = some C.impl_Heap_layer := by kernel_rfl
end Go.Ab.K

/- The abstract code of some functions (written by a program of mine from the translation, by way of prepF). -/
namespace Go.Ab.C
open Go.Ab
def spec_l4Two : AFn :=
 ⟨3, 22, [.tmp 6],
 .seq (.ops [(none, .box 3 (.t 0)),
 (none, .mv 6 (.c (.B false)))])
 (.seq (.ops [(none, .loadN 7 4 (.t 3)),
 (none, .call (some 8) F.spec_l2Heap [(.t 7)]),
 (none, .mv 9 (.t 8)),
 (some (9, true), .mv 10 (.t 1)),
 (some (9, true), .call (some 11) F.spec_l1In [(.t 10), (.c (.I 0)), (.c (.I 2))]),
 (none, .pick 12 (.t 9) (.t 11) (.c (.B false))),
 (none, .mv 13 (.t 12)),
 (some (13, true), .mv 14 (.t 2)),
 (some (13, true), .call (some 15) F.spec_l1In [(.t 14), (.c (.I 0)), (.c (.I 2))]),
 (none, .pick 16 (.t 13) (.t 15) (.c (.B false))),
 (none, .mv 17 (.t 16)),
 (some (17, true), .mv 18 (.t 1)),
 (some (17, true), .mv 19 (.t 2)),
 (some (17, true), .bin 20 .neq (.t 18) (.t 19)),
 (none, .pick 21 (.t 17) (.t 20) (.c (.B false))),
 (none, .mv 6 (.t 21))])
 (.ret))⟩
def spec_l4Third : AFn :=
 ⟨2, 9, [.tmp 4],
 .seq (.ops [(none, .mv 4 (.c (.I 0)))])
 (.seq (.ops [(none, .mv 5 (.t 0)),
 (none, .bin 6 .sub (.c (.I 3)) (.t 5)),
 (none, .mv 7 (.t 1)),
 (none, .bin 8 .sub (.t 6) (.t 7)),
 (none, .mv 4 (.t 8))])
 (.ret))⟩
end Go.Ab.C

/- That the program has this code. -/
namespace Go.Ab.K
open Go Go.Ab
theorem spec_l4Two : prepF Go.Proofs.Try.prog F.spec_l4Two = some C.spec_l4Two := by kernel_rfl
theorem spec_l4Third : prepF Go.Proofs.Try.prog F.spec_l4Third = some C.spec_l4Third := by kernel_rfl
end Go.Ab.K

/- The heap whose layers are the first tables: plain, and the reference's. -/
namespace Go.Ab
open Go
set_option linter.unusedSimpArgs false
set_option linter.unusedVariables false
set_option maxRecDepth 20000

section
variable (x y z : Int) (d : Nat) (cs : List Cell)
/-- A layer's table, and the first one with its sums. -/
def layT (k : Int) : List (List Int) := lyrT x y z d k cs (sideOf x y z (dirA d)).toNat
def layN : Nat := (sideOf x y z (dirB d)).toNat
def tabsOf (k : Int) : List (List (List Int)) := tabsL ((layT x y z d cs k).map litSum) (colsE (layN x y z d) (layT x y z d cs k))
def firstF (k : Int) : List (List Int) := (tabsOf x y z d cs k).getD 0 []
def alikeB (c : Cell) : Bool := decide (((firstF x y z d cs (c.at d)).getD (c.at (dirA d)).toNat []).getD (c.at (dirB d)).toNat 0 = 1)
end
def TwoOK (x y z : Int) (cs : List Cell) (a b : Int) : Prop := HeapOK x y z cs ∧ (0 ≤ a ∧ a ≤ 2) ∧ (0 ≤ b ∧ b ≤ 2) ∧ ¬ a = b
noncomputable instance (x y z : Int) (cs : List Cell) (a b : Int) : Decidable (TwoOK x y z cs a b) := Classical.propDecidable _
noncomputable def alikeCs (x y z : Int) (cs : List Cell) (a b : Int) : List Cell := pick x y z (alikeB x y z (3 - a - b).toNat cs)
section
variable {x y z : Int} {d : Nat} {cs : List Cell}
theorem layT_01 {k : Int} : Tab01 (layN x y z d) (layT x y z d cs k) := by
  intro row hr
  obtain ⟨i, hi, rfl⟩ := List.mem_map.1 hr
  refine ⟨lyrR_len, fun a ha => ?_⟩
  obtain ⟨j, hj, rfl⟩ := List.mem_map.1 ha
  unfold lyrV; split <;> simp
theorem layT_len {k : Int} : (layT x y z d cs k).length = (sideOf x y z (dirA d)).toNat := lyrT_len
theorem lyr_at {k i j : Int} (hd : d < 3) : (lyrC d k i j).at d = k ∧ (lyrC d k i j).at (dirA d) = i ∧ (lyrC d k i j).at (dirB d) = j := by
  rcases (show d = 0 ∨ d = 1 ∨ d = 2 by omega) with rfl | rfl | rfl <;> simp [lyrC, dirA, dirB, Cell.at]
theorem lyr_of (hd : d < 3) (c : Cell) : c = lyrC d (c.at d) (c.at (dirA d)) (c.at (dirB d)) := by
  rcases (show d = 0 ∨ d = 1 ∨ d = 2 by omega) with rfl | rfl | rfl <;> simp [lyrC, dirA, dirB, Cell.at]
theorem lyr_box (hS : Sides x y z) (hd : d < 3) {c : Cell} (hc : c.inBox x y z) : (0 ≤ c.at d ∧ c.at d < sideOf x y z (d : Nat)) ∧ (0 ≤ c.at (dirA d) ∧ c.at (dirA d) < sideOf x y z (dirA d)) ∧ 0 ≤ c.at (dirB d) ∧ c.at (dirB d) < sideOf x y z (dirB d) := by
  obtain ⟨⟨_, _⟩, ⟨_, _⟩, ⟨_, _⟩⟩ := id hc
  rcases (show d = 0 ∨ d = 1 ∨ d = 2 by omega) with rfl | rfl | rfl <;> simp [dirA, dirB, Cell.at, sideOf] <;> omega
/-- The cells ahead of a place in the order layer, row, column. -/
def Ahead (d : Nat) (k i j : Int) (c : Cell) : Prop := c.at d < k ∨ c.at d = k ∧ (c.at (dirA d) < i ∨ c.at (dirA d) = i ∧ c.at (dirB d) < j)
end
theorem h_l4Third {a b : Int} {M : Mem} (ha : 0 ≤ a ∧ a ≤ 2) (hb : 0 ≤ b ∧ b ≤ 2) : CallsTo PG F.spec_l4Third [.I a, .I b] M (.I (3 - a - b)) M := by
  refine calls_run K.spec_l4Third rfl ?_
  simp (disch := omega) only [C.spec_l4Third, ↓SXd, SXu, slBounds, ↓sop, ↓aop, ↓reduceIte, LV.cells, AOp.dst, LV.I, LV.B, LV.U, LV.S, LV.nil, Nat.reduceEqDiff, Nat.reduceAdd, Nat.reduceMul, Nat.reduceSub, Nat.reduceLeDiff, Nat.reduceBEq, Nat.reduceDiv, Nat.reduceMod, Int.reduceToNat, Int.reduceLT, Int.reduceLE, Int.reduceAdd, Int.reduceSub, Int.reduceMul, Int.reduceEq, Int.reduceNeg, reduceCtorEq, resV, resAll, ARes.ev, LV.flat, ite_true, ite_false, exists_eq_left', exists_eq_left, keyOf, implies_true, fillC, capOf]
  exact cmp_drop0 rfl
theorem h_l4Two {x y z a b : Int} {t o : Nat} {cs : List Cell} {M : Mem} (h : Tri M t o cs) (hn : cs.length ≤ 1000000000) :
    CallsTo PG F.spec_l4Two [.agg [.I x, .I y, .I z, .ref t o cs.length], .I a, .I b] M (.B (decide (TwoOK x y z cs a b))) M := by
  refine calls_run K.spec_l4Two rfl ?_
  simp (disch := omega) only [C.spec_l4Two, ↓SXd, SXu, slBounds, ↓sop, ↓aop, ↓reduceIte, LV.cells, AOp.dst, LV.I, LV.B, LV.U, LV.S, LV.nil, Nat.reduceEqDiff, Nat.reduceAdd, Nat.reduceMul, Nat.reduceSub, Nat.reduceLeDiff, Nat.reduceBEq, Nat.reduceDiv, Nat.reduceMod, Int.reduceToNat, Int.reduceLT, Int.reduceLE, Int.reduceAdd, Int.reduceSub, Int.reduceMul, Int.reduceEq, Int.reduceNeg, reduceCtorEq, resV, resAll, ARes.ev, LV.flat, ite_true, ite_false, exists_eq_left', exists_eq_left, keyOf, implies_true, fillC, capOf]
  refine callK_of (h_l2Heap h.app hn) ?_
  simp (disch := omega) only [↓SXd, SXu, slBounds, ↓sop, ↓aop, ↓reduceIte, LV.cells, AOp.dst, LV.I, LV.B, LV.U, LV.S, LV.nil, Nat.reduceEqDiff, Nat.reduceAdd, Nat.reduceMul, Nat.reduceSub, Nat.reduceLeDiff, Nat.reduceBEq, Nat.reduceDiv, Nat.reduceMod, Int.reduceToNat, Int.reduceLT, Int.reduceLE, Int.reduceAdd, Int.reduceSub, Int.reduceMul, Int.reduceEq, Int.reduceNeg, reduceCtorEq, resV, resAll, ARes.ev, LV.flat, ite_true, ite_false, exists_eq_left', exists_eq_left, keyOf, implies_true, fillC, capOf]
  by_cases hH : HeapOK x y z cs
  · rw [decide_eq_true hH]
    simp (disch := omega) only [↓SXd, SXu, slBounds, ↓sop, ↓aop, ↓reduceIte, LV.cells, AOp.dst, LV.I, LV.B, LV.U, LV.S, LV.nil, Nat.reduceEqDiff, Nat.reduceAdd, Nat.reduceMul, Nat.reduceSub, Nat.reduceLeDiff, Nat.reduceBEq, Nat.reduceDiv, Nat.reduceMod, Int.reduceToNat, Int.reduceLT, Int.reduceLE, Int.reduceAdd, Int.reduceSub, Int.reduceMul, Int.reduceEq, Int.reduceNeg, reduceCtorEq, resV, resAll, ARes.ev, LV.flat, ite_true, ite_false, exists_eq_left', exists_eq_left, keyOf, implies_true, fillC, capOf]
    refine callK_of (h_l1In) ?_
    simp (disch := omega) only [↓SXd, SXu, slBounds, ↓sop, ↓aop, ↓reduceIte, LV.cells, AOp.dst, LV.I, LV.B, LV.U, LV.S, LV.nil, Nat.reduceEqDiff, Nat.reduceAdd, Nat.reduceMul, Nat.reduceSub, Nat.reduceLeDiff, Nat.reduceBEq, Nat.reduceDiv, Nat.reduceMod, Int.reduceToNat, Int.reduceLT, Int.reduceLE, Int.reduceAdd, Int.reduceSub, Int.reduceMul, Int.reduceEq, Int.reduceNeg, reduceCtorEq, resV, resAll, ARes.ev, LV.flat, ite_true, ite_false, exists_eq_left', exists_eq_left, keyOf, implies_true, fillC, capOf]
    by_cases ha : 0 ≤ a ∧ a ≤ 2
    · rw [decide_eq_true ha]
      simp (disch := omega) only [↓SXd, SXu, slBounds, ↓sop, ↓aop, ↓reduceIte, LV.cells, AOp.dst, LV.I, LV.B, LV.U, LV.S, LV.nil, Nat.reduceEqDiff, Nat.reduceAdd, Nat.reduceMul, Nat.reduceSub, Nat.reduceLeDiff, Nat.reduceBEq, Nat.reduceDiv, Nat.reduceMod, Int.reduceToNat, Int.reduceLT, Int.reduceLE, Int.reduceAdd, Int.reduceSub, Int.reduceMul, Int.reduceEq, Int.reduceNeg, reduceCtorEq, resV, resAll, ARes.ev, LV.flat, ite_true, ite_false, exists_eq_left', exists_eq_left, keyOf, implies_true, fillC, capOf]
      refine callK_of (h_l1In) ?_
      simp (disch := omega) only [↓SXd, SXu, slBounds, ↓sop, ↓aop, ↓reduceIte, LV.cells, AOp.dst, LV.I, LV.B, LV.U, LV.S, LV.nil, Nat.reduceEqDiff, Nat.reduceAdd, Nat.reduceMul, Nat.reduceSub, Nat.reduceLeDiff, Nat.reduceBEq, Nat.reduceDiv, Nat.reduceMod, Int.reduceToNat, Int.reduceLT, Int.reduceLE, Int.reduceAdd, Int.reduceSub, Int.reduceMul, Int.reduceEq, Int.reduceNeg, reduceCtorEq, resV, resAll, ARes.ev, LV.flat, ite_true, ite_false, exists_eq_left', exists_eq_left, keyOf, implies_true, fillC, capOf]
      by_cases hb : 0 ≤ b ∧ b ≤ 2
      · rw [decide_eq_true hb]
        simp (disch := omega) only [↓SXd, SXu, slBounds, ↓sop, ↓aop, ↓reduceIte, LV.cells, AOp.dst, LV.I, LV.B, LV.U, LV.S, LV.nil, Nat.reduceEqDiff, Nat.reduceAdd, Nat.reduceMul, Nat.reduceSub, Nat.reduceLeDiff, Nat.reduceBEq, Nat.reduceDiv, Nat.reduceMod, Int.reduceToNat, Int.reduceLT, Int.reduceLE, Int.reduceAdd, Int.reduceSub, Int.reduceMul, Int.reduceEq, Int.reduceNeg, reduceCtorEq, resV, resAll, ARes.ev, LV.flat, ite_true, ite_false, exists_eq_left', exists_eq_left, keyOf, implies_true, fillC, capOf]
        rw [show decide (TwoOK x y z cs a b) = decide (¬ a = b) by simp [TwoOK, hH, ha, hb]]
        rw [show decide (¬ a = b) = !decide (a = b) from decide_not]
        exact cmp_drop rfl
      · rw [decide_eq_false hb]
        simp (disch := omega) only [↓SXd, SXu, slBounds, ↓sop, ↓aop, ↓reduceIte, LV.cells, AOp.dst, LV.I, LV.B, LV.U, LV.S, LV.nil, Nat.reduceEqDiff, Nat.reduceAdd, Nat.reduceMul, Nat.reduceSub, Nat.reduceLeDiff, Nat.reduceBEq, Nat.reduceDiv, Nat.reduceMod, Int.reduceToNat, Int.reduceLT, Int.reduceLE, Int.reduceAdd, Int.reduceSub, Int.reduceMul, Int.reduceEq, Int.reduceNeg, reduceCtorEq, resV, resAll, ARes.ev, LV.flat, ite_true, ite_false, exists_eq_left', exists_eq_left, keyOf, implies_true, fillC, capOf]
        rw [show decide (TwoOK x y z cs a b) = false by simp only [decide_eq_false_iff_not]; exact fun h => hb h.2.2.1]
        exact cmp_drop rfl
    · rw [decide_eq_false ha]
      simp (disch := omega) only [↓SXd, SXu, slBounds, ↓sop, ↓aop, ↓reduceIte, LV.cells, AOp.dst, LV.I, LV.B, LV.U, LV.S, LV.nil, Nat.reduceEqDiff, Nat.reduceAdd, Nat.reduceMul, Nat.reduceSub, Nat.reduceLeDiff, Nat.reduceBEq, Nat.reduceDiv, Nat.reduceMod, Int.reduceToNat, Int.reduceLT, Int.reduceLE, Int.reduceAdd, Int.reduceSub, Int.reduceMul, Int.reduceEq, Int.reduceNeg, reduceCtorEq, resV, resAll, ARes.ev, LV.flat, ite_true, ite_false, exists_eq_left', exists_eq_left, keyOf, implies_true, fillC, capOf]
      rw [show decide (TwoOK x y z cs a b) = false by simp only [decide_eq_false_iff_not]; exact fun h => ha h.2.1]
      exact cmp_drop rfl
  · rw [decide_eq_false hH]
    simp (disch := omega) only [↓SXd, SXu, slBounds, ↓sop, ↓aop, ↓reduceIte, LV.cells, AOp.dst, LV.I, LV.B, LV.U, LV.S, LV.nil, Nat.reduceEqDiff, Nat.reduceAdd, Nat.reduceMul, Nat.reduceSub, Nat.reduceLeDiff, Nat.reduceBEq, Nat.reduceDiv, Nat.reduceMod, Int.reduceToNat, Int.reduceLT, Int.reduceLE, Int.reduceAdd, Int.reduceSub, Int.reduceMul, Int.reduceEq, Int.reduceNeg, reduceCtorEq, resV, resAll, ARes.ev, LV.flat, ite_true, ite_false, exists_eq_left', exists_eq_left, keyOf, implies_true, fillC, capOf]
    rw [show decide (TwoOK x y z cs a b) = false by simp only [decide_eq_false_iff_not]; exact fun h => hH h.1]
    exact cmp_drop rfl
end Go.Ab

/- Contracts: layers of the program. -/
namespace Go.Ab
open Go
set_option linter.unusedSimpArgs false
set_option linter.unusedVariables false
set_option maxRecDepth 20000

theorem sum_one {f : Nat → Int} {j0 : Nat} : ∀ n : Nat, litSum ((List.range n).map fun j => f j + if j = j0 then 1 else 0) = litSum ((List.range n).map f) + if j0 < n then 1 else 0
  | 0 => by simp [litSum]
  | n + 1 => by
    rw [List.range_succ, List.map_append, List.map_append, litSum_append, litSum_append, sum_one n]
    simp only [List.map_cons, List.map_nil, litSum]
    by_cases h1 : j0 < n
    · rw [if_pos h1, if_pos (show j0 < n + 1 by omega), if_neg (show ¬ n = j0 by omega)]; omega
    · by_cases h2 : n = j0
      · rw [if_neg h1, if_pos h2, if_pos (show j0 < n + 1 by omega)]; omega
      · rw [if_neg h1, if_neg h2, if_neg (show ¬ j0 < n + 1 by omega)]; omega
section
variable {x y z : Int} {d : Nat} {cs : List Cell} {k : Int} {c : Cell}
theorem lyrC_inj {i j i' j' : Int} (hd : d < 3) : lyrC d k i j = lyrC d k i' j' ↔ i = i' ∧ j = j' := by
  constructor
  · intro e
    have h1 := lyr_at (k := k) (i := i) (j := j) hd
    have h2 := lyr_at (k := k) (i := i') (j := j') hd
    rw [e] at h1
    exact ⟨h1.2.1.symm.trans h2.2.1, h1.2.2.symm.trans h2.2.2⟩
  · rintro ⟨rfl, rfl⟩; rfl
theorem lyrV_add {i j : Nat} (hc : c ∉ cs) : lyrV d k (cs ++ [c]) i j = lyrV d k cs i j + if lyrC d k i j = c then 1 else 0 := by
  unfold lyrV
  by_cases h1 : lyrC d k i j = c
  · rw [h1]; simp [hc]
  · by_cases h2 : lyrC d k i j ∈ cs <;> simp [h1, h2]
def rowsV (x y z : Int) (d : Nat) (cs : List Cell) (k : Int) : List Int := (layT x y z d cs k).map litSum
def colsV (x y z : Int) (d : Nat) (cs : List Cell) (k : Int) : List Int := colsE (layN x y z d) (layT x y z d cs k)
theorem rowsV_eq : rowsV x y z d cs k = (List.range (sideOf x y z (dirA d)).toNat).map fun i => litSum ((List.range (layN x y z d)).map fun j => lyrV d k cs i j) := by
  unfold rowsV layT lyrT
  rw [List.map_map]; rfl
theorem colsV_eq : colsV x y z d cs k = (List.range (layN x y z d)).map fun j => litSum ((List.range (sideOf x y z (dirA d)).toNat).map fun i => lyrV d k cs i j) := by
  unfold colsV colsE
  refine List.map_congr_left fun j hj => ?_
  unfold layT lyrT
  rw [List.map_map]
  congr 1
  refine List.map_congr_left fun i _ => ?_
  have hj' := List.mem_range.1 hj
  show (lyrR x y z d k cs i (layN x y z d)).getD j 0 = _
  unfold lyrR
  simp only [List.getD_eq_getElem?_getD, List.getElem?_map, List.getElem?_range hj', Option.map_some, Option.getD_some]
theorem set_one {n i0 : Nat} {f : Nat → Int} (h : i0 < n) : ((List.range n).map fun i => f i + if i = i0 then 1 else 0) = ((List.range n).map f).set i0 (((List.range n).map f).getD i0 0 + 1) := by
  have hg : ((List.range n).map f).getD i0 0 = f i0 := by simp only [List.getD_eq_getElem?_getD, List.getElem?_map, List.getElem?_range h, Option.map_some, Option.getD_some]
  rw [hg]
  refine List.ext_getElem (by simp) fun j h1 h2 => ?_
  simp only [List.getElem_map, List.getElem_range, List.getElem_set]
  by_cases e : i0 = j
  · subst e; simp
  · rw [if_neg e, if_neg (fun e' => e e'.symm)]; omega
theorem rowsV_add (hS : Sides x y z) (hd : d < 3) (hc : c ∉ cs) (hb : c.inBox x y z) (hk : c.at d = k) : rowsV x y z d (cs ++ [c]) k = (rowsV x y z d cs k).set (c.at (dirA d)).toNat ((rowsV x y z d cs k).getD (c.at (dirA d)).toNat 0 + 1) := by
  obtain ⟨h0, h1, h2⟩ := lyr_box hS hd hb
  have hce : c = lyrC d k ((c.at (dirA d)).toNat : Nat) ((c.at (dirB d)).toNat : Nat) := by
    have := lyr_of hd c
    rw [hk] at this
    rw [Int.toNat_of_nonneg h1.1, Int.toNat_of_nonneg h2.1]; exact this
  rw [rowsV_eq, rowsV_eq, ← set_one (by omega)]
  refine List.map_congr_left fun i _ => ?_
  have : (fun j => lyrV d k (cs ++ [c]) i j) = fun j : Nat => lyrV d k cs i j + if j = (c.at (dirB d)).toNat then (if i = (c.at (dirA d)).toNat then 1 else 0) else 0 := by
    funext j
    rw [lyrV_add hc]
    congr 1
    have he : lyrC d k i j = c ↔ (i = (c.at (dirA d)).toNat ∧ j = (c.at (dirB d)).toNat) := by
      constructor
      · intro e
        rw [hce, lyrC_inj hd] at e
        omega
      · rintro ⟨e1, e2⟩
        rw [e1, e2]; exact hce.symm
    simp only [he]
    by_cases e1 : i = (c.at (dirA d)).toNat <;> by_cases e2 : j = (c.at (dirB d)).toNat <;> simp [e1, e2]
  rw [this]
  by_cases e1 : i = (c.at (dirA d)).toNat
  · have hlt : (c.at (dirB d)).toNat < layN x y z d := by unfold layN; omega
    simp only [if_pos e1]
    rw [sum_one, if_pos hlt]
  · simp only [if_neg e1]
    simp
theorem colsV_add (hS : Sides x y z) (hd : d < 3) (hc : c ∉ cs) (hb : c.inBox x y z) (hk : c.at d = k) : colsV x y z d (cs ++ [c]) k = (colsV x y z d cs k).set (c.at (dirB d)).toNat ((colsV x y z d cs k).getD (c.at (dirB d)).toNat 0 + 1) := by
  obtain ⟨h0, h1, h2⟩ := lyr_box hS hd hb
  have hce : c = lyrC d k ((c.at (dirA d)).toNat : Nat) ((c.at (dirB d)).toNat : Nat) := by
    have := lyr_of hd c
    rw [hk] at this
    rw [Int.toNat_of_nonneg h1.1, Int.toNat_of_nonneg h2.1]; exact this
  rw [colsV_eq, colsV_eq, ← set_one (by unfold layN; omega)]
  refine List.map_congr_left fun j _ => ?_
  have : (fun i => lyrV d k (cs ++ [c]) i j) = fun i : Nat => lyrV d k cs i j + if i = (c.at (dirA d)).toNat then (if j = (c.at (dirB d)).toNat then 1 else 0) else 0 := by
    funext i
    rw [lyrV_add hc]
    congr 1
    have he : lyrC d k i j = c ↔ (i = (c.at (dirA d)).toNat ∧ j = (c.at (dirB d)).toNat) := by
      constructor
      · intro e
        rw [hce, lyrC_inj hd] at e
        omega
      · rintro ⟨e1, e2⟩
        rw [e1, e2]; exact hce.symm
    simp only [he]
    by_cases e1 : i = (c.at (dirA d)).toNat <;> by_cases e2 : j = (c.at (dirB d)).toNat <;> simp [e1, e2]
  rw [this]
  by_cases e1 : j = (c.at (dirB d)).toNat
  · have hlt : (c.at (dirA d)).toNat < (sideOf x y z (dirA d)).toNat := by omega
    simp only [if_pos e1]
    rw [sum_one, if_pos hlt]
  · simp only [if_neg e1]
    simp
theorem layT_off (hd : d < 3) (hk : ¬ c.at d = k) : layT x y z d (cs ++ [c]) k = layT x y z d cs k := by
  unfold layT lyrT lyrR
  refine List.map_congr_left fun i _ => List.map_congr_left fun j _ => ?_
  have hne : lyrC d k i j ≠ c := fun e => hk (by rw [← e]; exact (lyr_at hd).1)
  unfold lyrV
  by_cases h : lyrC d k i j ∈ cs <;> simp [h, hne]
end
theorem cellC_row {e : Int} {c : Cell} (he : Dir e) : [LV.I c.a, LV.I c.b, LV.I c.c][e.toNat]? = some (.I (c.at e)) := by
  rcases he with rfl | rfl | rfl <;> rfl
theorem sideB_row {e x y z : Int} (he : Dir e) : [LV.I x, LV.I y, LV.I z][e.toNat]? = some (.I (sideOf x y z e)) := by
  rcases he with rfl | rfl | rfl <;> rfl
theorem rep_ints (n : Nat) : (List.replicate n [LV.val (Value.int IntKind.i64 0)]).flatten = intL (List.replicate n 0) := by
  unfold intL
  rw [List.map_replicate]
  induction n with
  | zero => rfl
  | succ n ih => rw [List.replicate_succ, List.flatten_cons, ih, List.replicate_succ]; rfl
theorem rowsV_nil {x y z : Int} {d : Nat} {k : Int} : rowsV x y z d [] k = List.replicate (sideOf x y z (dirA d)).toNat 0 := by
  rw [rowsV_eq]
  refine List.ext_getElem (by simp) fun j h1 h2 => ?_
  simp only [List.getElem_map, List.getElem_range, List.getElem_replicate]
  have : (fun i : Nat => lyrV d k [] j i) = fun _ => 0 := by funext i; simp [lyrV]
  rw [this, List.map_const', litSum_zero]
theorem colsV_nil {x y z : Int} {d : Nat} {k : Int} : colsV x y z d [] k = List.replicate (sideOf x y z (dirB d)).toNat 0 := by
  rw [colsV_eq]
  refine List.ext_getElem (by simp [layN]) fun j h1 h2 => ?_
  simp only [List.getElem_map, List.getElem_range, List.getElem_replicate]
  have : (fun i : Nat => lyrV d k [] i j) = fun _ => 0 := by funext i; simp [lyrV]
  rw [this, List.map_const', litSum_zero]
theorem rowsV_len {x y z : Int} {d : Nat} {cs : List Cell} {k : Int} : (rowsV x y z d cs k).length = (sideOf x y z (dirA d)).toNat := by rw [rowsV_eq]; simp
theorem colsV_len {x y z : Int} {d : Nat} {cs : List Cell} {k : Int} : (colsV x y z d cs k).length = (sideOf x y z (dirB d)).toNat := by rw [colsV_eq]; simp [layN]
section
variable {x y z : Int} {t : Nat} {cs : List Cell} {M : Mem} (h : Tri M t 0 cs)
include h
end
end Go.Ab

/- The abstract code of some functions (written by a program of mine from the translation, by way of prepF). -/
namespace Go.Ab.C
open Go.Ab
end Go.Ab.C

/- That the program has this code. -/
namespace Go.Ab.K
open Go Go.Ab
end Go.Ab.K

/- The abstract code of some functions (written by a program of mine from the translation, by way of prepF). -/
namespace Go.Ab.C
open Go.Ab
end Go.Ab.C

/- That the program has this code. -/
namespace Go.Ab.K
open Go Go.Ab
end Go.Ab.K

/- The abstract code of some functions (written by a program of mine from the translation, by way of prepF). -/
namespace Go.Ab.C
open Go.Ab
end Go.Ab.C

/- That the program has this code. -/
namespace Go.Ab.K
open Go Go.Ab
end Go.Ab.K

/- The abstract code of some functions (written by a program of mine from the translation, by way of prepF). -/
namespace Go.Ab.C
open Go.Ab
end Go.Ab.C

/- That the program has this code. -/
namespace Go.Ab.K
open Go Go.Ab
end Go.Ab.K

/- Contracts: the reference's search for packings. -/
namespace Go.Ab
open Go
set_option linter.unusedSimpArgs false
set_option linter.unusedVariables false
set_option maxRecDepth 20000

def FndRes (M : Mem) (q t1 : Nat) (P0 : List Int × Nat) (v : LV) (N : Mem) : Prop := ∃ t, v = .agg [.ref t 0 P0.1.length, .I P0.2] ∧ Live N t (.row (intL P0.1) true 1) ∧ (t = t1 ∨ t = q ∨ M.length ≤ t) ∧ Pre M N
section
variable {x y z : Int} {t o u : Nat} {cs : List Cell} {L : List (List Cell)} {once : Bool} (hA : AskOK x y z cs L)
include hA
end
end Go.Ab

/- Contracts: the reference's packings. -/
namespace Go.Ab
open Go
set_option linter.unusedSimpArgs false
set_option linter.unusedVariables false
set_option maxRecDepth 20000

/-- The cells of the pieces that a list lacks. -/
noncomputable def remTo (L : List (List Cell)) (xs : List Int) : Nat → Nat
  | 0 => 0
  | m + 1 => remTo L xs m + if (m : Int) ∈ xs then 0 else (L.getD m []).length
section
variable {x y z : Int} {cs : List Cell} {L : List (List Cell)} (hA : AskOK x y z cs L)
include hA
noncomputable def allPk (x y z : Int) (cs : List Cell) (L : List (List Cell)) : List (List Int) := packs x y z cs L 8 (startL x y z cs)
def FindRes (M : Mem) (P0 : List Int × Nat) (v : LV) (N : Mem) : Prop := ∃ t, v = .agg [.ref t 0 P0.1.length, .I P0.2] ∧ Live N t (.row (intL P0.1) true 1) ∧ M.length ≤ t ∧ Pre M N
end
noncomputable def countPk (x y z : Int) (cs : List Cell) (L : List (List Cell)) : Int × Bool := if AskOK x y z cs L then (((allPk x y z cs L).length : Nat), true) else (0, false)
end Go.Ab

/- Plain: what the program keeps while it packs. -/
namespace Go.Ab
open Go
set_option linter.unusedSimpArgs false
set_option linter.unusedVariables false

def freeX (y z : Int) (xs : List Int) (c : Cell) : Bool := decide (atL y z xs c = -2)
/-- The program's list has the numbers that are set. -/
def Agr (xs ys : List Int) : Prop := ys.length = xs.length ∧ ∀ k, k < xs.length → xs.getD k 0 ≠ -2 → ys.getD k 0 = xs.getD k 0
def UsedOK (n : Nat) (xs : List Int) (used : Nat) : Prop := used < 2 ^ n ∧ ∀ i, i < n → (used.testBit i = true ↔ (i : Int) ∈ xs)
/-- The first k places overwritten. -/
def overL (y z : Int) (ds : List Cell) (i : Int) (ys : List Int) : Nat → List Int
  | 0 => ys
  | k + 1 => if cellAt y z k ∈ ds then (overL y z ds i ys k).set k i else overL y z ds i ys k
section
variable {x y z : Int} {cs : List Cell} {L : List (List Cell)} {xs ys : List Int} {l : List Cell} {p : Cell}
def CubesOK (y z : Int) (x : Int) (cs : List Cell) (xs : List Int) : Prop := ∀ c, c.inBox x y z → c ∈ cs → atL y z xs c ≠ -2
end
end Go.Ab

/- The abstract code of some functions (written by a program of mine from the translation, by way of prepF). -/
namespace Go.Ab.C
open Go.Ab
end Go.Ab.C

/- That the program has this code. -/
namespace Go.Ab.K
open Go Go.Ab
end Go.Ab.K

/- The abstract code of some functions (written by a program of mine from the translation, by way of prepF). -/
namespace Go.Ab.C
open Go.Ab
end Go.Ab.C

/- That the program has this code. -/
namespace Go.Ab.K
open Go Go.Ab
end Go.Ab.K

/- Plain: what one sees of lines of columns, levels, orders by sights. -/
namespace Go.Ab
open Go
set_option linter.unusedSimpArgs false
set_option linter.unusedVariables false
set_option maxRecDepth 20000

/-- The greatest height so far, and how many columns one has seen. -/
def seeStep (s : Int × Int) (h : Int) : Int × Int := if h > s.1 then (h, s.2 + 1) else s
def seen (l : List Int) : Int × Int := l.foldl seeStep (0, 0)
/-- The greatest number of a list, at least 0. -/
def mostL (l : List Int) : Int := l.foldl max 0
/-- The length and the number of the lines of a direction; the column of a place of a line. -/
def lnN (x y : Int) (dir : Nat) : Nat := (if dir = 0 then x else y).toNat
def lnM (x y : Int) (dir : Nat) : Nat := (if dir = 0 then y else x).toNat
def lnI (y : Int) (dir i k : Nat) : Nat := if dir = 0 then k * y.toNat + i else i * y.toNat + k
def lineH (x y : Int) (dir : Nat) (ts : List Int) (i n : Nat) : List Int := (List.range n).map fun k => ts.getD (lnI y dir i k) 0
def linesH (x y : Int) (dir : Nat) (ts : List Int) (m : Nat) : List (List Int) := (List.range m).map fun i => lineH x y dir ts i (lnN x y dir)
/-- The line of a column. -/
def othN (y : Nat) (dir p : Nat) : Nat := if dir = 0 then p % y else p / y
def rowsB (x y dir i : Nat) : Bool := !(decide (0 < y) && decide (i < (if dir = 0 then y else x))) || decide ((List.range (x * y)).filter (fun p => othN y dir p == i) = (List.range (if dir = 0 then x else y)).map fun k => if dir = 0 then k * y + i else i * y + k)
def rowP (y : Int) (dir : Nat) (ts : List Int) (i n : Nat) : List Int := ((List.range n).filter fun p => othN y.toNat dir p == i).map fun p => ts.getD p 0
/-- Sights of all lines, and the sky line. -/
def sgtL (x y : Int) (dir : Nat) (back : Bool) (ts : List Int) (m : Nat) : List Int := (List.range m).map fun i => (seen (if back then (lineH x y dir ts i (lnN x y dir)).reverse else lineH x y dir ts i (lnN x y dir))).2
def skyL (x y : Int) (dir : Nat) (ts : List Int) (m : Nat) : List Int := (List.range m).map fun i => mostL (lineH x y dir ts i (lnN x y dir))
/-- Levels: a height counts at its place. -/
def lvStep (v : List Int) (h : Int) : List Int := v.set h.toNat (v.getD h.toNat 0 + 1)
def lvL (z : Int) (ts : List Int) : List Int := ts.foldl lvStep (List.replicate (z + 1).toNat 0)
/-- How many orders of m columns one sees i of. -/
def stir : Nat → Nat → Nat
  | 0, 0 => 1
  | 0, _ + 1 => 0
  | m + 1, 0 => m * stir m 0
  | m + 1, i + 1 => m * stir m (i + 1) + stir m i
def stirT : Nat → List Nat
  | 0 => [1, 0, 0, 0, 0, 0, 0, 0, 0, 0, 0, 0, 0]
  | m + 1 => let r := stirT m; (List.range 13).map fun i => m * r.getD i 0 + if i = 0 then 0 else r.getD (i - 1) 0
def factN : Nat → Nat
  | 0 => 1
  | n + 1 => factN n * (n + 1)
end Go.Ab

/- Contracts: lines of columns, sights and sky lines of the reference. -/
namespace Go.Ab
open Go
set_option linter.unusedSimpArgs false
set_option linter.unusedVariables false
set_option maxRecDepth 20000

/-- A list of numbers that may be read, and a truth. -/
def IntsQ (M : Mem) (l : List Int) (b : Bool) (v : LV) (N : Mem) : Prop := ∃ w, v = .tup [w, .B b] ∧ IntsV N w l ∧ Pre M N
def FlatOK (x y z : Int) (cs : List Cell) (d : Int) : Prop := HeapOK x y z cs ∧ 0 ≤ d ∧ d ≤ 1
noncomputable instance (x y z : Int) (cs : List Cell) (d : Int) : Decidable (FlatOK x y z cs d) := Classical.propDecidable _
noncomputable def flatB (x y z : Int) (cs : List Cell) (d : Int) : Bool := decide (FlatOK x y z cs d)
noncomputable def sgtOf (x y z : Int) (cs : List Cell) (d : Int) (b : Bool) : List Int := if FlatOK x y z cs d then sgtL x y d.toNat b (topsOf x y cs) (lnM x y d.toNat) else []
noncomputable def skyOf (x y z : Int) (cs : List Cell) (d : Int) : List Int := if FlatOK x y z cs d then skyL x y d.toNat (topsOf x y cs) (lnM x y d.toNat) else []
section
variable {x y z : Int} {t : Nat} {cs : List Cell} {M : Mem} (h : Tri M t 0 cs)
include h
end
end Go.Ab

/- Contracts: lines of columns, sights and sky lines of the program. -/
namespace Go.Ab
open Go
set_option linter.unusedSimpArgs false
set_option linter.unusedVariables false
set_option maxRecDepth 20000

/-- A row of a table in the making: nothing yet, or a block of its own. -/
def RowM (N : Mem) (r : LV) (l : List Int) (u : Nat) : Prop := (l = [] ∧ r = .nil) ∨ (l ≠ [] ∧ r = .ref u 0 l.length ∧ Live N u (.row (intL l) true 1))
theorem RowM.at {N N' : Mem} {r : LV} {l : List Int} {u : Nat} (h : RowM N r l u) (hk : l ≠ [] → N'[u]? = N[u]?) : RowM N' r l u := by
  rcases h with h | ⟨h1, h2, h3⟩
  · exact .inl h
  · refine .inr ⟨h1, h2, ?_⟩
    unfold Live at h3 ⊢
    rw [hk h1]; exact h3
end Go.Ab

/- Contracts: the program's search for tables. -/
namespace Go.Ab
open Go
set_option linter.unusedSimpArgs false
set_option linter.unusedVariables false
set_option maxRecDepth 20000

/-- A table, cell by cell, as a set. -/
def setT (T : List Int) : BitVec 64 := bsN T.length fun i => decide (T.getD i 0 = 1)
theorem setT_bit {T : List Int} (h : T.length ≤ 64) (i : Nat) : (setT T).getLsbD i = (decide (i < T.length) && decide (T.getD i 0 = 1)) := bsN_bit h i
/-- What a search leaves alone: all but some blocks. -/
def FrmL (ws : List Nat) (M N : Mem) : Prop := M.length ≤ N.length ∧ ∀ q, q < M.length → q ∉ ws → N[q]? = M[q]?
theorem FrmL.trans {ws : List Nat} {M N N' : Mem} (h : FrmL ws M N) (k : FrmL ws N N') : FrmL ws M N' := ⟨Nat.le_trans h.1 k.1, fun q h1 h2 => by rw [k.2 q (Nat.lt_of_lt_of_le h1 h.1) h2]; exact h.2 q h1 h2⟩
theorem FrmL.of {ws : List Nat} {M N : Mem} (h : Pre M N) : FrmL ws M N := ⟨h.1, fun q h1 _ => h.2 q h1⟩
def TEnv (n : Nat) (R : List Int) (B : Mem) (tr pn pr pl pv pf w : Nat) (fv : FuncId) (cps : List (Nat × Nat)) (M : Mem) : Prop :=
  Pre B M ∧ Live M pn (.row [.I n] true 0) ∧ Live M pr (.row [.ref tr 0 R.length] true 0) ∧ Live M pl (.row [.ref w 0 n] true 0) ∧ Live M pv (.row [.clo fv cps] true 0) ∧ Live M pf (.row [.clo F.impl_tables_1 [(pn, 0), (pr, 0), (pl, 0), (pv, 0), (pf, 0)]] true 0)
def TDis (B : Mem) (pn pr pl pv pf : Nat) (ws : List Nat) : Prop := ∀ c ∈ ws, B.length ≤ c ∧ c ≠ pn ∧ c ≠ pr ∧ c ≠ pl ∧ c ≠ pv ∧ c ≠ pf
section
variable {n : Nat} {R : List Int} {once : Bool} {B : Mem} {tr pn pr pl pv pf w : Nat} {cc : List Nat} {fv : FuncId} {cps : List (Nat × Nat)} {Inv : List (List Int) → Mem → Prop}
  (hn : 1 ≤ n ∧ n ≤ 4) (hR4 : R.length ≤ 4) (hRb : ∀ r ∈ R, 0 ≤ r ∧ r ≤ 1000) (hRI : Ints B tr 0 R) (hD : TDis B pn pr pl pv pf (w :: cc)) (hwc : w ∉ cc)
  (hInv : ∀ {P : List (List Int)} {N N' : Mem}, Inv P N → N.length ≤ N'.length → (∀ q, q < N.length → q ≠ w → N'[q]? = N[q]?) → Inv P N')
  (hVis : ∀ {P : List (List Int)} {T : List Int} {N : Mem}, (once = true → P = []) → Inv P N → T.length = R.length * n → P.length + 1 ≤ 1000000000 →
    CallsR PG fv (.W (setT T) :: cps.map fun p => .ptr p.1 p.2) N fun r N' => r = .B (!once) ∧ N.length ≤ N'.length ∧ (∀ q, q < N.length → q ∉ cc → N'[q]? = N[q]?) ∧ Inv (P ++ [T]) N')
include hn hR4 hRb hRI hD hwc hInv hVis
end
end Go.Ab

/- Contracts: all tables and the first one, the program's side. -/
namespace Go.Ab
open Go
set_option linter.unusedSimpArgs false
set_option linter.unusedVariables false
set_option maxRecDepth 20000

section
variable {n : Nat} {R cols : List Int} {once : Bool} {B M : Mem} {tr tc : Nat} {cc : List Nat} {fv : FuncId} {cps : List (Nat × Nat)} {Inv : Nat → List (List Int) → Mem → Prop}
  (hn : 1 ≤ n ∧ n ≤ 4) (hR4 : R.length ≤ 4) (hRb : ∀ r ∈ R, 0 ≤ r ∧ r ≤ 1000) (hRI : Ints B tr 0 R) (hCI : Ints B tc 0 cols) (hcn : cols.length = n) (hcb : ∀ a ∈ cols, 0 ≤ a ∧ a ≤ 1000)
  (hBM : Pre B M) (hcc : ∀ c ∈ cc, B.length ≤ c ∧ c < M.length) (hfb : (fillK n R 0 0 cols).length ≤ 1000000000)
  (hI : ∀ w, M.length ≤ w → ∀ N, Pre M N → Inv w [] N)
  (hInv : ∀ {w : Nat} {P : List (List Int)} {N N' : Mem}, Inv w P N → N.length ≤ N'.length → (∀ q, q < N.length → q ≠ w → N'[q]? = N[q]?) → Inv w P N')
  (hVis : ∀ {w : Nat} {P : List (List Int)} {T : List Int} {N : Mem}, (once = true → P = []) → Inv w P N → T.length = R.length * n → P.length + 1 ≤ 1000000000 →
    CallsR PG fv (.W (setT T) :: cps.map fun p => .ptr p.1 p.2) N fun r N' => r = .B (!once) ∧ N.length ≤ N'.length ∧ (∀ q, q < N.length → q ∉ cc → N'[q]? = N[q]?) ∧ Inv w (P ++ [T]) N')
include hn hR4 hRb hRI hCI hcn hcb hBM hcc hI hInv hVis hfb
end
/-- The first of the tables, as a set. -/
def firstW (L : List (List Int)) : BitVec 64 := match L with
  | [] => 0#64
  | T :: _ => setT T
end Go.Ab

/- The abstract code of some functions (written by a program of mine from the translation, by way of prepF). -/
namespace Go.Ab.C
open Go.Ab
end Go.Ab.C

/- That the program has this code. -/
namespace Go.Ab.K
open Go Go.Ab
end Go.Ab.K

/- The abstract code of some functions (written by a program of mine from the translation, by way of prepF). -/
namespace Go.Ab.C
open Go.Ab
end Go.Ab.C

/- That the program has this code. -/
namespace Go.Ab.K
open Go Go.Ab
end Go.Ab.K

/- Plain words: sinking. -/
namespace Go.Ab

def up (c : Cell) : Cell := ⟨c.a, c.b, c.c + 1⟩
def down (c : Cell) : Cell := ⟨c.a, c.b, c.c - 1⟩
noncomputable def hang (x y z : Int) (p : Cell → Bool) : Cell → Bool := fun c => p c && !stand x y z p c
noncomputable def sinkNext (x y z : Int) (p : Cell → Bool) : Cell → Bool := fun d => stand x y z p d || (decide ((up d).inBox x y z) && hang x y z p (up d))
/-- The first k cubes that hang have sunk. -/
noncomputable def sinkK (x y z : Int) (p : Cell → Bool) (k : Nat) : Cell → Bool := fun d => stand x y z p d || ((pick x y z (hang x y z p)).take k).any fun e => decide (d = down e)
noncomputable def sink (x y z : Int) : Nat → (Cell → Bool) → (Cell → Bool) × Nat
  | 0, p => (p, 0)
  | f + 1, p => if Firm x y z p then (p, 0) else ((sink x y z f (sinkNext x y z p)).1, (sink x y z f (sinkNext x y z p)).2 + 1)

def sumC (l : List Cell) : Nat := (l.map fun c => c.c.toNat).sum
section
variable {x y z : Int} (hS : Sides x y z)
include hS
end
end Go.Ab

/- Contracts: sinking, both sides. -/
namespace Go.Ab
open Go
set_option linter.unusedSimpArgs false
set_option linter.unusedVariables false

/-- What SinkHeap answers. -/
noncomputable def sinkOf (x y z : Int) (cs : List Cell) : Option Hp := by
  classical
  exact if HeapOK x y z cs then some ⟨x, y, z, pick x y z (sink x y z 1000 fun c => decide (c ∈ cs)).1⟩ else none
noncomputable def sinkTimes (x y z : Int) (cs : List Cell) : Int := by
  classical
  exact if HeapOK x y z cs then ((sink x y z 1000 fun c => decide (c ∈ cs)).2 : Nat) else 0
end Go.Ab

/- The heap whose layers are the first tables: the reference's contract. -/
namespace Go.Ab
open Go
set_option linter.unusedSimpArgs false
set_option linter.unusedVariables false
set_option maxRecDepth 20000

noncomputable def alikeOf (x y z : Int) (cs : List Cell) (a b : Int) : Option Hp := if TwoOK x y z cs a b then some ⟨x, y, z, alikeCs x y z cs a b⟩ else none
end Go.Ab

/- The abstract code of some functions (written by a program of mine from the translation, by way of prepF). -/
namespace Go.Ab.C
open Go.Ab
def impl_areAlike : AFn :=
 ⟨2, 18, [.tmp 4],
 .seq (.ops [(none, .box 2 (.t 0)),
 (none, .box 3 (.t 1)),
 (none, .mv 4 (.c (.B false)))])
 (.seq (.draw [⟨(none, .loadN 5 4 (.t 2)), [], []⟩,
 ⟨(none, .call (some 6) F.impl_IsHeap [(.t 5)]), [], []⟩,
 ⟨(none, .mv 7 (.t 6)), [], []⟩,
 ⟨(some (7, true), .loadN 8 4 (.t 3)), [], []⟩,
 ⟨(some (7, true), .call (some 9) F.impl_IsHeap [(.t 8)]), [], []⟩,
 ⟨(none, .pick 10 (.t 7) (.t 9) (.c (.B false))), [], []⟩,
 ⟨(none, .mv 11 (.t 10)), [], []⟩,
 ⟨(some (11, true), .loadN 12 4 (.t 2)), [], []⟩,
 ⟨(some (11, true), .loadN 14 4 (.t 3)), [], []⟩,
 ⟨(some (11, true), .call (some 13) F.impl_Heap_box [(.t 12)]), [], [8]⟩,
 ⟨(some (11, true), .call (some 15) F.impl_Heap_box [(.t 14)]), [], []⟩,
 ⟨(some (11, true), .eqs 16 false 3 (.t 13) (.t 15)), [], []⟩,
 ⟨(none, .pick 17 (.t 11) (.t 16) (.c (.B false))), [], []⟩,
 ⟨(none, .mv 4 (.t 17)), [], []⟩])
 (.ret))⟩
end Go.Ab.C

/- That the program has this code. -/
namespace Go.Ab.K
open Go Go.Ab
theorem impl_areAlike : prepF Go.Proofs.Try.prog F.impl_areAlike = some C.impl_areAlike := by kernel_rfl
end Go.Ab.K

/- The abstract code of some functions (written by a program of mine from the translation, by way of prepF). -/
namespace Go.Ab.C
open Go.Ab
def spec_l2Alike : AFn :=
 ⟨2, 32, [.tmp 4],
 .seq (.ops [(none, .box 2 (.t 0)),
 (none, .box 3 (.t 1)),
 (none, .mv 4 (.c (.B false)))])
 (.seq (.ops [(none, .loadN 5 4 (.t 2)),
 (none, .call (some 6) F.spec_l2Heap [(.t 5)]),
 (none, .mv 7 (.t 6)),
 (some (7, true), .loadN 8 4 (.t 3)),
 (some (7, true), .call (some 9) F.spec_l2Heap [(.t 8)]),
 (none, .pick 10 (.t 7) (.t 9) (.c (.B false))),
 (none, .mv 11 (.t 10)),
 (some (11, true), .fieldAddr 12 (.t 2) 0),
 (some (11, true), .load1 13 (.t 12)),
 (some (11, true), .fieldAddr 14 (.t 3) 0),
 (some (11, true), .load1 15 (.t 14)),
 (some (11, true), .bin 16 .eql (.t 13) (.t 15)),
 (none, .pick 17 (.t 11) (.t 16) (.c (.B false))),
 (none, .mv 18 (.t 17)),
 (some (18, true), .fieldAddr 19 (.t 2) 1),
 (some (18, true), .load1 20 (.t 19)),
 (some (18, true), .fieldAddr 21 (.t 3) 1),
 (some (18, true), .load1 22 (.t 21)),
 (some (18, true), .bin 23 .eql (.t 20) (.t 22)),
 (none, .pick 24 (.t 18) (.t 23) (.c (.B false))),
 (none, .mv 25 (.t 24)),
 (some (25, true), .fieldAddr 26 (.t 2) 2),
 (some (25, true), .load1 27 (.t 26)),
 (some (25, true), .fieldAddr 28 (.t 3) 2),
 (some (25, true), .load1 29 (.t 28)),
 (some (25, true), .bin 30 .eql (.t 27) (.t 29)),
 (none, .pick 31 (.t 25) (.t 30) (.c (.B false))),
 (none, .mv 4 (.t 31))])
 (.ret))⟩
end Go.Ab.C

/- That the program has this code. -/
namespace Go.Ab.K
open Go Go.Ab
theorem spec_l2Alike : prepF Go.Proofs.Try.prog F.spec_l2Alike = some C.spec_l2Alike := by kernel_rfl
end Go.Ab.K

/- Contracts: the reference's joined, common and swapped heaps. -/
namespace Go.Ab
open Go
set_option linter.unusedSimpArgs false
set_option linter.unusedVariables false
set_option maxRecDepth 20000

section
variable {x y z x' y' z' : Int} {t t' : Nat} {w w' : Bool} {cs ds : List Cell} {M : Mem} (h : Live M t (.row (triL cs) w 3)) (hn : cs.length ≤ 1000000000) (h' : Live M t' (.row (triL ds) w' 3)) (hn' : ds.length ≤ 1000000000)
include h hn h' hn'
theorem h_l2Alike : CallsTo PG F.spec_l2Alike [.agg [.I x, .I y, .I z, .ref t 0 cs.length], .agg [.I x', .I y', .I z', .ref t' 0 ds.length]] M (.B (decide (Alike x y z cs x' y' z' ds))) M := by
  have ht := h.lt
  have ht' := h'.lt
  refine calls_run K.spec_l2Alike rfl ?_
  simp (disch := omega) only [C.spec_l2Alike, ↓SXd, SXu, slBounds, ↓sop, ↓aop, ↓reduceIte, LV.cells, AOp.dst, LV.I, LV.B, LV.U, LV.S, LV.nil, Nat.reduceEqDiff, Nat.reduceAdd, Nat.reduceMul, Nat.reduceSub, Nat.reduceLeDiff, Nat.reduceBEq, Nat.reduceDiv, Nat.reduceMod, Int.reduceToNat, Int.reduceLT, Int.reduceLE, Int.reduceAdd, Int.reduceSub, Int.reduceMul, Int.reduceEq, Int.reduceNeg, reduceCtorEq, resV, resAll, ARes.ev, LV.flat, ite_true, ite_false, exists_eq_left', exists_eq_left, keyOf, implies_true, fillC, capOf]
  refine callK_of (h_l2Heap (Has.app h.has) hn) ?_
  simp (disch := omega) only [↓SXd, SXu, slBounds, ↓sop, ↓aop, ↓reduceIte, LV.cells, AOp.dst, LV.I, LV.B, LV.U, LV.S, LV.nil, Nat.reduceEqDiff, Nat.reduceAdd, Nat.reduceMul, Nat.reduceSub, Nat.reduceLeDiff, Nat.reduceBEq, Nat.reduceDiv, Nat.reduceMod, Int.reduceToNat, Int.reduceLT, Int.reduceLE, Int.reduceAdd, Int.reduceSub, Int.reduceMul, Int.reduceEq, Int.reduceNeg, reduceCtorEq, resV, resAll, ARes.ev, LV.flat, ite_true, ite_false, exists_eq_left', exists_eq_left, keyOf, implies_true, fillC, capOf]
  by_cases hH : HeapOK x y z cs
  rotate_left
  · rw [decide_eq_false (show ¬ Alike x y z cs x' y' z' ds from fun e => hH e.1)]
    simp (disch := omega) only [hH, ↓SXd, SXu, slBounds, ↓sop, ↓aop, ↓reduceIte, LV.cells, AOp.dst, LV.I, LV.B, LV.U, LV.S, LV.nil, Nat.reduceEqDiff, Nat.reduceAdd, Nat.reduceMul, Nat.reduceSub, Nat.reduceLeDiff, Nat.reduceBEq, Nat.reduceDiv, Nat.reduceMod, Int.reduceToNat, Int.reduceLT, Int.reduceLE, Int.reduceAdd, Int.reduceSub, Int.reduceMul, Int.reduceEq, Int.reduceNeg, reduceCtorEq, resV, resAll, ARes.ev, LV.flat, ite_true, ite_false, exists_eq_left', exists_eq_left, keyOf, implies_true, fillC, capOf]
    exact cmp_drop rfl
  simp (disch := omega) only [hH, ↓SXd, SXu, slBounds, ↓sop, ↓aop, ↓reduceIte, LV.cells, AOp.dst, LV.I, LV.B, LV.U, LV.S, LV.nil, Nat.reduceEqDiff, Nat.reduceAdd, Nat.reduceMul, Nat.reduceSub, Nat.reduceLeDiff, Nat.reduceBEq, Nat.reduceDiv, Nat.reduceMod, Int.reduceToNat, Int.reduceLT, Int.reduceLE, Int.reduceAdd, Int.reduceSub, Int.reduceMul, Int.reduceEq, Int.reduceNeg, reduceCtorEq, resV, resAll, ARes.ev, LV.flat, ite_true, ite_false, exists_eq_left', exists_eq_left, keyOf, implies_true, fillC, capOf]
  refine callK_of (h_l2Heap (Has.app h'.has) hn') ?_
  simp (disch := omega) only [↓SXd, SXu, slBounds, ↓sop, ↓aop, ↓reduceIte, LV.cells, AOp.dst, LV.I, LV.B, LV.U, LV.S, LV.nil, Nat.reduceEqDiff, Nat.reduceAdd, Nat.reduceMul, Nat.reduceSub, Nat.reduceLeDiff, Nat.reduceBEq, Nat.reduceDiv, Nat.reduceMod, Int.reduceToNat, Int.reduceLT, Int.reduceLE, Int.reduceAdd, Int.reduceSub, Int.reduceMul, Int.reduceEq, Int.reduceNeg, reduceCtorEq, resV, resAll, ARes.ev, LV.flat, ite_true, ite_false, exists_eq_left', exists_eq_left, keyOf, implies_true, fillC, capOf]
  by_cases hD : HeapOK x' y' z' ds
  rotate_left
  · rw [decide_eq_false (show ¬ Alike x y z cs x' y' z' ds from fun e => hD e.2.1)]
    simp (disch := omega) only [hD, ↓SXd, SXu, slBounds, ↓sop, ↓aop, ↓reduceIte, LV.cells, AOp.dst, LV.I, LV.B, LV.U, LV.S, LV.nil, Nat.reduceEqDiff, Nat.reduceAdd, Nat.reduceMul, Nat.reduceSub, Nat.reduceLeDiff, Nat.reduceBEq, Nat.reduceDiv, Nat.reduceMod, Int.reduceToNat, Int.reduceLT, Int.reduceLE, Int.reduceAdd, Int.reduceSub, Int.reduceMul, Int.reduceEq, Int.reduceNeg, reduceCtorEq, resV, resAll, ARes.ev, LV.flat, ite_true, ite_false, exists_eq_left', exists_eq_left, keyOf, implies_true, fillC, capOf]
    exact cmp_drop rfl
  by_cases e1 : x = x'
  rotate_left
  · rw [decide_eq_false (show ¬ Alike x y z cs x' y' z' ds from fun e => e1 e.2.2.1)]
    simp (disch := omega) only [hD, e1, ↓SXd, SXu, slBounds, ↓sop, ↓aop, ↓reduceIte, LV.cells, AOp.dst, LV.I, LV.B, LV.U, LV.S, LV.nil, Nat.reduceEqDiff, Nat.reduceAdd, Nat.reduceMul, Nat.reduceSub, Nat.reduceLeDiff, Nat.reduceBEq, Nat.reduceDiv, Nat.reduceMod, Int.reduceToNat, Int.reduceLT, Int.reduceLE, Int.reduceAdd, Int.reduceSub, Int.reduceMul, Int.reduceEq, Int.reduceNeg, reduceCtorEq, resV, resAll, ARes.ev, LV.flat, ite_true, ite_false, exists_eq_left', exists_eq_left, keyOf, implies_true, fillC, capOf]
    exact cmp_drop rfl
  by_cases e2 : y = y'
  rotate_left
  · rw [decide_eq_false (show ¬ Alike x y z cs x' y' z' ds from fun e => e2 e.2.2.2.1)]
    simp (disch := omega) only [hD, e1, e2, ↓SXd, SXu, slBounds, ↓sop, ↓aop, ↓reduceIte, LV.cells, AOp.dst, LV.I, LV.B, LV.U, LV.S, LV.nil, Nat.reduceEqDiff, Nat.reduceAdd, Nat.reduceMul, Nat.reduceSub, Nat.reduceLeDiff, Nat.reduceBEq, Nat.reduceDiv, Nat.reduceMod, Int.reduceToNat, Int.reduceLT, Int.reduceLE, Int.reduceAdd, Int.reduceSub, Int.reduceMul, Int.reduceEq, Int.reduceNeg, reduceCtorEq, resV, resAll, ARes.ev, LV.flat, ite_true, ite_false, exists_eq_left', exists_eq_left, keyOf, implies_true, fillC, capOf]
    exact cmp_drop rfl
  by_cases e3 : z = z'
  rotate_left
  · rw [decide_eq_false (show ¬ Alike x y z cs x' y' z' ds from fun e => e3 e.2.2.2.2)]
    simp (disch := omega) only [hD, e1, e2, e3, ↓SXd, SXu, slBounds, ↓sop, ↓aop, ↓reduceIte, LV.cells, AOp.dst, LV.I, LV.B, LV.U, LV.S, LV.nil, Nat.reduceEqDiff, Nat.reduceAdd, Nat.reduceMul, Nat.reduceSub, Nat.reduceLeDiff, Nat.reduceBEq, Nat.reduceDiv, Nat.reduceMod, Int.reduceToNat, Int.reduceLT, Int.reduceLE, Int.reduceAdd, Int.reduceSub, Int.reduceMul, Int.reduceEq, Int.reduceNeg, reduceCtorEq, resV, resAll, ARes.ev, LV.flat, ite_true, ite_false, exists_eq_left', exists_eq_left, keyOf, implies_true, fillC, capOf]
    exact cmp_drop rfl
  rw [decide_eq_true (show Alike x y z cs x' y' z' ds from ⟨hH, hD, e1, e2, e3⟩)]
  simp (disch := omega) only [hD, e1, e2, e3, ↓SXd, SXu, slBounds, ↓sop, ↓aop, ↓reduceIte, LV.cells, AOp.dst, LV.I, LV.B, LV.U, LV.S, LV.nil, Nat.reduceEqDiff, Nat.reduceAdd, Nat.reduceMul, Nat.reduceSub, Nat.reduceLeDiff, Nat.reduceBEq, Nat.reduceDiv, Nat.reduceMod, Int.reduceToNat, Int.reduceLT, Int.reduceLE, Int.reduceAdd, Int.reduceSub, Int.reduceMul, Int.reduceEq, Int.reduceNeg, reduceCtorEq, resV, resAll, ARes.ev, LV.flat, ite_true, ite_false, exists_eq_left', exists_eq_left, keyOf, implies_true, fillC, capOf]
  exact cmp_drop rfl
end
section
variable {x y z a b : Int} {t : Nat} {w : Bool} {cs : List Cell} {M : Mem} (h : Live M t (.row (triL cs) w 3))
include h
end
end Go.Ab

/- The abstract code of some functions (written by a program of mine from the translation, by way of prepF). -/
namespace Go.Ab.C
open Go.Ab
end Go.Ab.C

/- That the program has this code. -/
namespace Go.Ab.K
open Go Go.Ab
end Go.Ab.K

/- The abstract code of some functions (written by a program of mine from the translation, by way of prepF). -/
namespace Go.Ab.C
open Go.Ab
end Go.Ab.C

/- That the program has this code. -/
namespace Go.Ab.K
open Go Go.Ab
end Go.Ab.K

/- Contracts: the program's PositionsOf, AreSameForm, IsHanded. -/
namespace Go.Ab
open Go
set_option linter.unusedSimpArgs false
set_option linter.unusedVariables false

theorem SlI.lenV {N : Mem} {v : LV} {l : List Int} (h : SlI N v l) : lenV v = some (l.length : Int) := by
  rcases h with ⟨rfl, rfl⟩ | ⟨t, ex, rfl, _⟩ <;> rfl
end Go.Ab

/- The abstract code of some functions (written by a program of mine from the translation, by way of prepF). -/
namespace Go.Ab.C
open Go.Ab
end Go.Ab.C

/- That the program has this code. -/
namespace Go.Ab.K
open Go Go.Ab
end Go.Ab.K

/- Contracts: whether a number is one of a turn. -/
namespace Go.Ab
open Go
set_option linter.unusedSimpArgs false

def In24 (k : Int) : Prop := 0 ≤ k ∧ k ≤ 23
instance (k : Int) : Decidable (In24 k) := by unfold In24; exact inferInstance
end Go.Ab

/- Contracts: the laws' helpers that compare cells and heaps; the program's turned, mirrored, cropped heaps and forms, exactly. -/
namespace Go.Ab
open Go
set_option linter.unusedSimpArgs false
set_option linter.unusedVariables false
set_option maxRecDepth 20000

section
variable {x y z : Int} {t : Nat} {w : Bool} {cs : List Cell} {M : Mem} (h : Live M t (.row (triL cs) w 3)) (hH : HeapOK x y z cs)
include h hH
end
end Go.Ab

/- Contracts: the program's mirrored, other, joined, common, swapped, shifted, cropped and widened heaps. -/
namespace Go.Ab
open Go
set_option linter.unusedSimpArgs false
set_option linter.unusedVariables false
set_option maxRecDepth 20000

theorem g_isDirectionB {d : Int} {M : Mem} : CallsTo PG F.impl_isDirection [.I d] M (.B (decide (0 ≤ d ∧ d ≤ 2))) M := by
  refine calls_run K.impl_isDirection rfl ?_
  simp (disch := omega) only [C.impl_isDirection, ↓SXd, SXu, slBounds, ↓sop, ↓aop, ↓reduceIte, LV.cells, AOp.dst, LV.I, LV.B, LV.U, LV.S, LV.nil, Nat.reduceEqDiff, Nat.reduceAdd, Nat.reduceMul, Nat.reduceSub, Nat.reduceLeDiff, Nat.reduceBEq, Nat.reduceDiv, Nat.reduceMod, Int.reduceToNat, Int.reduceLT, Int.reduceLE, Int.reduceAdd, Int.reduceSub, Int.reduceMul, Int.reduceEq, Int.reduceNeg, reduceCtorEq, resV, resAll, ARes.ev, LV.flat, ite_true, ite_false, exists_eq_left', exists_eq_left, keyOf, implies_true, fillC, capOf]
  refine callK_of (g_within) ?_
  simp (disch := omega) only [↓SXd, SXu, slBounds, ↓sop, ↓aop, ↓reduceIte, LV.cells, AOp.dst, LV.I, LV.B, LV.U, LV.S, LV.nil, Nat.reduceEqDiff, Nat.reduceAdd, Nat.reduceMul, Nat.reduceSub, Nat.reduceLeDiff, Nat.reduceBEq, Nat.reduceDiv, Nat.reduceMod, Int.reduceToNat, Int.reduceLT, Int.reduceLE, Int.reduceAdd, Int.reduceSub, Int.reduceMul, Int.reduceEq, Int.reduceNeg, reduceCtorEq, resV, resAll, ARes.ev, LV.flat, ite_true, ite_false, exists_eq_left', exists_eq_left, keyOf, implies_true, fillC, capOf]
  exact cmp_drop0 rfl
section
variable {x y z : Int} {t : Nat} {w : Bool} {cs : List Cell} {M : Mem} (h : Live M t (.row (triL cs) w 3)) (hn : cs.length ≤ 1000000000)
include h hn
end
section
variable {x y z x' y' z' : Int} {t t' : Nat} {w w' : Bool} {cs ds : List Cell} {M : Mem} (h : Live M t (.row (triL cs) w 3)) (hn : cs.length ≤ 1000000000) (h' : Live M t' (.row (triL ds) w' 3)) (hn' : ds.length ≤ 1000000000)
include h hn h' hn'
theorem g_areAlike : CallsTo PG F.impl_areAlike [.agg [.I x, .I y, .I z, .ref t 0 cs.length], .agg [.I x', .I y', .I z', .ref t' 0 ds.length]] M (.B (decide (Alike x y z cs x' y' z' ds))) M := by
  have ht := h.lt
  have ht' := h'.lt
  refine calls_run K.impl_areAlike rfl ?_
  simp (disch := omega) only [C.impl_areAlike, ↓SXd, SXu, slBounds, ↓sop, ↓aop, ↓reduceIte, LV.cells, AOp.dst, LV.I, LV.B, LV.U, LV.S, LV.nil, Nat.reduceEqDiff, Nat.reduceAdd, Nat.reduceMul, Nat.reduceSub, Nat.reduceLeDiff, Nat.reduceBEq, Nat.reduceDiv, Nat.reduceMod, Int.reduceToNat, Int.reduceLT, Int.reduceLE, Int.reduceAdd, Int.reduceSub, Int.reduceMul, Int.reduceEq, Int.reduceNeg, reduceCtorEq, resV, resAll, ARes.ev, LV.flat, ite_true, ite_false, exists_eq_left', exists_eq_left, keyOf, implies_true, fillC, capOf]
  refine callK_of (g_IsHeap (Has.app h.has) hn) ?_
  simp (disch := omega) only [↓SXd, SXu, slBounds, ↓sop, ↓aop, ↓reduceIte, LV.cells, AOp.dst, LV.I, LV.B, LV.U, LV.S, LV.nil, Nat.reduceEqDiff, Nat.reduceAdd, Nat.reduceMul, Nat.reduceSub, Nat.reduceLeDiff, Nat.reduceBEq, Nat.reduceDiv, Nat.reduceMod, Int.reduceToNat, Int.reduceLT, Int.reduceLE, Int.reduceAdd, Int.reduceSub, Int.reduceMul, Int.reduceEq, Int.reduceNeg, reduceCtorEq, resV, resAll, ARes.ev, LV.flat, ite_true, ite_false, exists_eq_left', exists_eq_left, keyOf, implies_true, fillC, capOf]
  by_cases hH : HeapOK x y z cs
  rotate_left
  · rw [decide_eq_false (show ¬ Alike x y z cs x' y' z' ds from fun e => hH e.1)]
    simp (disch := omega) only [hH, ↓SXd, SXu, slBounds, ↓sop, ↓aop, ↓reduceIte, LV.cells, AOp.dst, LV.I, LV.B, LV.U, LV.S, LV.nil, Nat.reduceEqDiff, Nat.reduceAdd, Nat.reduceMul, Nat.reduceSub, Nat.reduceLeDiff, Nat.reduceBEq, Nat.reduceDiv, Nat.reduceMod, Int.reduceToNat, Int.reduceLT, Int.reduceLE, Int.reduceAdd, Int.reduceSub, Int.reduceMul, Int.reduceEq, Int.reduceNeg, reduceCtorEq, resV, resAll, ARes.ev, LV.flat, ite_true, ite_false, exists_eq_left', exists_eq_left, keyOf, implies_true, fillC, capOf]
    exact cmp_drop rfl
  simp (disch := omega) only [hH, ↓SXd, SXu, slBounds, ↓sop, ↓aop, ↓reduceIte, LV.cells, AOp.dst, LV.I, LV.B, LV.U, LV.S, LV.nil, Nat.reduceEqDiff, Nat.reduceAdd, Nat.reduceMul, Nat.reduceSub, Nat.reduceLeDiff, Nat.reduceBEq, Nat.reduceDiv, Nat.reduceMod, Int.reduceToNat, Int.reduceLT, Int.reduceLE, Int.reduceAdd, Int.reduceSub, Int.reduceMul, Int.reduceEq, Int.reduceNeg, reduceCtorEq, resV, resAll, ARes.ev, LV.flat, ite_true, ite_false, exists_eq_left', exists_eq_left, keyOf, implies_true, fillC, capOf]
  refine callK_of (g_IsHeap (Has.app h'.has) hn') ?_
  simp (disch := omega) only [↓SXd, SXu, slBounds, ↓sop, ↓aop, ↓reduceIte, LV.cells, AOp.dst, LV.I, LV.B, LV.U, LV.S, LV.nil, Nat.reduceEqDiff, Nat.reduceAdd, Nat.reduceMul, Nat.reduceSub, Nat.reduceLeDiff, Nat.reduceBEq, Nat.reduceDiv, Nat.reduceMod, Int.reduceToNat, Int.reduceLT, Int.reduceLE, Int.reduceAdd, Int.reduceSub, Int.reduceMul, Int.reduceEq, Int.reduceNeg, reduceCtorEq, resV, resAll, ARes.ev, LV.flat, ite_true, ite_false, exists_eq_left', exists_eq_left, keyOf, implies_true, fillC, capOf]
  by_cases hD : HeapOK x' y' z' ds
  rotate_left
  · rw [decide_eq_false (show ¬ Alike x y z cs x' y' z' ds from fun e => hD e.2.1)]
    simp (disch := omega) only [hD, ↓SXd, SXu, slBounds, ↓sop, ↓aop, ↓reduceIte, LV.cells, AOp.dst, LV.I, LV.B, LV.U, LV.S, LV.nil, Nat.reduceEqDiff, Nat.reduceAdd, Nat.reduceMul, Nat.reduceSub, Nat.reduceLeDiff, Nat.reduceBEq, Nat.reduceDiv, Nat.reduceMod, Int.reduceToNat, Int.reduceLT, Int.reduceLE, Int.reduceAdd, Int.reduceSub, Int.reduceMul, Int.reduceEq, Int.reduceNeg, reduceCtorEq, resV, resAll, ARes.ev, LV.flat, ite_true, ite_false, exists_eq_left', exists_eq_left, keyOf, implies_true, fillC, capOf]
    exact cmp_drop rfl
  simp (disch := omega) only [hD, ↓SXd, SXu, slBounds, ↓sop, ↓aop, ↓reduceIte, LV.cells, AOp.dst, LV.I, LV.B, LV.U, LV.S, LV.nil, Nat.reduceEqDiff, Nat.reduceAdd, Nat.reduceMul, Nat.reduceSub, Nat.reduceLeDiff, Nat.reduceBEq, Nat.reduceDiv, Nat.reduceMod, Int.reduceToNat, Int.reduceLT, Int.reduceLE, Int.reduceAdd, Int.reduceSub, Int.reduceMul, Int.reduceEq, Int.reduceNeg, reduceCtorEq, resV, resAll, ARes.ev, LV.flat, ite_true, ite_false, exists_eq_left', exists_eq_left, keyOf, implies_true, fillC, capOf]
  refine callK_of (g_box) ?_
  simp (disch := omega) only [↓SXd, SXu, slBounds, ↓sop, ↓aop, ↓reduceIte, LV.cells, AOp.dst, LV.I, LV.B, LV.U, LV.S, LV.nil, Nat.reduceEqDiff, Nat.reduceAdd, Nat.reduceMul, Nat.reduceSub, Nat.reduceLeDiff, Nat.reduceBEq, Nat.reduceDiv, Nat.reduceMod, Int.reduceToNat, Int.reduceLT, Int.reduceLE, Int.reduceAdd, Int.reduceSub, Int.reduceMul, Int.reduceEq, Int.reduceNeg, reduceCtorEq, resV, resAll, ARes.ev, LV.flat, ite_true, ite_false, exists_eq_left', exists_eq_left, keyOf, implies_true, fillC, capOf]
  refine callK_of (g_box) ?_
  simp (disch := omega) only [eqV, eqC, if_true, ite_true, Bool.and_true, ↓SXd, SXu, slBounds, ↓sop, ↓aop, ↓reduceIte, LV.cells, AOp.dst, LV.I, LV.B, LV.U, LV.S, LV.nil, Nat.reduceEqDiff, Nat.reduceAdd, Nat.reduceMul, Nat.reduceSub, Nat.reduceLeDiff, Nat.reduceBEq, Nat.reduceDiv, Nat.reduceMod, Int.reduceToNat, Int.reduceLT, Int.reduceLE, Int.reduceAdd, Int.reduceSub, Int.reduceMul, Int.reduceEq, Int.reduceNeg, reduceCtorEq, resV, resAll, ARes.ev, LV.flat, ite_true, ite_false, exists_eq_left', exists_eq_left, keyOf, implies_true, fillC, capOf]
  have hb3 : (x == x' && (y == y' && z == z')) = decide ((⟨x, y, z⟩ : Cell) = ⟨x', y', z'⟩) := beq3 (a := ⟨x, y, z⟩) (b := ⟨x', y', z'⟩)
  rw [hb3, show decide (Alike x y z cs x' y' z' ds) = decide ((⟨x, y, z⟩ : Cell) = ⟨x', y', z'⟩) from decide_eq_decide.2 (by rw [cell_eq]; exact ⟨fun e => e.2.2, fun e => ⟨hH, hD, e⟩⟩)]
  exact cmp_drop rfl
end
end Go.Ab

/- The heap whose layers are the first tables: the program's contract. -/
namespace Go.Ab
open Go
set_option linter.unusedSimpArgs false
set_option linter.unusedVariables false
set_option maxRecDepth 20000

theorem flat_at {n : Nat} : ∀ {L : List (List Int)} {i j : Nat}, (∀ row ∈ L, row.length = n) → i < L.length → j < n → L.flatten.getD (i * n + j) 0 = (L.getD i []).getD j 0
  | [], i, j, _, hi, _ => by simp at hi
  | row :: L, 0, j, h, _, hj => by
    have := h row (by simp)
    rw [List.flatten_cons, Nat.zero_mul, Nat.zero_add]
    simp only [List.getD_eq_getElem?_getD]
    rw [List.getElem?_append_left (by omega)]
    rfl
  | row :: L, i + 1, j, h, hi, hj => by
    have h1 := h row (by simp)
    have ih := flat_at (L := L) (i := i) (j := j) (fun q hq => h q (List.mem_cons_of_mem _ hq)) (by simpa using hi) hj
    rw [List.flatten_cons]
    simp only [List.getD_eq_getElem?_getD] at ih ⊢
    rw [List.getElem?_append_right (by rw [h1, Nat.add_mul]; omega), h1, show (i + 1) * n + j - n = i * n + j by rw [Nat.add_mul]; omega, ih]
    rfl
theorem flat_len {n : Nat} : ∀ {L : List (List Int)}, (∀ row ∈ L, row.length = n) → L.flatten.length = L.length * n
  | [], _ => by simp
  | row :: L, h => by
    rw [List.flatten_cons, List.length_append, h row (by simp), flat_len fun q hq => h q (List.mem_cons_of_mem _ hq), List.length_cons, Nat.add_mul]
    omega
section
variable {x y z : Int} {d : Nat} {cs : List Cell} {k : Int}
end
theorem g_third {a b : Int} {M : Mem} (ha : 0 ≤ a ∧ a ≤ 2) (hb : 0 ≤ b ∧ b ≤ 2) : CallsTo PG F.impl_third [.I a, .I b] M (.I (3 - a - b)) M := by
  refine calls_run K.impl_third rfl ?_
  simp (disch := omega) only [C.impl_third, ↓SXd, SXu, slBounds, ↓sop, ↓aop, ↓reduceIte, LV.cells, AOp.dst, LV.I, LV.B, LV.U, LV.S, LV.nil, Nat.reduceEqDiff, Nat.reduceAdd, Nat.reduceMul, Nat.reduceSub, Nat.reduceLeDiff, Nat.reduceBEq, Nat.reduceDiv, Nat.reduceMod, Int.reduceToNat, Int.reduceLT, Int.reduceLE, Int.reduceAdd, Int.reduceSub, Int.reduceMul, Int.reduceEq, Int.reduceNeg, reduceCtorEq, resV, resAll, ARes.ev, LV.flat, ite_true, ite_false, exists_eq_left', exists_eq_left, keyOf, implies_true, fillC, capOf]
  exact cmp_drop0 rfl
theorem g_areDirections {a b : Int} {M : Mem} : CallsTo PG F.impl_areDirections [.I a, .I b] M (.B (decide ((0 ≤ a ∧ a ≤ 2) ∧ (0 ≤ b ∧ b ≤ 2) ∧ ¬ a = b))) M := by
  refine calls_run K.impl_areDirections rfl ?_
  simp (disch := omega) only [C.impl_areDirections, ↓SXd, SXu, slBounds, ↓sop, ↓aop, ↓reduceIte, LV.cells, AOp.dst, LV.I, LV.B, LV.U, LV.S, LV.nil, Nat.reduceEqDiff, Nat.reduceAdd, Nat.reduceMul, Nat.reduceSub, Nat.reduceLeDiff, Nat.reduceBEq, Nat.reduceDiv, Nat.reduceMod, Int.reduceToNat, Int.reduceLT, Int.reduceLE, Int.reduceAdd, Int.reduceSub, Int.reduceMul, Int.reduceEq, Int.reduceNeg, reduceCtorEq, resV, resAll, ARes.ev, LV.flat, ite_true, ite_false, exists_eq_left', exists_eq_left, keyOf, implies_true, fillC, capOf]
  refine callK_of (g_isDirectionB) ?_
  simp (disch := omega) only [↓SXd, SXu, slBounds, ↓sop, ↓aop, ↓reduceIte, LV.cells, AOp.dst, LV.I, LV.B, LV.U, LV.S, LV.nil, Nat.reduceEqDiff, Nat.reduceAdd, Nat.reduceMul, Nat.reduceSub, Nat.reduceLeDiff, Nat.reduceBEq, Nat.reduceDiv, Nat.reduceMod, Int.reduceToNat, Int.reduceLT, Int.reduceLE, Int.reduceAdd, Int.reduceSub, Int.reduceMul, Int.reduceEq, Int.reduceNeg, reduceCtorEq, resV, resAll, ARes.ev, LV.flat, ite_true, ite_false, exists_eq_left', exists_eq_left, keyOf, implies_true, fillC, capOf]
  by_cases ha : 0 ≤ a ∧ a ≤ 2
  · rw [decide_eq_true ha]
    simp (disch := omega) only [↓SXd, SXu, slBounds, ↓sop, ↓aop, ↓reduceIte, LV.cells, AOp.dst, LV.I, LV.B, LV.U, LV.S, LV.nil, Nat.reduceEqDiff, Nat.reduceAdd, Nat.reduceMul, Nat.reduceSub, Nat.reduceLeDiff, Nat.reduceBEq, Nat.reduceDiv, Nat.reduceMod, Int.reduceToNat, Int.reduceLT, Int.reduceLE, Int.reduceAdd, Int.reduceSub, Int.reduceMul, Int.reduceEq, Int.reduceNeg, reduceCtorEq, resV, resAll, ARes.ev, LV.flat, ite_true, ite_false, exists_eq_left', exists_eq_left, keyOf, implies_true, fillC, capOf]
    refine callK_of (g_isDirectionB) ?_
    simp (disch := omega) only [↓SXd, SXu, slBounds, ↓sop, ↓aop, ↓reduceIte, LV.cells, AOp.dst, LV.I, LV.B, LV.U, LV.S, LV.nil, Nat.reduceEqDiff, Nat.reduceAdd, Nat.reduceMul, Nat.reduceSub, Nat.reduceLeDiff, Nat.reduceBEq, Nat.reduceDiv, Nat.reduceMod, Int.reduceToNat, Int.reduceLT, Int.reduceLE, Int.reduceAdd, Int.reduceSub, Int.reduceMul, Int.reduceEq, Int.reduceNeg, reduceCtorEq, resV, resAll, ARes.ev, LV.flat, ite_true, ite_false, exists_eq_left', exists_eq_left, keyOf, implies_true, fillC, capOf]
    by_cases hb : 0 ≤ b ∧ b ≤ 2
    · rw [decide_eq_true hb]
      simp (disch := omega) only [↓SXd, SXu, slBounds, ↓sop, ↓aop, ↓reduceIte, LV.cells, AOp.dst, LV.I, LV.B, LV.U, LV.S, LV.nil, Nat.reduceEqDiff, Nat.reduceAdd, Nat.reduceMul, Nat.reduceSub, Nat.reduceLeDiff, Nat.reduceBEq, Nat.reduceDiv, Nat.reduceMod, Int.reduceToNat, Int.reduceLT, Int.reduceLE, Int.reduceAdd, Int.reduceSub, Int.reduceMul, Int.reduceEq, Int.reduceNeg, reduceCtorEq, resV, resAll, ARes.ev, LV.flat, ite_true, ite_false, exists_eq_left', exists_eq_left, keyOf, implies_true, fillC, capOf]
      rw [show decide ((0 ≤ a ∧ a ≤ 2) ∧ (0 ≤ b ∧ b ≤ 2) ∧ ¬ a = b) = !decide (a = b) by simp [ha, hb]]
      exact cmp_drop0 rfl
    · rw [decide_eq_false hb]
      simp (disch := omega) only [↓SXd, SXu, slBounds, ↓sop, ↓aop, ↓reduceIte, LV.cells, AOp.dst, LV.I, LV.B, LV.U, LV.S, LV.nil, Nat.reduceEqDiff, Nat.reduceAdd, Nat.reduceMul, Nat.reduceSub, Nat.reduceLeDiff, Nat.reduceBEq, Nat.reduceDiv, Nat.reduceMod, Int.reduceToNat, Int.reduceLT, Int.reduceLE, Int.reduceAdd, Int.reduceSub, Int.reduceMul, Int.reduceEq, Int.reduceNeg, reduceCtorEq, resV, resAll, ARes.ev, LV.flat, ite_true, ite_false, exists_eq_left', exists_eq_left, keyOf, implies_true, fillC, capOf]
      rw [show decide ((0 ≤ a ∧ a ≤ 2) ∧ (0 ≤ b ∧ b ≤ 2) ∧ ¬ a = b) = false by simp only [decide_eq_false_iff_not]; exact fun h => hb h.2.1]
      exact cmp_drop0 rfl
  · rw [decide_eq_false ha]
    simp (disch := omega) only [↓SXd, SXu, slBounds, ↓sop, ↓aop, ↓reduceIte, LV.cells, AOp.dst, LV.I, LV.B, LV.U, LV.S, LV.nil, Nat.reduceEqDiff, Nat.reduceAdd, Nat.reduceMul, Nat.reduceSub, Nat.reduceLeDiff, Nat.reduceBEq, Nat.reduceDiv, Nat.reduceMod, Int.reduceToNat, Int.reduceLT, Int.reduceLE, Int.reduceAdd, Int.reduceSub, Int.reduceMul, Int.reduceEq, Int.reduceNeg, reduceCtorEq, resV, resAll, ARes.ev, LV.flat, ite_true, ite_false, exists_eq_left', exists_eq_left, keyOf, implies_true, fillC, capOf]
    rw [show decide ((0 ≤ a ∧ a ≤ 2) ∧ (0 ≤ b ∧ b ≤ 2) ∧ ¬ a = b) = false by simp only [decide_eq_false_iff_not]; exact fun h => ha h.1]
    exact cmp_drop0 rfl
end Go.Ab
