/- Parts of the proof of FnExactCountPackingsSaid: Ta Tb Tc C_Td K_Td Td Yb Yc Bi Yd C_Tl K_Tl C_Tk K_Tk C_Tj K_Tj Tj Tk C_Tf K_Tf C_Te K_Te Te Tf Tl Yf Yg Yh Zb C_Yi K_Yi Yi Zc C_Wb K_Wb C_Ug K_Ug Ug Va Wa C_Uk K_Uk C_Uj K_Uj C_Ui K_Ui C_Uh K_Uh Uh Ui Uj Uk Wb. -/
import Derived.Test.YtjndofbhdogblaaA6
import Derived.Test.YtjndofbhdogblaaA4
import Derived.Test.YtjndofbhdogblaaA5
import Derived.Test.YtjndofbhdogblaaA3
import Derived.Test.YtjndofbhdogblaaProg
import Derived.KernelRfl
set_option linter.all false
/- Plain words: the 24 turns of a box. -/
namespace Go.Ab
open Go

def Cell.at (c : Cell) (d : Int) : Int := if d = 0 then c.a else if d = 1 then c.b else c.c
def Dir (d : Int) : Prop := d = 0 ∨ d = 1 ∨ d = 2
/-- How many pairs are out of order, modulo 2. -/
def oddOf (c : Cell) : Int := ((if c.a > c.b then 1 else 0) + (if c.a > c.c then 1 else 0) + (if c.b > c.c then 1 else 0)) % 2
structure Turn where
  fr : Cell
  fl : Cell
deriving DecidableEq
def Turn.row (t : Turn) : List LV := t.fr.row ++ t.fl.row
def sixL (l : List Turn) : List LV := l.flatMap Turn.row
/-- The turn that the n-th attempt finds. -/
def turnAt (n : Nat) : Option Turn :=
  if n / 24 ≠ n / 8 % 3 ∧ oddOf ⟨n / 24, n / 8 % 3, 3 - n / 24 - n / 8 % 3⟩ = (n % 8 / 4 + n % 8 / 2 % 2 + n % 8 % 2) % 2 then
    some ⟨⟨n / 24, n / 8 % 3, 3 - n / 24 - n / 8 % 3⟩, ⟨n % 8 / 4, n % 8 / 2 % 2, n % 8 % 2⟩⟩ else none
def turnsU (n : Nat) : List Turn := (List.range n).filterMap turnAt
def turns : List Turn := turnsU 72
theorem sixL_len (l : List Turn) : (sixL l).length = l.length * 6 := by
  induction l with
  | nil => rfl
  | cons t l ih => rw [show sixL (t :: l) = t.row ++ sixL l from rfl, List.length_append, ih, List.length_cons]; simp [Turn.row, Cell.row]; omega
theorem sixL_at {l : List Turn} : ∀ {k : Nat}, (hk : k < l.length) → ((sixL l).drop (k * 6)).take 6 = l[k].row := by
  induction l with
  | nil => intro k hk; simp at hk
  | cons t l ih =>
    intro k hk
    have e : sixL (t :: l) = t.row ++ sixL l := rfl
    have hr : t.row.length = 6 := rfl
    cases k with
    | zero => rw [e, Nat.zero_mul, List.drop_zero, List.take_append_of_le_length (by omega), List.take_of_length_le (by omega)]; rfl
    | succ k =>
      rw [e, List.drop_append, List.drop_eq_nil_of_le (by omega), List.nil_append, hr, show (k + 1) * 6 - 6 = k * 6 by omega, ih (by simpa using hk)]
      rfl

def sideOf (x y z d : Int) : Int := if d = 0 then x else if d = 1 then y else z
/-- A coordinate of a cell behind a turn: taken from direction s, mirrored or not. -/
def turnC (x y z : Int) (c : Cell) (s f : Int) : Int := if f = 1 then sideOf x y z s - 1 - c.at s else c.at s
def mapT (x y z : Int) (t : Turn) (c : Cell) : Cell := ⟨turnC x y z c t.fr.a t.fl.a, turnC x y z c t.fr.b t.fl.b, turnC x y z c t.fr.c t.fl.c⟩
/-- The three directions, in any order. -/
def OkT (t : Turn) : Prop := Dir t.fr.a ∧ Dir t.fr.b ∧ Dir t.fr.c
instance (d : Int) : Decidable (Dir d) := by unfold Dir; exact inferInstance
instance (t : Turn) : Decidable (OkT t) := by unfold OkT; exact inferInstance
def turnHp (x y z : Int) (t : Turn) (cs : List Cell) : Hp := ⟨sideOf x y z t.fr.a, sideOf x y z t.fr.b, sideOf x y z t.fr.c, pick (sideOf x y z t.fr.a) (sideOf x y z t.fr.b) (sideOf x y z t.fr.c) fun d => decide (d ∈ cs.map (mapT x y z t))⟩
section
variable {x y z : Int}
end
end Go.Ab

/- Contracts: the reference's turns. -/
namespace Go.Ab
open Go
set_option linter.unusedSimpArgs false
set_option linter.unusedVariables false

/-- How many pairs are out of order whose greater place is before i, or i with the other one before k. -/
def oddK (c : Cell) (i k : Nat) : Int := (if (1 < i ∨ (i = 1 ∧ 0 < k)) ∧ c.a > c.b then 1 else 0) + (if (2 < i ∨ (i = 2 ∧ 0 < k)) ∧ c.a > c.c then 1 else 0) + (if (2 < i ∨ (i = 2 ∧ 1 < k)) ∧ c.b > c.c then 1 else 0)
end Go.Ab

/- Contracts: the reference's turned heaps. -/
namespace Go.Ab
open Go
set_option linter.unusedSimpArgs false
set_option linter.unusedVariables false

/-- A cell of which the first d coordinates are there. -/
def partC (c : Cell) (d : Nat) : Cell := ⟨if 0 < d then c.a else 0, if 1 < d then c.b else 0, if 2 < d then c.c else 0⟩
end Go.Ab

/- The abstract code of some functions (written by a program of mine from the translation, by way of prepF). -/
namespace Go.Ab.C
open Go.Ab
def spec_l1Least : AFn :=
  ⟨2, 10, [.tmp 4],
    .seq (.ops [(none, .mv 4 (.c (.I 0)))])
    (.seq (.seq (.ops [(none, .mv 5 (.t 0)),
         (none, .mv 6 (.t 1)),
         (none, .bin 7 .lss (.t 5) (.t 6))])
      (.cond (.t 7) (.seq (.ops [(none, .mv 8 (.t 0)),
           (none, .mv 4 (.t 8))])
        (.ret))
       (.skip)))
     (.seq (.ops [(none, .mv 9 (.t 1)),
         (none, .mv 4 (.t 9))])
      (.ret)))⟩
end Go.Ab.C

/- That the program has this code. -/
namespace Go.Ab.K
open Go Go.Ab
theorem spec_l1Least : prepF Go.Proofs.Try.prog F.spec_l1Least = some C.spec_l1Least := by kernel_rfl
end Go.Ab.K

/- Contracts: the reference's least boxes. -/
namespace Go.Ab
open Go
set_option linter.unusedSimpArgs false
set_option linter.unusedVariables false

def Small (c : Cell) : Prop := (-100 ≤ c.a ∧ c.a ≤ 100) ∧ (-100 ≤ c.b ∧ c.b ≤ 100) ∧ (-100 ≤ c.c ∧ c.c ≤ 100)
def shift (p c : Cell) : Cell := ⟨c.a + p.a, c.b + p.b, c.c + p.c⟩
def loC (c d : Cell) : Cell := ⟨min c.a d.a, min c.b d.b, min c.c d.c⟩
def hiC (c d : Cell) : Cell := ⟨max c.a d.a, max c.b d.b, max c.c d.c⟩
def lowOf (cs : List Cell) : Cell := cs.foldl loC (cs.getD 0 default)
def highOf (cs : List Cell) : Cell := cs.foldl hiC (cs.getD 0 default)
def cropHp (cs : List Cell) : Hp := ⟨(highOf cs).a - (lowOf cs).a + 1, (highOf cs).b - (lowOf cs).b + 1, (highOf cs).c - (lowOf cs).c + 1, cs.map (shift ⟨0 - (lowOf cs).a, 0 - (lowOf cs).b, 0 - (lowOf cs).c⟩)⟩
/-- The first d coordinates of one cell, the others of another one. -/
def mixC (c e : Cell) (d : Nat) : Cell := ⟨if 0 < d then e.a else c.a, if 1 < d then e.b else c.b, if 2 < d then e.c else c.c⟩
theorem h_l1Least {a b : Int} {M : Mem} : CallsTo PG F.spec_l1Least [.I a, .I b] M (.I (min a b)) M := by
  refine calls_run K.spec_l1Least rfl ?_
  simp (disch := omega) only [C.spec_l1Least, ↓SXd, SXu, slBounds, ↓sop, ↓aop, ↓reduceIte, LV.cells, AOp.dst, LV.I, LV.B, LV.U, LV.S, LV.nil, Nat.reduceEqDiff, Nat.reduceAdd, Nat.reduceMul, Nat.reduceSub, Nat.reduceLeDiff, Nat.reduceBEq, Nat.reduceDiv, Nat.reduceMod, Int.reduceToNat, Int.reduceLT, Int.reduceLE, Int.reduceAdd, Int.reduceSub, Int.reduceMul, Int.reduceEq, Int.reduceNeg, reduceCtorEq, resV, resAll, ARes.ev, LV.flat, ite_true, ite_false, exists_eq_left', exists_eq_left, keyOf, implies_true, fillC, capOf]
  refine condC_dec (fun h => ?_) (fun h => ?_)
  all_goals
    simp (disch := omega) only [↓SXd, SXu, slBounds, ↓sop, ↓aop, ↓reduceIte, LV.cells, AOp.dst, LV.I, LV.B, LV.U, LV.S, LV.nil, Nat.reduceEqDiff, Nat.reduceAdd, Nat.reduceMul, Nat.reduceSub, Nat.reduceLeDiff, Nat.reduceBEq, Nat.reduceDiv, Nat.reduceMod, Int.reduceToNat, Int.reduceLT, Int.reduceLE, Int.reduceAdd, Int.reduceSub, Int.reduceMul, Int.reduceEq, Int.reduceNeg, reduceCtorEq, resV, resAll, ARes.ev, LV.flat, ite_true, ite_false, exists_eq_left', exists_eq_left, keyOf, implies_true, fillC, capOf]
  · rw [show min a b = a by omega]; exact cmp_drop0 rfl
  · rw [show min a b = b by omega]; exact cmp_drop0 rfl

end Go.Ab

/- Contracts: pieces, both sides. -/
namespace Go.Ab
open Go
set_option linter.unusedSimpArgs false
set_option linter.unusedVariables false
set_option maxRecDepth 20000

def minC (s c : Cell) : Cell := ⟨min s.a c.a, min s.b c.b, min s.c c.c⟩
def lowC (s : Cell) (l : List Cell) : Cell := l.foldl minC s
theorem lowC_take {s : Cell} {l : List Cell} {i : Nat} (h : i < l.length) : lowC s (l.take (i + 1)) = minC (lowC s (l.take i)) (l.getD i default) := by
  unfold lowC
  rw [List.take_succ, List.getElem?_eq_getElem h, Option.toList_some, List.foldl_append]
  have e : l.getD i default = l[i] := by simp [h]
  rw [e]; rfl
/-- A piece. -/
def PieceOK (l : List Cell) : Prop := (1 ≤ l.length ∧ l.length ≤ 5) ∧ HeapOK 4 4 4 l ∧ lowC ⟨4, 4, 4⟩ l = ⟨0, 0, 0⟩
noncomputable instance (l : List Cell) : Decidable (PieceOK l) := Classical.propDecidable _
theorem sides4 : Sides 4 4 4 := by unfold Sides; omega
theorem low_first {c : Cell} {l : List Cell} (h : c.inBox 4 4 4) : lowC c (c :: l) = lowC ⟨4, 4, 4⟩ (c :: l) := by
  unfold lowC
  rw [List.foldl_cons, List.foldl_cons]
  congr 1
  obtain ⟨⟨_, _⟩, ⟨_, _⟩, ⟨_, _⟩⟩ := h
  unfold minC
  rw [cell_eq]
  simp only
  omega
theorem minC_in {s c : Cell} (hs : (0 ≤ s.a ∧ s.a ≤ 4) ∧ (0 ≤ s.b ∧ s.b ≤ 4) ∧ (0 ≤ s.c ∧ s.c ≤ 4)) (hc : c.inBox 4 4 4) : (0 ≤ (minC s c).a ∧ (minC s c).a ≤ 4) ∧ (0 ≤ (minC s c).b ∧ (minC s c).b ≤ 4) ∧ (0 ≤ (minC s c).c ∧ (minC s c).c ≤ 4) := by
  obtain ⟨⟨_, _⟩, ⟨_, _⟩, ⟨_, _⟩⟩ := hc
  unfold minC
  simp only
  omega

def minTo (s c : Cell) : Nat → Cell
  | 0 => s
  | 1 => ⟨min s.a c.a, s.b, s.c⟩
  | 2 => ⟨min s.a c.a, min s.b c.b, s.c⟩
  | _ => minC s c
theorem h_l9Piece {l : List Cell} {t o : Nat} {M : Mem} (h : Tri M t o l) (hn : l.length ≤ 1000000000) : CallsTo PG F.spec_l9Piece [.ref t o l.length] M (.B (decide (PieceOK l))) M := by
  have ht := h.lt
  refine calls_run K.spec_l9Piece rfl ?_
  simp (disch := omega) only [C.spec_l9Piece, ↓SXd, SXu, slBounds, ↓sop, ↓aop, ↓reduceIte, LV.cells, AOp.dst, LV.I, LV.B, LV.U, LV.S, LV.nil, Nat.reduceEqDiff, Nat.reduceAdd, Nat.reduceMul, Nat.reduceSub, Nat.reduceLeDiff, Nat.reduceBEq, Nat.reduceDiv, Nat.reduceMod, Int.reduceToNat, Int.reduceLT, Int.reduceLE, Int.reduceAdd, Int.reduceSub, Int.reduceMul, Int.reduceEq, Int.reduceNeg, reduceCtorEq, resV, resAll, ARes.ev, LV.flat, ite_true, ite_false, exists_eq_left', exists_eq_left, keyOf, implies_true, fillC, capOf]
  refine callK_of (h_l1In) ?_
  simp (disch := omega) only [↓SXd, SXu, slBounds, ↓sop, ↓aop, ↓reduceIte, LV.cells, AOp.dst, LV.I, LV.B, LV.U, LV.S, LV.nil, Nat.reduceEqDiff, Nat.reduceAdd, Nat.reduceMul, Nat.reduceSub, Nat.reduceLeDiff, Nat.reduceBEq, Nat.reduceDiv, Nat.reduceMod, Int.reduceToNat, Int.reduceLT, Int.reduceLE, Int.reduceAdd, Int.reduceSub, Int.reduceMul, Int.reduceEq, Int.reduceNeg, reduceCtorEq, resV, resAll, ARes.ev, LV.flat, ite_true, ite_false, exists_eq_left', exists_eq_left, keyOf, implies_true, fillC, capOf]
  by_cases hl : 1 ≤ (l.length : Int) ∧ (l.length : Int) ≤ 5
  · obtain ⟨hl1, hl2⟩ := id hl
    simp (disch := omega) only [hl, splice, ↓SXd, SXu, slBounds, ↓sop, ↓aop, ↓reduceIte, LV.cells, AOp.dst, LV.I, LV.B, LV.U, LV.S, LV.nil, Nat.reduceEqDiff, Nat.reduceAdd, Nat.reduceMul, Nat.reduceSub, Nat.reduceLeDiff, Nat.reduceBEq, Nat.reduceDiv, Nat.reduceMod, Int.reduceToNat, Int.reduceLT, Int.reduceLE, Int.reduceAdd, Int.reduceSub, Int.reduceMul, Int.reduceEq, Int.reduceNeg, reduceCtorEq, resV, resAll, ARes.ev, LV.flat, ite_true, ite_false, exists_eq_left', exists_eq_left, keyOf, implies_true, fillC, capOf]
    refine ev_loop (fun m fr M' => ∃ i : Nat, i + m = l.length ∧ Pre M M' ∧ Live M' M.length (.row [.I (lowC ⟨4, 4, 4⟩ (l.take i)).a, .I (lowC ⟨4, 4, 4⟩ (l.take i)).b, .I (lowC ⟨4, 4, 4⟩ (l.take i)).c] true 0) ∧
      (∀ j, j < i → (l.getD j default).inBox 4 4 4 ∧ (0 < j → (l.getD (j - 1) default).lt (l.getD j default))) ∧ ((0 ≤ (lowC ⟨4, 4, 4⟩ (l.take i)).a ∧ (lowC ⟨4, 4, 4⟩ (l.take i)).a ≤ 4) ∧ (0 ≤ (lowC ⟨4, 4, 4⟩ (l.take i)).b ∧ (lowC ⟨4, 4, 4⟩ (l.take i)).b ≤ 4) ∧ (0 ≤ (lowC ⟨4, 4, 4⟩ (l.take i)).c ∧ (lowC ⟨4, 4, 4⟩ (l.take i)).c ≤ 4)) ∧
      fr 0 = .ref t o l.length ∧ fr 3 = .ptr M.length 0 ∧ fr 4 = .I i) l.length
      ⟨0, by omega, Pre.app _ _, Live.new, by omega, by simp [lowC], rfl, rfl, rfl⟩ ?_
    rintro m fr M' ⟨i, hi, hpre, b3, hj, hlow, f0, f3, f4⟩
    simp (disch := omega) only [f0, f3, f4, ↓SXd, SXu, slBounds, ↓sop, ↓aop, ↓reduceIte, LV.cells, AOp.dst, LV.I, LV.B, LV.U, LV.S, LV.nil, Nat.reduceEqDiff, Nat.reduceAdd, Nat.reduceMul, Nat.reduceSub, Nat.reduceLeDiff, Nat.reduceBEq, Nat.reduceDiv, Nat.reduceMod, Int.reduceToNat, Int.reduceLT, Int.reduceLE, Int.reduceAdd, Int.reduceSub, Int.reduceMul, Int.reduceEq, Int.reduceNeg, reduceCtorEq, resV, resAll, ARes.ev, LV.flat, ite_true, ite_false, exists_eq_left', exists_eq_left, keyOf, implies_true, fillC, capOf]
    refine condC_dec (fun hlt => ?_) (fun hlt => ?_)
    · have hil : i < l.length := by omega
      have hlk := lowC_take (s := ⟨4, 4, 4⟩) hil
      have hgk := Tri.get (h.pre hpre) hil
      have ga := Tri.get_a (h.pre hpre) hil
      have gb := Tri.get_b (h.pre hpre) hil
      have gc := Tri.get_c (h.pre hpre) hil
      have hbad : ∀ P : Prop, (HeapOK 4 4 4 l → P) → PieceOK l → P := fun P h1 h2 => h1 h2.2.1
      have hbl := b3.lt
      generalize hc : l.getD i default = c at hlk hgk ga gb gc
      generalize lowC ⟨4, 4, 4⟩ (l.take i) = s at hlk b3 hlow
      simp (disch := omega) only [f0, f3, f4, ↓SXd, SXu, slBounds, ↓sop, ↓aop, ↓reduceIte, LV.cells, AOp.dst, LV.I, LV.B, LV.U, LV.S, LV.nil, Nat.reduceEqDiff, Nat.reduceAdd, Nat.reduceMul, Nat.reduceSub, Nat.reduceLeDiff, Nat.reduceBEq, Nat.reduceDiv, Nat.reduceMod, Int.reduceToNat, Int.reduceLT, Int.reduceLE, Int.reduceAdd, Int.reduceSub, Int.reduceMul, Int.reduceEq, Int.reduceNeg, reduceCtorEq, resV, resAll, ARes.ev, LV.flat, ite_true, ite_false, exists_eq_left', exists_eq_left, keyOf, implies_true, fillC, capOf]
      refine ev_loop (fun m2 fr2 M2 => ∃ k : Nat, k + m2 = 3 ∧ Pre M M2 ∧ Live M2 M.length (.row [.I (minTo s c k).a, .I (minTo s c k).b, .I (minTo s c k).c] true 0) ∧ (1 ≤ k → 0 ≤ c.a ∧ c.a ≤ 3) ∧ (2 ≤ k → 0 ≤ c.b ∧ c.b ≤ 3) ∧ (3 ≤ k → 0 ≤ c.c ∧ c.c ≤ 3) ∧
        fr2 0 = .ref t o l.length ∧ fr2 3 = .ptr M.length 0 ∧ fr2 4 = .I i ∧ fr2 5 = .I k) 3
        ⟨0, rfl, hpre, b3, by omega, by omega, by omega, f0, f3, f4, rfl⟩ ?_
      clear ga gb gc hgk
      rintro m2 fr2 M2 ⟨k, hk, p2, c3, ka, kb, kc, g0, g3, g4, g5⟩
      simp (disch := omega) only [g0, g3, g4, g5, ↓SXd, SXu, slBounds, ↓sop, ↓aop, ↓reduceIte, LV.cells, AOp.dst, LV.I, LV.B, LV.U, LV.S, LV.nil, Nat.reduceEqDiff, Nat.reduceAdd, Nat.reduceMul, Nat.reduceSub, Nat.reduceLeDiff, Nat.reduceBEq, Nat.reduceDiv, Nat.reduceMod, Int.reduceToNat, Int.reduceLT, Int.reduceLE, Int.reduceAdd, Int.reduceSub, Int.reduceMul, Int.reduceEq, Int.reduceNeg, reduceCtorEq, resV, resAll, ARes.ev, LV.flat, ite_true, ite_false, exists_eq_left', exists_eq_left, keyOf, implies_true, fillC, capOf]
      have hgk := Tri.get (h.pre p2) hil
      have ga := Tri.get_a (h.pre p2) hil
      have gb := Tri.get_b (h.pre p2) hil
      have gc := Tri.get_c (h.pre p2) hil
      rw [hc] at ga gb gc hgk
      refine condC_dec (fun hlt2 => ?_) (fun hlt2 => ?_)
      · rcases (show k = 0 ∨ k = 1 ∨ k = 2 by omega) with rfl | rfl | rfl
        · simp (disch := omega) only [g0, g3, g4, g5, ga, Nat.add_zero, ↓SXd, SXu, slBounds, ↓sop, ↓aop, ↓reduceIte, LV.cells, AOp.dst, LV.I, LV.B, LV.U, LV.S, LV.nil, Nat.reduceEqDiff, Nat.reduceAdd, Nat.reduceMul, Nat.reduceSub, Nat.reduceLeDiff, Nat.reduceBEq, Nat.reduceDiv, Nat.reduceMod, Int.reduceToNat, Int.reduceLT, Int.reduceLE, Int.reduceAdd, Int.reduceSub, Int.reduceMul, Int.reduceEq, Int.reduceNeg, reduceCtorEq, resV, resAll, ARes.ev, LV.flat, ite_true, ite_false, exists_eq_left', exists_eq_left, keyOf, implies_true, fillC, capOf]
          refine callK_of (h_l1In) ?_
          simp (disch := omega) only [g0, g3, g4, g5, ↓SXd, SXu, slBounds, ↓sop, ↓aop, ↓reduceIte, LV.cells, AOp.dst, LV.I, LV.B, LV.U, LV.S, LV.nil, Nat.reduceEqDiff, Nat.reduceAdd, Nat.reduceMul, Nat.reduceSub, Nat.reduceLeDiff, Nat.reduceBEq, Nat.reduceDiv, Nat.reduceMod, Int.reduceToNat, Int.reduceLT, Int.reduceLE, Int.reduceAdd, Int.reduceSub, Int.reduceMul, Int.reduceEq, Int.reduceNeg, reduceCtorEq, resV, resAll, ARes.ev, LV.flat, ite_true, ite_false, exists_eq_left', exists_eq_left, keyOf, implies_true, fillC, capOf]
          by_cases hv : 0 ≤ c.a ∧ c.a ≤ 3
          · rw [decide_eq_true hv]
            simp (disch := omega) only [g0, g3, g4, g5, ga, Nat.add_zero, c3.cell, ↓SXd, SXu, slBounds, ↓sop, ↓aop, ↓reduceIte, LV.cells, AOp.dst, LV.I, LV.B, LV.U, LV.S, LV.nil, Nat.reduceEqDiff, Nat.reduceAdd, Nat.reduceMul, Nat.reduceSub, Nat.reduceLeDiff, Nat.reduceBEq, Nat.reduceDiv, Nat.reduceMod, Int.reduceToNat, Int.reduceLT, Int.reduceLE, Int.reduceAdd, Int.reduceSub, Int.reduceMul, Int.reduceEq, Int.reduceNeg, reduceCtorEq, resV, resAll, ARes.ev, LV.flat, ite_true, ite_false, exists_eq_left', exists_eq_left, keyOf, implies_true, fillC, capOf]
            refine callK_of (h_l1Least) ?_
            simp (disch := omega) only [g0, g3, g4, g5, ↓SXd, SXu, slBounds, ↓sop, ↓aop, ↓reduceIte, LV.cells, AOp.dst, LV.I, LV.B, LV.U, LV.S, LV.nil, Nat.reduceEqDiff, Nat.reduceAdd, Nat.reduceMul, Nat.reduceSub, Nat.reduceLeDiff, Nat.reduceBEq, Nat.reduceDiv, Nat.reduceMod, Int.reduceToNat, Int.reduceLT, Int.reduceLE, Int.reduceAdd, Int.reduceSub, Int.reduceMul, Int.reduceEq, Int.reduceNeg, reduceCtorEq, resV, resAll, ARes.ev, LV.flat, ite_true, ite_false, exists_eq_left', exists_eq_left, keyOf, implies_true, fillC, capOf]
            refine memK_one c3 (by simp) fun N q1 q2 q3 => ?_
            simp (disch := omega) only [g0, g3, g4, g5, ↓SXd, SXu, slBounds, ↓sop, ↓aop, ↓reduceIte, LV.cells, AOp.dst, LV.I, LV.B, LV.U, LV.S, LV.nil, Nat.reduceEqDiff, Nat.reduceAdd, Nat.reduceMul, Nat.reduceSub, Nat.reduceLeDiff, Nat.reduceBEq, Nat.reduceDiv, Nat.reduceMod, Int.reduceToNat, Int.reduceLT, Int.reduceLE, Int.reduceAdd, Int.reduceSub, Int.reduceMul, Int.reduceEq, Int.reduceNeg, reduceCtorEq, resV, resAll, ARes.ev, LV.flat, ite_true, ite_false, exists_eq_left', exists_eq_left, keyOf, implies_true, fillC, capOf]
            exact ⟨m2 - 1, by omega, 1, by omega, pre_step p2 (by omega) (j := 0) q1 q3, q2, fun _ => hv, by omega, by omega, g0, g3, g4, rfl⟩
          · rw [decide_eq_false hv]
            simp (disch := omega) only [g0, g3, g4, g5, ↓SXd, SXu, slBounds, ↓sop, ↓aop, ↓reduceIte, LV.cells, AOp.dst, LV.I, LV.B, LV.U, LV.S, LV.nil, Nat.reduceEqDiff, Nat.reduceAdd, Nat.reduceMul, Nat.reduceSub, Nat.reduceLeDiff, Nat.reduceBEq, Nat.reduceDiv, Nat.reduceMod, Int.reduceToNat, Int.reduceLT, Int.reduceLE, Int.reduceAdd, Int.reduceSub, Int.reduceMul, Int.reduceEq, Int.reduceNeg, reduceCtorEq, resV, resAll, ARes.ev, LV.flat, ite_true, ite_false, exists_eq_left', exists_eq_left, keyOf, implies_true, fillC, capOf]
            rw [decide_eq_false (fun hp => hv (by have := (hp.2.1.2 i hil).1.1; rw [hc] at this; omega))]
            exact cmp_pre p2 rfl
        · simp (disch := omega) only [g0, g3, g4, g5, gb, ↓SXd, SXu, slBounds, ↓sop, ↓aop, ↓reduceIte, LV.cells, AOp.dst, LV.I, LV.B, LV.U, LV.S, LV.nil, Nat.reduceEqDiff, Nat.reduceAdd, Nat.reduceMul, Nat.reduceSub, Nat.reduceLeDiff, Nat.reduceBEq, Nat.reduceDiv, Nat.reduceMod, Int.reduceToNat, Int.reduceLT, Int.reduceLE, Int.reduceAdd, Int.reduceSub, Int.reduceMul, Int.reduceEq, Int.reduceNeg, reduceCtorEq, resV, resAll, ARes.ev, LV.flat, ite_true, ite_false, exists_eq_left', exists_eq_left, keyOf, implies_true, fillC, capOf]
          refine callK_of (h_l1In) ?_
          simp (disch := omega) only [g0, g3, g4, g5, ↓SXd, SXu, slBounds, ↓sop, ↓aop, ↓reduceIte, LV.cells, AOp.dst, LV.I, LV.B, LV.U, LV.S, LV.nil, Nat.reduceEqDiff, Nat.reduceAdd, Nat.reduceMul, Nat.reduceSub, Nat.reduceLeDiff, Nat.reduceBEq, Nat.reduceDiv, Nat.reduceMod, Int.reduceToNat, Int.reduceLT, Int.reduceLE, Int.reduceAdd, Int.reduceSub, Int.reduceMul, Int.reduceEq, Int.reduceNeg, reduceCtorEq, resV, resAll, ARes.ev, LV.flat, ite_true, ite_false, exists_eq_left', exists_eq_left, keyOf, implies_true, fillC, capOf]
          by_cases hv : 0 ≤ c.b ∧ c.b ≤ 3
          · rw [decide_eq_true hv]
            simp (disch := omega) only [g0, g3, g4, g5, gb, c3.cell, ↓SXd, SXu, slBounds, ↓sop, ↓aop, ↓reduceIte, LV.cells, AOp.dst, LV.I, LV.B, LV.U, LV.S, LV.nil, Nat.reduceEqDiff, Nat.reduceAdd, Nat.reduceMul, Nat.reduceSub, Nat.reduceLeDiff, Nat.reduceBEq, Nat.reduceDiv, Nat.reduceMod, Int.reduceToNat, Int.reduceLT, Int.reduceLE, Int.reduceAdd, Int.reduceSub, Int.reduceMul, Int.reduceEq, Int.reduceNeg, reduceCtorEq, resV, resAll, ARes.ev, LV.flat, ite_true, ite_false, exists_eq_left', exists_eq_left, keyOf, implies_true, fillC, capOf]
            refine callK_of (h_l1Least) ?_
            simp (disch := omega) only [g0, g3, g4, g5, ↓SXd, SXu, slBounds, ↓sop, ↓aop, ↓reduceIte, LV.cells, AOp.dst, LV.I, LV.B, LV.U, LV.S, LV.nil, Nat.reduceEqDiff, Nat.reduceAdd, Nat.reduceMul, Nat.reduceSub, Nat.reduceLeDiff, Nat.reduceBEq, Nat.reduceDiv, Nat.reduceMod, Int.reduceToNat, Int.reduceLT, Int.reduceLE, Int.reduceAdd, Int.reduceSub, Int.reduceMul, Int.reduceEq, Int.reduceNeg, reduceCtorEq, resV, resAll, ARes.ev, LV.flat, ite_true, ite_false, exists_eq_left', exists_eq_left, keyOf, implies_true, fillC, capOf]
            refine memK_one c3 (by simp) fun N q1 q2 q3 => ?_
            simp (disch := omega) only [g0, g3, g4, g5, ↓SXd, SXu, slBounds, ↓sop, ↓aop, ↓reduceIte, LV.cells, AOp.dst, LV.I, LV.B, LV.U, LV.S, LV.nil, Nat.reduceEqDiff, Nat.reduceAdd, Nat.reduceMul, Nat.reduceSub, Nat.reduceLeDiff, Nat.reduceBEq, Nat.reduceDiv, Nat.reduceMod, Int.reduceToNat, Int.reduceLT, Int.reduceLE, Int.reduceAdd, Int.reduceSub, Int.reduceMul, Int.reduceEq, Int.reduceNeg, reduceCtorEq, resV, resAll, ARes.ev, LV.flat, ite_true, ite_false, exists_eq_left', exists_eq_left, keyOf, implies_true, fillC, capOf]
            exact ⟨m2 - 1, by omega, 2, by omega, pre_step p2 (by omega) (j := 0) q1 q3, q2, fun _ => ka (by omega), fun _ => hv, by omega, g0, g3, g4, rfl⟩
          · rw [decide_eq_false hv]
            simp (disch := omega) only [g0, g3, g4, g5, ↓SXd, SXu, slBounds, ↓sop, ↓aop, ↓reduceIte, LV.cells, AOp.dst, LV.I, LV.B, LV.U, LV.S, LV.nil, Nat.reduceEqDiff, Nat.reduceAdd, Nat.reduceMul, Nat.reduceSub, Nat.reduceLeDiff, Nat.reduceBEq, Nat.reduceDiv, Nat.reduceMod, Int.reduceToNat, Int.reduceLT, Int.reduceLE, Int.reduceAdd, Int.reduceSub, Int.reduceMul, Int.reduceEq, Int.reduceNeg, reduceCtorEq, resV, resAll, ARes.ev, LV.flat, ite_true, ite_false, exists_eq_left', exists_eq_left, keyOf, implies_true, fillC, capOf]
            rw [decide_eq_false (fun hp => hv (by have := (hp.2.1.2 i hil).1.2.1; rw [hc] at this; omega))]
            exact cmp_pre p2 rfl
        · simp (disch := omega) only [g0, g3, g4, g5, gc, ↓SXd, SXu, slBounds, ↓sop, ↓aop, ↓reduceIte, LV.cells, AOp.dst, LV.I, LV.B, LV.U, LV.S, LV.nil, Nat.reduceEqDiff, Nat.reduceAdd, Nat.reduceMul, Nat.reduceSub, Nat.reduceLeDiff, Nat.reduceBEq, Nat.reduceDiv, Nat.reduceMod, Int.reduceToNat, Int.reduceLT, Int.reduceLE, Int.reduceAdd, Int.reduceSub, Int.reduceMul, Int.reduceEq, Int.reduceNeg, reduceCtorEq, resV, resAll, ARes.ev, LV.flat, ite_true, ite_false, exists_eq_left', exists_eq_left, keyOf, implies_true, fillC, capOf]
          refine callK_of (h_l1In) ?_
          simp (disch := omega) only [g0, g3, g4, g5, ↓SXd, SXu, slBounds, ↓sop, ↓aop, ↓reduceIte, LV.cells, AOp.dst, LV.I, LV.B, LV.U, LV.S, LV.nil, Nat.reduceEqDiff, Nat.reduceAdd, Nat.reduceMul, Nat.reduceSub, Nat.reduceLeDiff, Nat.reduceBEq, Nat.reduceDiv, Nat.reduceMod, Int.reduceToNat, Int.reduceLT, Int.reduceLE, Int.reduceAdd, Int.reduceSub, Int.reduceMul, Int.reduceEq, Int.reduceNeg, reduceCtorEq, resV, resAll, ARes.ev, LV.flat, ite_true, ite_false, exists_eq_left', exists_eq_left, keyOf, implies_true, fillC, capOf]
          by_cases hv : 0 ≤ c.c ∧ c.c ≤ 3
          · rw [decide_eq_true hv]
            simp (disch := omega) only [g0, g3, g4, g5, gc, c3.cell, ↓SXd, SXu, slBounds, ↓sop, ↓aop, ↓reduceIte, LV.cells, AOp.dst, LV.I, LV.B, LV.U, LV.S, LV.nil, Nat.reduceEqDiff, Nat.reduceAdd, Nat.reduceMul, Nat.reduceSub, Nat.reduceLeDiff, Nat.reduceBEq, Nat.reduceDiv, Nat.reduceMod, Int.reduceToNat, Int.reduceLT, Int.reduceLE, Int.reduceAdd, Int.reduceSub, Int.reduceMul, Int.reduceEq, Int.reduceNeg, reduceCtorEq, resV, resAll, ARes.ev, LV.flat, ite_true, ite_false, exists_eq_left', exists_eq_left, keyOf, implies_true, fillC, capOf]
            refine callK_of (h_l1Least) ?_
            simp (disch := omega) only [g0, g3, g4, g5, ↓SXd, SXu, slBounds, ↓sop, ↓aop, ↓reduceIte, LV.cells, AOp.dst, LV.I, LV.B, LV.U, LV.S, LV.nil, Nat.reduceEqDiff, Nat.reduceAdd, Nat.reduceMul, Nat.reduceSub, Nat.reduceLeDiff, Nat.reduceBEq, Nat.reduceDiv, Nat.reduceMod, Int.reduceToNat, Int.reduceLT, Int.reduceLE, Int.reduceAdd, Int.reduceSub, Int.reduceMul, Int.reduceEq, Int.reduceNeg, reduceCtorEq, resV, resAll, ARes.ev, LV.flat, ite_true, ite_false, exists_eq_left', exists_eq_left, keyOf, implies_true, fillC, capOf]
            refine memK_one c3 (by simp) fun N q1 q2 q3 => ?_
            simp (disch := omega) only [g0, g3, g4, g5, ↓SXd, SXu, slBounds, ↓sop, ↓aop, ↓reduceIte, LV.cells, AOp.dst, LV.I, LV.B, LV.U, LV.S, LV.nil, Nat.reduceEqDiff, Nat.reduceAdd, Nat.reduceMul, Nat.reduceSub, Nat.reduceLeDiff, Nat.reduceBEq, Nat.reduceDiv, Nat.reduceMod, Int.reduceToNat, Int.reduceLT, Int.reduceLE, Int.reduceAdd, Int.reduceSub, Int.reduceMul, Int.reduceEq, Int.reduceNeg, reduceCtorEq, resV, resAll, ARes.ev, LV.flat, ite_true, ite_false, exists_eq_left', exists_eq_left, keyOf, implies_true, fillC, capOf]
            exact ⟨m2 - 1, by omega, 3, by omega, pre_step p2 (by omega) (j := 0) q1 q3, q2, fun _ => ka (by omega), fun _ => kb (by omega), fun _ => hv, g0, g3, g4, rfl⟩
          · rw [decide_eq_false hv]
            simp (disch := omega) only [g0, g3, g4, g5, ↓SXd, SXu, slBounds, ↓sop, ↓aop, ↓reduceIte, LV.cells, AOp.dst, LV.I, LV.B, LV.U, LV.S, LV.nil, Nat.reduceEqDiff, Nat.reduceAdd, Nat.reduceMul, Nat.reduceSub, Nat.reduceLeDiff, Nat.reduceBEq, Nat.reduceDiv, Nat.reduceMod, Int.reduceToNat, Int.reduceLT, Int.reduceLE, Int.reduceAdd, Int.reduceSub, Int.reduceMul, Int.reduceEq, Int.reduceNeg, reduceCtorEq, resV, resAll, ARes.ev, LV.flat, ite_true, ite_false, exists_eq_left', exists_eq_left, keyOf, implies_true, fillC, capOf]
            rw [decide_eq_false (fun hp => hv (by have := (hp.2.1.2 i hil).1.2.2; rw [hc] at this; omega))]
            exact cmp_pre p2 rfl
      · have : k = 3 := by omega
        subst this
        have hin : c.inBox 4 4 4 := ⟨by have := ka (by omega); omega, by have := kb (by omega); omega, by have := kc (by omega); omega⟩
        have hmi := minC_in hlow hin
        rw [show minTo s c 3 = minC s c from rfl, ← hlk] at c3
        rw [← hlk] at hmi
        simp (disch := omega) only [g0, g3, g4, g5, ↓SXd, SXu, slBounds, ↓sop, ↓aop, ↓reduceIte, LV.cells, AOp.dst, LV.I, LV.B, LV.U, LV.S, LV.nil, Nat.reduceEqDiff, Nat.reduceAdd, Nat.reduceMul, Nat.reduceSub, Nat.reduceLeDiff, Nat.reduceBEq, Nat.reduceDiv, Nat.reduceMod, Int.reduceToNat, Int.reduceLT, Int.reduceLE, Int.reduceAdd, Int.reduceSub, Int.reduceMul, Int.reduceEq, Int.reduceNeg, reduceCtorEq, resV, resAll, ARes.ev, LV.flat, ite_true, ite_false, exists_eq_left', exists_eq_left, keyOf, implies_true, fillC, capOf]
        by_cases hi0 : i = 0
        · subst hi0
          have hi0' : ¬ ((0 : Int) > 0) := by omega
          simp (disch := omega) only [g0, g3, g4, g5, Int.natCast_zero, hi0', ↓SXd, SXu, slBounds, ↓sop, ↓aop, ↓reduceIte, LV.cells, AOp.dst, LV.I, LV.B, LV.U, LV.S, LV.nil, Nat.reduceEqDiff, Nat.reduceAdd, Nat.reduceMul, Nat.reduceSub, Nat.reduceLeDiff, Nat.reduceBEq, Nat.reduceDiv, Nat.reduceMod, Int.reduceToNat, Int.reduceLT, Int.reduceLE, Int.reduceAdd, Int.reduceSub, Int.reduceMul, Int.reduceEq, Int.reduceNeg, reduceCtorEq, resV, resAll, ARes.ev, LV.flat, ite_true, ite_false, exists_eq_left', exists_eq_left, keyOf, implies_true, fillC, capOf]
          exact ⟨m - 1, by omega, 1, by omega, p2, c3, fun j hj1 => by
            have : j = 0 := by omega
            subst this
            rw [hc]; exact ⟨hin, by omega⟩, hmi, g0, g3, rfl⟩
        · have hi1 : (i : Int) > 0 := by omega
          have e1 : ((i : Int) - 1).toNat = i - 1 := by omega
          have hgp := Tri.get (h.pre p2) (show i - 1 < l.length by omega)
          simp (disch := omega) only [g0, g3, g4, g5, hi1, e1, hgp, hgk, Cell.row, ↓SXd, SXu, slBounds, ↓sop, ↓aop, ↓reduceIte, LV.cells, AOp.dst, LV.I, LV.B, LV.U, LV.S, LV.nil, Nat.reduceEqDiff, Nat.reduceAdd, Nat.reduceMul, Nat.reduceSub, Nat.reduceLeDiff, Nat.reduceBEq, Nat.reduceDiv, Nat.reduceMod, Int.reduceToNat, Int.reduceLT, Int.reduceLE, Int.reduceAdd, Int.reduceSub, Int.reduceMul, Int.reduceEq, Int.reduceNeg, reduceCtorEq, resV, resAll, ARes.ev, LV.flat, ite_true, ite_false, exists_eq_left', exists_eq_left, keyOf, implies_true, fillC, capOf]
          refine callK_of (h_l2Before) ?_
          simp (disch := omega) only [g0, g3, g4, g5, cell_eta, ↓SXd, SXu, slBounds, ↓sop, ↓aop, ↓reduceIte, LV.cells, AOp.dst, LV.I, LV.B, LV.U, LV.S, LV.nil, Nat.reduceEqDiff, Nat.reduceAdd, Nat.reduceMul, Nat.reduceSub, Nat.reduceLeDiff, Nat.reduceBEq, Nat.reduceDiv, Nat.reduceMod, Int.reduceToNat, Int.reduceLT, Int.reduceLE, Int.reduceAdd, Int.reduceSub, Int.reduceMul, Int.reduceEq, Int.reduceNeg, reduceCtorEq, resV, resAll, ARes.ev, LV.flat, ite_true, ite_false, exists_eq_left', exists_eq_left, keyOf, implies_true, fillC, capOf]
          by_cases hb : (l.getD (i - 1) default).lt c
          · simp (disch := omega) only [g0, g3, g4, g5, hb, ↓SXd, SXu, slBounds, ↓sop, ↓aop, ↓reduceIte, LV.cells, AOp.dst, LV.I, LV.B, LV.U, LV.S, LV.nil, Nat.reduceEqDiff, Nat.reduceAdd, Nat.reduceMul, Nat.reduceSub, Nat.reduceLeDiff, Nat.reduceBEq, Nat.reduceDiv, Nat.reduceMod, Int.reduceToNat, Int.reduceLT, Int.reduceLE, Int.reduceAdd, Int.reduceSub, Int.reduceMul, Int.reduceEq, Int.reduceNeg, reduceCtorEq, resV, resAll, ARes.ev, LV.flat, ite_true, ite_false, exists_eq_left', exists_eq_left, keyOf, implies_true, fillC, capOf]
            exact ⟨m - 1, by omega, i + 1, by omega, p2, c3, fun j hj1 => by
              rcases Nat.lt_or_ge j i with h2 | h2
              · exact hj j h2
              · rw [show j = i by omega, hc]; exact ⟨hin, fun _ => hb⟩, hmi, g0, g3, eqI (natI _)⟩
          · simp (disch := omega) only [g0, g3, g4, g5, hb, ↓SXd, SXu, slBounds, ↓sop, ↓aop, ↓reduceIte, LV.cells, AOp.dst, LV.I, LV.B, LV.U, LV.S, LV.nil, Nat.reduceEqDiff, Nat.reduceAdd, Nat.reduceMul, Nat.reduceSub, Nat.reduceLeDiff, Nat.reduceBEq, Nat.reduceDiv, Nat.reduceMod, Int.reduceToNat, Int.reduceLT, Int.reduceLE, Int.reduceAdd, Int.reduceSub, Int.reduceMul, Int.reduceEq, Int.reduceNeg, reduceCtorEq, resV, resAll, ARes.ev, LV.flat, ite_true, ite_false, exists_eq_left', exists_eq_left, keyOf, implies_true, fillC, capOf]
            rw [decide_eq_false (fun hp => hb (by have := (hp.2.1.2 i hil).2 (by omega); rwa [hc] at this))]
            exact cmp_pre p2 rfl
    · have : i = l.length := by omega
      subst this
      rw [List.take_length] at b3
      simp (disch := omega) only [f0, f3, f4, b3.cells, eqV, eqC, if_true, ite_true, Bool.and_true, ↓SXd, SXu, slBounds, ↓sop, ↓aop, ↓reduceIte, LV.cells, AOp.dst, LV.I, LV.B, LV.U, LV.S, LV.nil, Nat.reduceEqDiff, Nat.reduceAdd, Nat.reduceMul, Nat.reduceSub, Nat.reduceLeDiff, Nat.reduceBEq, Nat.reduceDiv, Nat.reduceMod, Int.reduceToNat, Int.reduceLT, Int.reduceLE, Int.reduceAdd, Int.reduceSub, Int.reduceMul, Int.reduceEq, Int.reduceNeg, reduceCtorEq, resV, resAll, ARes.ev, LV.flat, ite_true, ite_false, exists_eq_left', exists_eq_left, keyOf, implies_true, fillC, capOf]
      have hH : HeapOK 4 4 4 l := ⟨sides4, fun k hk => hj k hk⟩
      rw [show decide (PieceOK l) = ((lowC ⟨4, 4, 4⟩ l).a == 0 && ((lowC ⟨4, 4, 4⟩ l).b == 0 && (lowC ⟨4, 4, 4⟩ l).c == 0)) by
        rw [Bool.eq_iff_iff, decide_eq_true_iff]
        unfold PieceOK
        rw [cell_eq]
        simp only [Bool.and_eq_true, beq_iff_eq]
        exact ⟨fun h => h.2.2, fun h => ⟨⟨by omega, by omega⟩, hH, h⟩⟩]
      exact cmp_pre hpre rfl
  · simp (disch := omega) only [hl, ↓SXd, SXu, slBounds, ↓sop, ↓aop, ↓reduceIte, LV.cells, AOp.dst, LV.I, LV.B, LV.U, LV.S, LV.nil, Nat.reduceEqDiff, Nat.reduceAdd, Nat.reduceMul, Nat.reduceSub, Nat.reduceLeDiff, Nat.reduceBEq, Nat.reduceDiv, Nat.reduceMod, Int.reduceToNat, Int.reduceLT, Int.reduceLE, Int.reduceAdd, Int.reduceSub, Int.reduceMul, Int.reduceEq, Int.reduceNeg, reduceCtorEq, resV, resAll, ARes.ev, LV.flat, ite_true, ite_false, exists_eq_left', exists_eq_left, keyOf, implies_true, fillC, capOf]
    rw [decide_eq_false (fun hp => hl ⟨by have := hp.1.1; omega, by have := hp.1.2; omega⟩)]
    exact cmp_pre (Pre.refl _) rfl
end Go.Ab

/- Contracts: pieces and lists of them, the program's side; lists, the reference's side. -/
namespace Go.Ab
open Go
set_option linter.unusedSimpArgs false
set_option linter.unusedVariables false
set_option maxRecDepth 20000

theorem g_allWithinLH {lo hi : Int} {xs : List Int} {t o : Nat} {M : Mem} (h : Ints M t o xs) (hn : xs.length ≤ 1000000000) : CallsTo PG F.impl_allWithin [.ref t o xs.length, .I lo, .I hi] M (.B (decide (∀ v ∈ xs, lo ≤ v ∧ v ≤ hi))) M := by
  refine calls_run K.impl_allWithin rfl ?_
  simp (disch := omega) only [C.impl_allWithin, ↓SXd, SXu, slBounds, ↓sop, ↓aop, ↓reduceIte, LV.cells, AOp.dst, LV.I, LV.B, LV.U, LV.S, LV.nil, Nat.reduceEqDiff, Nat.reduceAdd, Nat.reduceMul, Nat.reduceSub, Nat.reduceLeDiff, Nat.reduceBEq, Nat.reduceDiv, Nat.reduceMod, Int.reduceToNat, Int.reduceLT, Int.reduceLE, Int.reduceAdd, Int.reduceSub, Int.reduceMul, Int.reduceEq, Int.reduceNeg, reduceCtorEq, resV, resAll, ARes.ev, LV.flat, ite_true, ite_false, exists_eq_left', exists_eq_left, keyOf, implies_true, fillC, capOf]
  refine ev_loop (fun m fr M' => ∃ k : Nat, k + m = xs.length ∧ M' = M ∧ (∀ j, j < k → lo ≤ xs.getD j 0 ∧ xs.getD j 0 ≤ hi) ∧ fr 1 = .I lo ∧ fr 2 = .I hi ∧ fr 9 = .ref t o xs.length ∧ fr 10 = .I xs.length ∧ fr 11 = .I k) xs.length ⟨0, by omega, rfl, by omega, rfl, rfl, rfl, rfl, rfl⟩ ?_
  rintro m fr M' ⟨k, hk, rfl, hj, f1, f2, f9, f10, f11⟩
  simp (disch := omega) only [f1, f2, f9, f10, f11, ↓SXd, SXu, slBounds, ↓sop, ↓aop, ↓reduceIte, LV.cells, AOp.dst, LV.I, LV.B, LV.U, LV.S, LV.nil, Nat.reduceEqDiff, Nat.reduceAdd, Nat.reduceMul, Nat.reduceSub, Nat.reduceLeDiff, Nat.reduceBEq, Nat.reduceDiv, Nat.reduceMod, Int.reduceToNat, Int.reduceLT, Int.reduceLE, Int.reduceAdd, Int.reduceSub, Int.reduceMul, Int.reduceEq, Int.reduceNeg, reduceCtorEq, resV, resAll, ARes.ev, LV.flat, ite_true, ite_false, exists_eq_left', exists_eq_left, keyOf, implies_true, fillC, capOf]
  refine condC_dec (fun hlt => ?_) (fun hlt => ?_)
  · have hkl : k < xs.length := by omega
    have hg := Ints.get h hkl
    simp (disch := omega) only [f1, f2, f9, f10, f11, hg, Nat.mul_one, ↓SXd, SXu, slBounds, ↓sop, ↓aop, ↓reduceIte, LV.cells, AOp.dst, LV.I, LV.B, LV.U, LV.S, LV.nil, Nat.reduceEqDiff, Nat.reduceAdd, Nat.reduceMul, Nat.reduceSub, Nat.reduceLeDiff, Nat.reduceBEq, Nat.reduceDiv, Nat.reduceMod, Int.reduceToNat, Int.reduceLT, Int.reduceLE, Int.reduceAdd, Int.reduceSub, Int.reduceMul, Int.reduceEq, Int.reduceNeg, reduceCtorEq, resV, resAll, ARes.ev, LV.flat, ite_true, ite_false, exists_eq_left', exists_eq_left, keyOf, implies_true, fillC, capOf]
    refine callK_of (g_within) ?_
    simp (disch := omega) only [f1, f2, f9, f10, f11, ↓SXd, SXu, slBounds, ↓sop, ↓aop, ↓reduceIte, LV.cells, AOp.dst, LV.I, LV.B, LV.U, LV.S, LV.nil, Nat.reduceEqDiff, Nat.reduceAdd, Nat.reduceMul, Nat.reduceSub, Nat.reduceLeDiff, Nat.reduceBEq, Nat.reduceDiv, Nat.reduceMod, Int.reduceToNat, Int.reduceLT, Int.reduceLE, Int.reduceAdd, Int.reduceSub, Int.reduceMul, Int.reduceEq, Int.reduceNeg, reduceCtorEq, resV, resAll, ARes.ev, LV.flat, ite_true, ite_false, exists_eq_left', exists_eq_left, keyOf, implies_true, fillC, capOf]
    by_cases hv : lo ≤ xs.getD k 0 ∧ xs.getD k 0 ≤ hi
    · rw [decide_eq_true hv]
      simp (disch := omega) only [f1, f2, f9, f10, f11, ↓SXd, SXu, slBounds, ↓sop, ↓aop, ↓reduceIte, LV.cells, AOp.dst, LV.I, LV.B, LV.U, LV.S, LV.nil, Nat.reduceEqDiff, Nat.reduceAdd, Nat.reduceMul, Nat.reduceSub, Nat.reduceLeDiff, Nat.reduceBEq, Nat.reduceDiv, Nat.reduceMod, Int.reduceToNat, Int.reduceLT, Int.reduceLE, Int.reduceAdd, Int.reduceSub, Int.reduceMul, Int.reduceEq, Int.reduceNeg, reduceCtorEq, resV, resAll, ARes.ev, LV.flat, ite_true, ite_false, exists_eq_left', exists_eq_left, keyOf, implies_true, fillC, capOf]
      exact ⟨m - 1, by omega, k + 1, by omega, rfl, fun j hj1 => by
        rcases Nat.lt_or_ge j k with h2 | h2
        · exact hj j h2
        · rw [show j = k by omega]; exact hv, f1, f2, f9, f10, eqI (natI _)⟩
    · rw [decide_eq_false hv]
      simp (disch := omega) only [f1, f2, f9, f10, f11, ↓SXd, SXu, slBounds, ↓sop, ↓aop, ↓reduceIte, LV.cells, AOp.dst, LV.I, LV.B, LV.U, LV.S, LV.nil, Nat.reduceEqDiff, Nat.reduceAdd, Nat.reduceMul, Nat.reduceSub, Nat.reduceLeDiff, Nat.reduceBEq, Nat.reduceDiv, Nat.reduceMod, Int.reduceToNat, Int.reduceLT, Int.reduceLE, Int.reduceAdd, Int.reduceSub, Int.reduceMul, Int.reduceEq, Int.reduceNeg, reduceCtorEq, resV, resAll, ARes.ev, LV.flat, ite_true, ite_false, exists_eq_left', exists_eq_left, keyOf, implies_true, fillC, capOf]
      rw [decide_eq_false (fun e => hv (e _ (getD_mem' hkl)))]
      exact cmp_drop0 rfl
  · simp (disch := omega) only [f1, f2, f9, f10, f11, ↓SXd, SXu, slBounds, ↓sop, ↓aop, ↓reduceIte, LV.cells, AOp.dst, LV.I, LV.B, LV.U, LV.S, LV.nil, Nat.reduceEqDiff, Nat.reduceAdd, Nat.reduceMul, Nat.reduceSub, Nat.reduceLeDiff, Nat.reduceBEq, Nat.reduceDiv, Nat.reduceMod, Int.reduceToNat, Int.reduceLT, Int.reduceLE, Int.reduceAdd, Int.reduceSub, Int.reduceMul, Int.reduceEq, Int.reduceNeg, reduceCtorEq, resV, resAll, ARes.ev, LV.flat, ite_true, ite_false, exists_eq_left', exists_eq_left, keyOf, implies_true, fillC, capOf]
    have : k = xs.length := by omega
    subst this
    rw [decide_eq_true (fun v hv => by
      obtain ⟨i, hi, rfl⟩ := List.getElem_of_mem hv
      have := hj i hi
      simpa [hi] using this)]
    exact cmp_drop0 rfl

theorem g_IsPiece {l : List Cell} {t o : Nat} {M : Mem} (h : Tri M t o l) (hn : l.length ≤ 1000000000) : CallsTo PG F.impl_IsPiece [.ref t o l.length] M (.B (decide (PieceOK l))) M := by
  have ht := h.lt
  refine calls_run K.impl_IsPiece rfl ?_
  simp (disch := omega) only [C.impl_IsPiece, ↓SXd, SXu, slBounds, ↓sop, ↓aop, ↓reduceIte, LV.cells, AOp.dst, LV.I, LV.B, LV.U, LV.S, LV.nil, Nat.reduceEqDiff, Nat.reduceAdd, Nat.reduceMul, Nat.reduceSub, Nat.reduceLeDiff, Nat.reduceBEq, Nat.reduceDiv, Nat.reduceMod, Int.reduceToNat, Int.reduceLT, Int.reduceLE, Int.reduceAdd, Int.reduceSub, Int.reduceMul, Int.reduceEq, Int.reduceNeg, reduceCtorEq, resV, resAll, ARes.ev, LV.flat, ite_true, ite_false, exists_eq_left', exists_eq_left, keyOf, implies_true, fillC, capOf]
  refine callK_of (g_within) ?_
  simp (disch := omega) only [↓SXd, SXu, slBounds, ↓sop, ↓aop, ↓reduceIte, LV.cells, AOp.dst, LV.I, LV.B, LV.U, LV.S, LV.nil, Nat.reduceEqDiff, Nat.reduceAdd, Nat.reduceMul, Nat.reduceSub, Nat.reduceLeDiff, Nat.reduceBEq, Nat.reduceDiv, Nat.reduceMod, Int.reduceToNat, Int.reduceLT, Int.reduceLE, Int.reduceAdd, Int.reduceSub, Int.reduceMul, Int.reduceEq, Int.reduceNeg, reduceCtorEq, resV, resAll, ARes.ev, LV.flat, ite_true, ite_false, exists_eq_left', exists_eq_left, keyOf, implies_true, fillC, capOf]
  by_cases hl : 1 ≤ (l.length : Int) ∧ (l.length : Int) ≤ 5
  · obtain ⟨hl1, hl2⟩ := id hl
    rw [decide_eq_true hl]
    have hg0 := Tri.get h (k := 0) (by omega)
    rw [Nat.zero_mul, Nat.add_zero] at hg0
    simp (disch := omega) only [hg0, Cell.row, splice, Nat.zero_mul, Nat.add_zero, ↓SXd, SXu, slBounds, ↓sop, ↓aop, ↓reduceIte, LV.cells, AOp.dst, LV.I, LV.B, LV.U, LV.S, LV.nil, Nat.reduceEqDiff, Nat.reduceAdd, Nat.reduceMul, Nat.reduceSub, Nat.reduceLeDiff, Nat.reduceBEq, Nat.reduceDiv, Nat.reduceMod, Int.reduceToNat, Int.reduceLT, Int.reduceLE, Int.reduceAdd, Int.reduceSub, Int.reduceMul, Int.reduceEq, Int.reduceNeg, reduceCtorEq, resV, resAll, ARes.ev, LV.flat, ite_true, ite_false, exists_eq_left', exists_eq_left, keyOf, implies_true, fillC, capOf]
    refine ev_loop (fun m fr M' => ∃ i : Nat, i + m = l.length ∧ Pre M M' ∧ Live M' M.length (.row [.I (lowC (l.getD 0 default) (l.take i)).a, .I (lowC (l.getD 0 default) (l.take i)).b, .I (lowC (l.getD 0 default) (l.take i)).c] true 0) ∧
      (∀ j, j < i → (l.getD j default).inBox 4 4 4 ∧ (0 < j → (l.getD (j - 1) default).lt (l.getD j default))) ∧
      fr 0 = .ref t o l.length ∧ fr 3 = .ptr M.length 0 ∧ fr 13 = .ref t o l.length ∧ fr 14 = .I l.length ∧ fr 15 = .I i) l.length
      ⟨0, by omega, Pre.app _ _, Live.new, by omega, rfl, rfl, rfl, rfl, rfl⟩ ?_
    rintro m fr M' ⟨i, hi, hpre, b3, hj, f0, f3, f13, f14, f15⟩
    simp (disch := omega) only [f0, f3, f13, f14, f15, ↓SXd, SXu, slBounds, ↓sop, ↓aop, ↓reduceIte, LV.cells, AOp.dst, LV.I, LV.B, LV.U, LV.S, LV.nil, Nat.reduceEqDiff, Nat.reduceAdd, Nat.reduceMul, Nat.reduceSub, Nat.reduceLeDiff, Nat.reduceBEq, Nat.reduceDiv, Nat.reduceMod, Int.reduceToNat, Int.reduceLT, Int.reduceLE, Int.reduceAdd, Int.reduceSub, Int.reduceMul, Int.reduceEq, Int.reduceNeg, reduceCtorEq, resV, resAll, ARes.ev, LV.flat, ite_true, ite_false, exists_eq_left', exists_eq_left, keyOf, implies_true, fillC, capOf]
    refine condC_dec (fun hlt => ?_) (fun hlt => ?_)
    · have hil : i < l.length := by omega
      have hlk := lowC_take (s := l.getD 0 default) hil
      have hgk := Tri.get (h.pre hpre) hil
      have hbl := b3.lt
      have hMl := hpre.1
      generalize hc : l.getD i default = c at hlk hgk
      generalize lowC (l.getD 0 default) (l.take i) = s at hlk b3
      have haw := g_allWithinLH (lo := 0) (hi := 3) (xs := [c.a, c.b, c.c]) (t := M'.length) (o := 0) (M := M' ++ [some (.row [.I c.a, .I c.b, .I c.c] true 0)]) (Live.new (b := .row (intL [c.a, c.b, c.c]) true 0)).has (by simp)
      have hin : (∀ v ∈ [c.a, c.b, c.c], (0 : Int) ≤ v ∧ v ≤ 3) ↔ c.inBox 4 4 4 := by
        simp only [List.mem_cons, List.not_mem_nil, or_false, forall_eq_or_imp, forall_eq]
        unfold Cell.inBox
        constructor
        · rintro ⟨⟨_, _⟩, ⟨_, _⟩, ⟨_, _⟩⟩; omega
        · rintro ⟨⟨_, _⟩, ⟨_, _⟩, ⟨_, _⟩⟩; omega
      rw [decide_eq_decide.2 hin] at haw
      simp (disch := omega) only [f0, f3, f13, f14, f15, hgk, Cell.row, splice, Option.isSome_some, and_self, if_true, ↓SXd, SXu, slBounds, ↓sop, ↓aop, ↓reduceIte, LV.cells, AOp.dst, LV.I, LV.B, LV.U, LV.S, LV.nil, Nat.reduceEqDiff, Nat.reduceAdd, Nat.reduceMul, Nat.reduceSub, Nat.reduceLeDiff, Nat.reduceBEq, Nat.reduceDiv, Nat.reduceMod, Int.reduceToNat, Int.reduceLT, Int.reduceLE, Int.reduceAdd, Int.reduceSub, Int.reduceMul, Int.reduceEq, Int.reduceNeg, reduceCtorEq, resV, resAll, ARes.ev, LV.flat, ite_true, ite_false, exists_eq_left', exists_eq_left, keyOf, implies_true, fillC, capOf]
      refine callK_of haw ?_
      by_cases hb4 : c.inBox 4 4 4
      · rw [decide_eq_true hb4]
        by_cases hi0 : i = 0
        · subst hi0
          have hi0' : ¬ ((0 : Int) > 0) := by omega
          simp (disch := omega) only [f0, f3, f13, f14, f15, Int.natCast_zero, hi0', b3.app.cell, maxV, if_true, ite_true, splice, ↓SXd, SXu, slBounds, ↓sop, ↓aop, ↓reduceIte, LV.cells, AOp.dst, LV.I, LV.B, LV.U, LV.S, LV.nil, Nat.reduceEqDiff, Nat.reduceAdd, Nat.reduceMul, Nat.reduceSub, Nat.reduceLeDiff, Nat.reduceBEq, Nat.reduceDiv, Nat.reduceMod, Int.reduceToNat, Int.reduceLT, Int.reduceLE, Int.reduceAdd, Int.reduceSub, Int.reduceMul, Int.reduceEq, Int.reduceNeg, reduceCtorEq, resV, resAll, ARes.ev, LV.flat, ite_true, ite_false, exists_eq_left', exists_eq_left, keyOf, implies_true, fillC, capOf]
          refine memK_box b3.app rfl fun N q1 q2 q3 => ?_
          simp (disch := omega) only [f0, f3, f13, f14, f15, ↓SXd, SXu, slBounds, ↓sop, ↓aop, ↓reduceIte, LV.cells, AOp.dst, LV.I, LV.B, LV.U, LV.S, LV.nil, Nat.reduceEqDiff, Nat.reduceAdd, Nat.reduceMul, Nat.reduceSub, Nat.reduceLeDiff, Nat.reduceBEq, Nat.reduceDiv, Nat.reduceMod, Int.reduceToNat, Int.reduceLT, Int.reduceLE, Int.reduceAdd, Int.reduceSub, Int.reduceMul, Int.reduceEq, Int.reduceNeg, reduceCtorEq, resV, resAll, ARes.ev, LV.flat, ite_true, ite_false, exists_eq_left', exists_eq_left, keyOf, implies_true, fillC, capOf]
          exact ⟨m - 1, by omega, 1, by omega, pre_step hpre.app' (by omega) (j := 0) q1 q3, by rw [hlk]; exact q2, fun j hj1 => by
            have : j = 0 := by omega
            subst this
            rw [hc]; exact ⟨hb4, by omega⟩, f0, f3, f13, f14, rfl⟩
        · have hi1 : (i : Int) > 0 := by omega
          have e1 : ((i : Int) - 1).toNat = i - 1 := by omega
          have hgp := Tri.get ((h.pre hpre).app (L := [some (.row [.I c.a, .I c.b, .I c.c] true 0)])) (show i - 1 < l.length by omega)
          simp (disch := omega) only [f0, f3, f13, f14, f15, hi1, e1, hgp, Cell.row, ↓SXd, SXu, slBounds, ↓sop, ↓aop, ↓reduceIte, LV.cells, AOp.dst, LV.I, LV.B, LV.U, LV.S, LV.nil, Nat.reduceEqDiff, Nat.reduceAdd, Nat.reduceMul, Nat.reduceSub, Nat.reduceLeDiff, Nat.reduceBEq, Nat.reduceDiv, Nat.reduceMod, Int.reduceToNat, Int.reduceLT, Int.reduceLE, Int.reduceAdd, Int.reduceSub, Int.reduceMul, Int.reduceEq, Int.reduceNeg, reduceCtorEq, resV, resAll, ARes.ev, LV.flat, ite_true, ite_false, exists_eq_left', exists_eq_left, keyOf, implies_true, fillC, capOf]
          refine callK_of (g_compareCells) ?_
          simp (disch := omega) only [f0, f3, f13, f14, f15, cell_eta, ↓SXd, SXu, slBounds, ↓sop, ↓aop, ↓reduceIte, LV.cells, AOp.dst, LV.I, LV.B, LV.U, LV.S, LV.nil, Nat.reduceEqDiff, Nat.reduceAdd, Nat.reduceMul, Nat.reduceSub, Nat.reduceLeDiff, Nat.reduceBEq, Nat.reduceDiv, Nat.reduceMod, Int.reduceToNat, Int.reduceLT, Int.reduceLE, Int.reduceAdd, Int.reduceSub, Int.reduceMul, Int.reduceEq, Int.reduceNeg, reduceCtorEq, resV, resAll, ARes.ev, LV.flat, ite_true, ite_false, exists_eq_left', exists_eq_left, keyOf, implies_true, fillC, capOf]
          by_cases hb : (l.getD (i - 1) default).lt c
          · have hb' : ¬ 0 ≤ cmpL [(l.getD (i - 1) default).a, (l.getD (i - 1) default).b, (l.getD (i - 1) default).c] [c.a, c.b, c.c] := fun e => (cmpL_lt.1 e) hb
            simp (disch := omega) only [f0, f3, f13, f14, f15, hb', b3.app.cell, maxV, if_true, ite_true, splice, ge_iff_le, ↓SXd, SXu, slBounds, ↓sop, ↓aop, ↓reduceIte, LV.cells, AOp.dst, LV.I, LV.B, LV.U, LV.S, LV.nil, Nat.reduceEqDiff, Nat.reduceAdd, Nat.reduceMul, Nat.reduceSub, Nat.reduceLeDiff, Nat.reduceBEq, Nat.reduceDiv, Nat.reduceMod, Int.reduceToNat, Int.reduceLT, Int.reduceLE, Int.reduceAdd, Int.reduceSub, Int.reduceMul, Int.reduceEq, Int.reduceNeg, reduceCtorEq, resV, resAll, ARes.ev, LV.flat, ite_true, ite_false, exists_eq_left', exists_eq_left, keyOf, implies_true, fillC, capOf]
            refine memK_box b3.app rfl fun N q1 q2 q3 => ?_
            simp (disch := omega) only [f0, f3, f13, f14, f15, ↓SXd, SXu, slBounds, ↓sop, ↓aop, ↓reduceIte, LV.cells, AOp.dst, LV.I, LV.B, LV.U, LV.S, LV.nil, Nat.reduceEqDiff, Nat.reduceAdd, Nat.reduceMul, Nat.reduceSub, Nat.reduceLeDiff, Nat.reduceBEq, Nat.reduceDiv, Nat.reduceMod, Int.reduceToNat, Int.reduceLT, Int.reduceLE, Int.reduceAdd, Int.reduceSub, Int.reduceMul, Int.reduceEq, Int.reduceNeg, reduceCtorEq, resV, resAll, ARes.ev, LV.flat, ite_true, ite_false, exists_eq_left', exists_eq_left, keyOf, implies_true, fillC, capOf]
            exact ⟨m - 1, by omega, i + 1, by omega, pre_step hpre.app' (by omega) (j := 0) q1 q3, by rw [hlk]; exact q2, fun j hj1 => by
              rcases Nat.lt_or_ge j i with h2 | h2
              · exact hj j h2
              · rw [show j = i by omega, hc]; exact ⟨hb4, fun _ => hb⟩, f0, f3, f13, f14, eqI (natI _)⟩
          · have hb' : 0 ≤ cmpL [(l.getD (i - 1) default).a, (l.getD (i - 1) default).b, (l.getD (i - 1) default).c] [c.a, c.b, c.c] := cmpL_lt.2 hb
            simp (disch := omega) only [f0, f3, f13, f14, f15, hb', ge_iff_le, ↓SXd, SXu, slBounds, ↓sop, ↓aop, ↓reduceIte, LV.cells, AOp.dst, LV.I, LV.B, LV.U, LV.S, LV.nil, Nat.reduceEqDiff, Nat.reduceAdd, Nat.reduceMul, Nat.reduceSub, Nat.reduceLeDiff, Nat.reduceBEq, Nat.reduceDiv, Nat.reduceMod, Int.reduceToNat, Int.reduceLT, Int.reduceLE, Int.reduceAdd, Int.reduceSub, Int.reduceMul, Int.reduceEq, Int.reduceNeg, reduceCtorEq, resV, resAll, ARes.ev, LV.flat, ite_true, ite_false, exists_eq_left', exists_eq_left, keyOf, implies_true, fillC, capOf]
            rw [decide_eq_false (fun hp => hb (by have := (hp.2.1.2 i hil).2 (by omega); rwa [hc] at this))]
            exact cmp_pre hpre.app' rfl
      · rw [decide_eq_false hb4]
        simp (disch := omega) only [f0, f3, f13, f14, f15, ↓SXd, SXu, slBounds, ↓sop, ↓aop, ↓reduceIte, LV.cells, AOp.dst, LV.I, LV.B, LV.U, LV.S, LV.nil, Nat.reduceEqDiff, Nat.reduceAdd, Nat.reduceMul, Nat.reduceSub, Nat.reduceLeDiff, Nat.reduceBEq, Nat.reduceDiv, Nat.reduceMod, Int.reduceToNat, Int.reduceLT, Int.reduceLE, Int.reduceAdd, Int.reduceSub, Int.reduceMul, Int.reduceEq, Int.reduceNeg, reduceCtorEq, resV, resAll, ARes.ev, LV.flat, ite_true, ite_false, exists_eq_left', exists_eq_left, keyOf, implies_true, fillC, capOf]
        rw [decide_eq_false (fun hp => hb4 (by have := (hp.2.1.2 i hil).1; rwa [hc] at this))]
        exact cmp_pre hpre.app' rfl
    · have : i = l.length := by omega
      subst this
      rw [List.take_length] at b3
      have hH : HeapOK 4 4 4 l := ⟨sides4, fun k hk => hj k hk⟩
      have hlow : lowC (l.getD 0 default) l = lowC ⟨4, 4, 4⟩ l := by
        cases l with
        | nil => simp at hl1
        | cons c l => exact low_first (hj 0 (by simp)).1
      rw [hlow] at b3
      simp (disch := omega) only [f0, f3, f13, f14, f15, b3.cells, eqV, eqC, if_true, ite_true, Bool.and_true, ↓SXd, SXu, slBounds, ↓sop, ↓aop, ↓reduceIte, LV.cells, AOp.dst, LV.I, LV.B, LV.U, LV.S, LV.nil, Nat.reduceEqDiff, Nat.reduceAdd, Nat.reduceMul, Nat.reduceSub, Nat.reduceLeDiff, Nat.reduceBEq, Nat.reduceDiv, Nat.reduceMod, Int.reduceToNat, Int.reduceLT, Int.reduceLE, Int.reduceAdd, Int.reduceSub, Int.reduceMul, Int.reduceEq, Int.reduceNeg, reduceCtorEq, resV, resAll, ARes.ev, LV.flat, ite_true, ite_false, exists_eq_left', exists_eq_left, keyOf, implies_true, fillC, capOf]
      rw [show decide (PieceOK l) = ((lowC ⟨4, 4, 4⟩ l).a == 0 && ((lowC ⟨4, 4, 4⟩ l).b == 0 && (lowC ⟨4, 4, 4⟩ l).c == 0)) by
        rw [Bool.eq_iff_iff, decide_eq_true_iff]
        unfold PieceOK
        rw [cell_eq]
        simp only [Bool.and_eq_true, beq_iff_eq]
        exact ⟨fun h => h.2.2, fun h => ⟨⟨by omega, by omega⟩, hH, h⟩⟩]
      exact cmp_pre hpre rfl
  · rw [decide_eq_false hl]
    simp (disch := omega) only [↓SXd, SXu, slBounds, ↓sop, ↓aop, ↓reduceIte, LV.cells, AOp.dst, LV.I, LV.B, LV.U, LV.S, LV.nil, Nat.reduceEqDiff, Nat.reduceAdd, Nat.reduceMul, Nat.reduceSub, Nat.reduceLeDiff, Nat.reduceBEq, Nat.reduceDiv, Nat.reduceMod, Int.reduceToNat, Int.reduceLT, Int.reduceLE, Int.reduceAdd, Int.reduceSub, Int.reduceMul, Int.reduceEq, Int.reduceNeg, reduceCtorEq, resV, resAll, ARes.ev, LV.flat, ite_true, ite_false, exists_eq_left', exists_eq_left, keyOf, implies_true, fillC, capOf]
    rw [decide_eq_false (fun hp => hl ⟨by have := hp.1.1; omega, by have := hp.1.2; omega⟩)]
    exact cmp_pre (Pre.refl _) rfl

/-- A valid heap and a valid list of pieces. -/
def PcsOK (L : List (List Cell)) : Prop := ∀ l ∈ L, PieceOK l
def AskOK (x y z : Int) (cs : List Cell) (L : List (List Cell)) : Prop := PcsOK L ∧ HeapOK x y z cs ∧ L.length ≤ 8
noncomputable instance (L : List (List Cell)) : Decidable (PcsOK L) := Classical.propDecidable _
noncomputable instance (x y z : Int) (cs : List Cell) (L : List (List Cell)) : Decidable (AskOK x y z cs L) := Classical.propDecidable _
theorem pcs_of {L : List (List Cell)} (h : ∀ j, j < L.length → PieceOK (L.getD j [])) : PcsOK L := fun l hl => by
  obtain ⟨i, hi, rfl⟩ := List.getElem_of_mem hl
  have := h i hi
  simpa [hi] using this
section
variable {x y z : Int} {t o u : Nat} {cs : List Cell} {L : List (List Cell)} {M : Mem} (hP : Pcs M u L) (hL : L.length ≤ 1000000000) (hLs : ∀ l ∈ L, l.length ≤ 1000000000)
include hP hL hLs
theorem g_indexPcs : CallsR PG F.slices_IndexFunc_SSA3int_SA3int [.ref u 0 L.length, .clo F.impl_isPacked_1 []] M fun v N => N = M ∧ ∃ k : Int, v = .I k ∧ (0 ≤ k ↔ ¬ PcsOK L) := by
  refine callsR_run K.slices_IndexFunc_SSA3int_SA3int rfl ?_
  simp (disch := omega) only [C.slices_IndexFunc_SSA3int_SA3int, ↓SXd, SXu, slBounds, ↓sop, ↓aop, ↓reduceIte, LV.cells, AOp.dst, LV.I, LV.B, LV.U, LV.S, LV.nil, Nat.reduceEqDiff, Nat.reduceAdd, Nat.reduceMul, Nat.reduceSub, Nat.reduceLeDiff, Nat.reduceBEq, Nat.reduceDiv, Nat.reduceMod, Int.reduceToNat, Int.reduceLT, Int.reduceLE, Int.reduceAdd, Int.reduceSub, Int.reduceMul, Int.reduceEq, Int.reduceNeg, reduceCtorEq, resV, resAll, ARes.ev, LV.flat, ite_true, ite_false, exists_eq_left', exists_eq_left, keyOf, implies_true, fillC, capOf]
  refine ev_loop (fun m fr M' => ∃ i : Nat, i + m = L.length ∧ M' = M ∧ (∀ j, j < i → PieceOK (L.getD j [])) ∧ fr 0 = .ref u 0 L.length ∧ fr 1 = .clo F.impl_isPacked_1 [] ∧ fr 7 = .I L.length ∧ fr 8 = .I i) L.length
    ⟨0, by omega, rfl, by omega, rfl, rfl, rfl, rfl⟩ ?_
  rintro m fr M' ⟨i, hi, rfl, hj, f0, f1, f7, f8⟩
  simp (disch := omega) only [f0, f1, f7, f8, ↓SXd, SXu, slBounds, ↓sop, ↓aop, ↓reduceIte, LV.cells, AOp.dst, LV.I, LV.B, LV.U, LV.S, LV.nil, Nat.reduceEqDiff, Nat.reduceAdd, Nat.reduceMul, Nat.reduceSub, Nat.reduceLeDiff, Nat.reduceBEq, Nat.reduceDiv, Nat.reduceMod, Int.reduceToNat, Int.reduceLT, Int.reduceLE, Int.reduceAdd, Int.reduceSub, Int.reduceMul, Int.reduceEq, Int.reduceNeg, reduceCtorEq, resV, resAll, ARes.ev, LV.flat, ite_true, ite_false, exists_eq_left', exists_eq_left, keyOf, implies_true, fillC, capOf]
  refine condC_dec (fun hlt => ?_) (fun hlt => ?_)
  · have hil : i < L.length := by omega
    obtain ⟨v, o', hg, hT⟩ := hP.get hil
    have hm := hLs _ (getD_mem' (d := []) hil)
    have hcl : CallsTo PG F.impl_isPacked_1 [.ref v o' (L.getD i []).length] M' (.B (!decide (PieceOK (L.getD i [])))) M' := by
      refine calls_run K.impl_isPacked_1 rfl ?_
      simp (disch := omega) only [C.impl_isPacked_1, ↓SXd, SXu, slBounds, ↓sop, ↓aop, ↓reduceIte, LV.cells, AOp.dst, LV.I, LV.B, LV.U, LV.S, LV.nil, Nat.reduceEqDiff, Nat.reduceAdd, Nat.reduceMul, Nat.reduceSub, Nat.reduceLeDiff, Nat.reduceBEq, Nat.reduceDiv, Nat.reduceMod, Int.reduceToNat, Int.reduceLT, Int.reduceLE, Int.reduceAdd, Int.reduceSub, Int.reduceMul, Int.reduceEq, Int.reduceNeg, reduceCtorEq, resV, resAll, ARes.ev, LV.flat, ite_true, ite_false, exists_eq_left', exists_eq_left, keyOf, implies_true, fillC, capOf]
      refine callK_of (g_IsPiece hT hm) ?_
      simp (disch := omega) only [↓SXd, SXu, slBounds, ↓sop, ↓aop, ↓reduceIte, LV.cells, AOp.dst, LV.I, LV.B, LV.U, LV.S, LV.nil, Nat.reduceEqDiff, Nat.reduceAdd, Nat.reduceMul, Nat.reduceSub, Nat.reduceLeDiff, Nat.reduceBEq, Nat.reduceDiv, Nat.reduceMod, Int.reduceToNat, Int.reduceLT, Int.reduceLE, Int.reduceAdd, Int.reduceSub, Int.reduceMul, Int.reduceEq, Int.reduceNeg, reduceCtorEq, resV, resAll, ARes.ev, LV.flat, ite_true, ite_false, exists_eq_left', exists_eq_left, keyOf, implies_true, fillC, capOf]
      exact cmp_drop0 rfl
    simp (disch := omega) only [f0, f1, f7, f8, hg, Nat.mul_one, List.map_nil, List.append_nil, ↓SXd, SXu, slBounds, ↓sop, ↓aop, ↓reduceIte, LV.cells, AOp.dst, LV.I, LV.B, LV.U, LV.S, LV.nil, Nat.reduceEqDiff, Nat.reduceAdd, Nat.reduceMul, Nat.reduceSub, Nat.reduceLeDiff, Nat.reduceBEq, Nat.reduceDiv, Nat.reduceMod, Int.reduceToNat, Int.reduceLT, Int.reduceLE, Int.reduceAdd, Int.reduceSub, Int.reduceMul, Int.reduceEq, Int.reduceNeg, reduceCtorEq, resV, resAll, ARes.ev, LV.flat, ite_true, ite_false, exists_eq_left', exists_eq_left, keyOf, implies_true, fillC, capOf]
    refine callK_of hcl ?_
    by_cases hp : PieceOK (L.getD i [])
    · rw [decide_eq_true hp]
      simp (disch := omega) only [f0, f1, f7, f8, ↓SXd, SXu, slBounds, ↓sop, ↓aop, ↓reduceIte, LV.cells, AOp.dst, LV.I, LV.B, LV.U, LV.S, LV.nil, Nat.reduceEqDiff, Nat.reduceAdd, Nat.reduceMul, Nat.reduceSub, Nat.reduceLeDiff, Nat.reduceBEq, Nat.reduceDiv, Nat.reduceMod, Int.reduceToNat, Int.reduceLT, Int.reduceLE, Int.reduceAdd, Int.reduceSub, Int.reduceMul, Int.reduceEq, Int.reduceNeg, reduceCtorEq, resV, resAll, ARes.ev, LV.flat, ite_true, ite_false, exists_eq_left', exists_eq_left, keyOf, implies_true, fillC, capOf]
      exact ⟨m - 1, by omega, i + 1, by omega, rfl, fun j hj1 => by
        rcases Nat.lt_or_ge j i with h2 | h2
        · exact hj j h2
        · rw [show j = i by omega]; exact hp, f0, f1, f7, eqI (natI _)⟩
    · rw [decide_eq_false hp]
      simp (disch := omega) only [f0, f1, f7, f8, ↓SXd, SXu, slBounds, ↓sop, ↓aop, ↓reduceIte, LV.cells, AOp.dst, LV.I, LV.B, LV.U, LV.S, LV.nil, Nat.reduceEqDiff, Nat.reduceAdd, Nat.reduceMul, Nat.reduceSub, Nat.reduceLeDiff, Nat.reduceBEq, Nat.reduceDiv, Nat.reduceMod, Int.reduceToNat, Int.reduceLT, Int.reduceLE, Int.reduceAdd, Int.reduceSub, Int.reduceMul, Int.reduceEq, Int.reduceNeg, reduceCtorEq, resV, resAll, ARes.ev, LV.flat, ite_true, ite_false, exists_eq_left', exists_eq_left, keyOf, implies_true, fillC, capOf]
      exact ⟨rfl, i, rfl, ⟨fun _ h => hp (h _ (getD_mem' hil)), fun _ => by omega⟩⟩
  · simp (disch := omega) only [f0, f1, f7, f8, ↓SXd, SXu, slBounds, ↓sop, ↓aop, ↓reduceIte, LV.cells, AOp.dst, LV.I, LV.B, LV.U, LV.S, LV.nil, Nat.reduceEqDiff, Nat.reduceAdd, Nat.reduceMul, Nat.reduceSub, Nat.reduceLeDiff, Nat.reduceBEq, Nat.reduceDiv, Nat.reduceMod, Int.reduceToNat, Int.reduceLT, Int.reduceLE, Int.reduceAdd, Int.reduceSub, Int.reduceMul, Int.reduceEq, Int.reduceNeg, reduceCtorEq, resV, resAll, ARes.ev, LV.flat, ite_true, ite_false, exists_eq_left', exists_eq_left, keyOf, implies_true, fillC, capOf]
    have : i = L.length := by omega
    subst this
    exact ⟨rfl, -1, rfl, ⟨fun h => by omega, fun h => absurd (pcs_of hj) h⟩⟩
theorem g_arePacked (h : Tri M t o cs) (hn : cs.length ≤ 1000000000) : CallsTo PG F.impl_arePacked [.agg [.I x, .I y, .I z, .ref t o cs.length], .ref u 0 L.length] M (.B (decide (AskOK x y z cs L))) M := by
  have hcon : ∀ M', Pre M M' → CallsTo PG F.impl_isPacked [.agg [.I x, .I y, .I z, .ref t o cs.length], .ref u 0 L.length] M' (.B (decide (HeapOK x y z cs ∧ PcsOK L))) M' := fun M' hp => by
    refine calls_run K.impl_isPacked rfl ?_
    simp (disch := omega) only [C.impl_isPacked, ↓SXd, SXu, slBounds, ↓sop, ↓aop, ↓reduceIte, LV.cells, AOp.dst, LV.I, LV.B, LV.U, LV.S, LV.nil, Nat.reduceEqDiff, Nat.reduceAdd, Nat.reduceMul, Nat.reduceSub, Nat.reduceLeDiff, Nat.reduceBEq, Nat.reduceDiv, Nat.reduceMod, Int.reduceToNat, Int.reduceLT, Int.reduceLE, Int.reduceAdd, Int.reduceSub, Int.reduceMul, Int.reduceEq, Int.reduceNeg, reduceCtorEq, resV, resAll, ARes.ev, LV.flat, ite_true, ite_false, exists_eq_left', exists_eq_left, keyOf, implies_true, fillC, capOf]
    refine callK_of (g_IsHeap (h.pre hp).app hn) ?_
    simp (disch := omega) only [↓SXd, SXu, slBounds, ↓sop, ↓aop, ↓reduceIte, LV.cells, AOp.dst, LV.I, LV.B, LV.U, LV.S, LV.nil, Nat.reduceEqDiff, Nat.reduceAdd, Nat.reduceMul, Nat.reduceSub, Nat.reduceLeDiff, Nat.reduceBEq, Nat.reduceDiv, Nat.reduceMod, Int.reduceToNat, Int.reduceLT, Int.reduceLE, Int.reduceAdd, Int.reduceSub, Int.reduceMul, Int.reduceEq, Int.reduceNeg, reduceCtorEq, resV, resAll, ARes.ev, LV.flat, ite_true, ite_false, exists_eq_left', exists_eq_left, keyOf, implies_true, fillC, capOf]
    by_cases hH : HeapOK x y z cs
    · rw [decide_eq_true hH]
      simp (disch := omega) only [↓SXd, SXu, slBounds, ↓sop, ↓aop, ↓reduceIte, LV.cells, AOp.dst, LV.I, LV.B, LV.U, LV.S, LV.nil, Nat.reduceEqDiff, Nat.reduceAdd, Nat.reduceMul, Nat.reduceSub, Nat.reduceLeDiff, Nat.reduceBEq, Nat.reduceDiv, Nat.reduceMod, Int.reduceToNat, Int.reduceLT, Int.reduceLE, Int.reduceAdd, Int.reduceSub, Int.reduceMul, Int.reduceEq, Int.reduceNeg, reduceCtorEq, resV, resAll, ARes.ev, LV.flat, ite_true, ite_false, exists_eq_left', exists_eq_left, keyOf, implies_true, fillC, capOf]
      have hcf : CallsR PG F.slices_ContainsFunc_SSA3int_SA3int [.ref u 0 L.length, .clo F.impl_isPacked_1 []] (M' ++ [some (.row [.I x, .I y, .I z, .ref t o cs.length] true 0)]) fun v N => N = M' ++ [some (.row [.I x, .I y, .I z, .ref t o cs.length] true 0)] ∧ v = .B (!decide (PcsOK L)) := by
        refine callsR_run K.slices_ContainsFunc_SSA3int_SA3int rfl ?_
        simp (disch := omega) only [C.slices_ContainsFunc_SSA3int_SA3int, ↓SXd, SXu, slBounds, ↓sop, ↓aop, ↓reduceIte, LV.cells, AOp.dst, LV.I, LV.B, LV.U, LV.S, LV.nil, Nat.reduceEqDiff, Nat.reduceAdd, Nat.reduceMul, Nat.reduceSub, Nat.reduceLeDiff, Nat.reduceBEq, Nat.reduceDiv, Nat.reduceMod, Int.reduceToNat, Int.reduceLT, Int.reduceLE, Int.reduceAdd, Int.reduceSub, Int.reduceMul, Int.reduceEq, Int.reduceNeg, reduceCtorEq, resV, resAll, ARes.ev, LV.flat, ite_true, ite_false, exists_eq_left', exists_eq_left, keyOf, implies_true, fillC, capOf]
        refine callR_of (g_indexPcs (hP.pre hp).app hL hLs) ?_
        rintro _ N ⟨rfl, k, rfl, hk⟩
        simp (disch := omega) only [ge_iff_le, ↓SXd, SXu, slBounds, ↓sop, ↓aop, ↓reduceIte, LV.cells, AOp.dst, LV.I, LV.B, LV.U, LV.S, LV.nil, Nat.reduceEqDiff, Nat.reduceAdd, Nat.reduceMul, Nat.reduceSub, Nat.reduceLeDiff, Nat.reduceBEq, Nat.reduceDiv, Nat.reduceMod, Int.reduceToNat, Int.reduceLT, Int.reduceLE, Int.reduceAdd, Int.reduceSub, Int.reduceMul, Int.reduceEq, Int.reduceNeg, reduceCtorEq, resV, resAll, ARes.ev, LV.flat, ite_true, ite_false, exists_eq_left', exists_eq_left, keyOf, implies_true, fillC, capOf]
        refine ⟨rfl, eqB ?_⟩
        by_cases h0 : 0 ≤ k
        · rw [decide_eq_true h0, decide_eq_false (hk.1 h0)]; rfl
        · rw [decide_eq_false h0, decide_eq_true (Classical.byContradiction fun h => h0 (hk.2 h))]; rfl
      refine callR_of hcf ?_
      rintro _ N ⟨rfl, rfl⟩
      simp (disch := omega) only [↓SXd, SXu, slBounds, ↓sop, ↓aop, ↓reduceIte, LV.cells, AOp.dst, LV.I, LV.B, LV.U, LV.S, LV.nil, Nat.reduceEqDiff, Nat.reduceAdd, Nat.reduceMul, Nat.reduceSub, Nat.reduceLeDiff, Nat.reduceBEq, Nat.reduceDiv, Nat.reduceMod, Int.reduceToNat, Int.reduceLT, Int.reduceLE, Int.reduceAdd, Int.reduceSub, Int.reduceMul, Int.reduceEq, Int.reduceNeg, reduceCtorEq, resV, resAll, ARes.ev, LV.flat, ite_true, ite_false, exists_eq_left', exists_eq_left, keyOf, implies_true, fillC, capOf]
      rw [Bool.not_not, show decide (HeapOK x y z cs ∧ PcsOK L) = decide (PcsOK L) from decide_eq_decide.2 ⟨fun h => h.2, fun h => ⟨hH, h⟩⟩]
      exact cmp_drop rfl
    · rw [decide_eq_false hH]
      simp (disch := omega) only [↓SXd, SXu, slBounds, ↓sop, ↓aop, ↓reduceIte, LV.cells, AOp.dst, LV.I, LV.B, LV.U, LV.S, LV.nil, Nat.reduceEqDiff, Nat.reduceAdd, Nat.reduceMul, Nat.reduceSub, Nat.reduceLeDiff, Nat.reduceBEq, Nat.reduceDiv, Nat.reduceMod, Int.reduceToNat, Int.reduceLT, Int.reduceLE, Int.reduceAdd, Int.reduceSub, Int.reduceMul, Int.reduceEq, Int.reduceNeg, reduceCtorEq, resV, resAll, ARes.ev, LV.flat, ite_true, ite_false, exists_eq_left', exists_eq_left, keyOf, implies_true, fillC, capOf]
      rw [decide_eq_false (fun h => hH h.1)]
      exact cmp_drop rfl
  refine calls_run K.impl_arePacked rfl ?_
  simp (disch := omega) only [C.impl_arePacked, ↓SXd, SXu, slBounds, ↓sop, ↓aop, ↓reduceIte, LV.cells, AOp.dst, LV.I, LV.B, LV.U, LV.S, LV.nil, Nat.reduceEqDiff, Nat.reduceAdd, Nat.reduceMul, Nat.reduceSub, Nat.reduceLeDiff, Nat.reduceBEq, Nat.reduceDiv, Nat.reduceMod, Int.reduceToNat, Int.reduceLT, Int.reduceLE, Int.reduceAdd, Int.reduceSub, Int.reduceMul, Int.reduceEq, Int.reduceNeg, reduceCtorEq, resV, resAll, ARes.ev, LV.flat, ite_true, ite_false, exists_eq_left', exists_eq_left, keyOf, implies_true, fillC, capOf]
  refine callK_of (hcon _ (Pre.app _ _)) ?_
  by_cases hb : HeapOK x y z cs ∧ PcsOK L
  · rw [decide_eq_true hb]
    simp (disch := omega) only [↓SXd, SXu, slBounds, ↓sop, ↓aop, ↓reduceIte, LV.cells, AOp.dst, LV.I, LV.B, LV.U, LV.S, LV.nil, Nat.reduceEqDiff, Nat.reduceAdd, Nat.reduceMul, Nat.reduceSub, Nat.reduceLeDiff, Nat.reduceBEq, Nat.reduceDiv, Nat.reduceMod, Int.reduceToNat, Int.reduceLT, Int.reduceLE, Int.reduceAdd, Int.reduceSub, Int.reduceMul, Int.reduceEq, Int.reduceNeg, reduceCtorEq, resV, resAll, ARes.ev, LV.flat, ite_true, ite_false, exists_eq_left', exists_eq_left, keyOf, implies_true, fillC, capOf]
    rw [show decide ((L.length : Int) ≤ 8) = decide (AskOK x y z cs L) from decide_eq_decide.2 ⟨fun h => ⟨hb.2, hb.1, by omega⟩, fun h => by have := h.2.2; omega⟩]
    exact cmp_drop rfl
  · rw [decide_eq_false hb]
    simp (disch := omega) only [↓SXd, SXu, slBounds, ↓sop, ↓aop, ↓reduceIte, LV.cells, AOp.dst, LV.I, LV.B, LV.U, LV.S, LV.nil, Nat.reduceEqDiff, Nat.reduceAdd, Nat.reduceMul, Nat.reduceSub, Nat.reduceLeDiff, Nat.reduceBEq, Nat.reduceDiv, Nat.reduceMod, Int.reduceToNat, Int.reduceLT, Int.reduceLE, Int.reduceAdd, Int.reduceSub, Int.reduceMul, Int.reduceEq, Int.reduceNeg, reduceCtorEq, resV, resAll, ARes.ev, LV.flat, ite_true, ite_false, exists_eq_left', exists_eq_left, keyOf, implies_true, fillC, capOf]
    rw [decide_eq_false (fun h => hb ⟨h.2.1, h.1⟩)]
    exact cmp_drop rfl
theorem h_l9Ask (h : Tri M t o cs) (hn : cs.length ≤ 1000000000) : CallsTo PG F.spec_l9Ask [.agg [.I x, .I y, .I z, .ref t o cs.length], .ref u 0 L.length] M (.B (decide (AskOK x y z cs L))) M := by
  have ht := h.lt
  refine calls_run K.spec_l9Ask rfl ?_
  simp (disch := omega) only [C.spec_l9Ask, ↓SXd, SXu, slBounds, ↓sop, ↓aop, ↓reduceIte, LV.cells, AOp.dst, LV.I, LV.B, LV.U, LV.S, LV.nil, Nat.reduceEqDiff, Nat.reduceAdd, Nat.reduceMul, Nat.reduceSub, Nat.reduceLeDiff, Nat.reduceBEq, Nat.reduceDiv, Nat.reduceMod, Int.reduceToNat, Int.reduceLT, Int.reduceLE, Int.reduceAdd, Int.reduceSub, Int.reduceMul, Int.reduceEq, Int.reduceNeg, reduceCtorEq, resV, resAll, ARes.ev, LV.flat, ite_true, ite_false, exists_eq_left', exists_eq_left, keyOf, implies_true, fillC, capOf]
  refine ev_loop (fun m fr M' => ∃ i : Nat, i + m = L.length ∧ M' = M ++ [some (.row [.I x, .I y, .I z, .ref t o cs.length] true 0)] ∧ (∀ j, j < i → PieceOK (L.getD j [])) ∧ fr 1 = .ref u 0 L.length ∧ fr 2 = .ptr M.length 0 ∧ fr 5 = .I i) L.length
    ⟨0, by omega, rfl, by omega, rfl, rfl, rfl⟩ ?_
  rintro m fr M' ⟨i, hi, rfl, hj, f1, f2, f5⟩
  simp (disch := omega) only [f1, f2, f5, ↓SXd, SXu, slBounds, ↓sop, ↓aop, ↓reduceIte, LV.cells, AOp.dst, LV.I, LV.B, LV.U, LV.S, LV.nil, Nat.reduceEqDiff, Nat.reduceAdd, Nat.reduceMul, Nat.reduceSub, Nat.reduceLeDiff, Nat.reduceBEq, Nat.reduceDiv, Nat.reduceMod, Int.reduceToNat, Int.reduceLT, Int.reduceLE, Int.reduceAdd, Int.reduceSub, Int.reduceMul, Int.reduceEq, Int.reduceNeg, reduceCtorEq, resV, resAll, ARes.ev, LV.flat, ite_true, ite_false, exists_eq_left', exists_eq_left, keyOf, implies_true, fillC, capOf]
  refine condC_dec (fun hlt => ?_) (fun hlt => ?_)
  · have hil : i < L.length := by omega
    obtain ⟨v, o', hg, hT⟩ := (hP.app (K := [some (.row [.I x, .I y, .I z, .ref t o cs.length] true 0)])).get hil
    have hm := hLs _ (getD_mem' (d := []) hil)
    simp (disch := omega) only [f1, f2, f5, hg, Nat.mul_one, Nat.zero_add, ↓SXd, SXu, slBounds, ↓sop, ↓aop, ↓reduceIte, LV.cells, AOp.dst, LV.I, LV.B, LV.U, LV.S, LV.nil, Nat.reduceEqDiff, Nat.reduceAdd, Nat.reduceMul, Nat.reduceSub, Nat.reduceLeDiff, Nat.reduceBEq, Nat.reduceDiv, Nat.reduceMod, Int.reduceToNat, Int.reduceLT, Int.reduceLE, Int.reduceAdd, Int.reduceSub, Int.reduceMul, Int.reduceEq, Int.reduceNeg, reduceCtorEq, resV, resAll, ARes.ev, LV.flat, ite_true, ite_false, exists_eq_left', exists_eq_left, keyOf, implies_true, fillC, capOf]
    refine callK_of (h_l9Piece hT hm) ?_
    simp (disch := omega) only [f1, f2, f5, ↓SXd, SXu, slBounds, ↓sop, ↓aop, ↓reduceIte, LV.cells, AOp.dst, LV.I, LV.B, LV.U, LV.S, LV.nil, Nat.reduceEqDiff, Nat.reduceAdd, Nat.reduceMul, Nat.reduceSub, Nat.reduceLeDiff, Nat.reduceBEq, Nat.reduceDiv, Nat.reduceMod, Int.reduceToNat, Int.reduceLT, Int.reduceLE, Int.reduceAdd, Int.reduceSub, Int.reduceMul, Int.reduceEq, Int.reduceNeg, reduceCtorEq, resV, resAll, ARes.ev, LV.flat, ite_true, ite_false, exists_eq_left', exists_eq_left, keyOf, implies_true, fillC, capOf]
    by_cases hp : PieceOK (L.getD i [])
    · rw [decide_eq_true hp]
      simp (disch := omega) only [f1, f2, f5, ↓SXd, SXu, slBounds, ↓sop, ↓aop, ↓reduceIte, LV.cells, AOp.dst, LV.I, LV.B, LV.U, LV.S, LV.nil, Nat.reduceEqDiff, Nat.reduceAdd, Nat.reduceMul, Nat.reduceSub, Nat.reduceLeDiff, Nat.reduceBEq, Nat.reduceDiv, Nat.reduceMod, Int.reduceToNat, Int.reduceLT, Int.reduceLE, Int.reduceAdd, Int.reduceSub, Int.reduceMul, Int.reduceEq, Int.reduceNeg, reduceCtorEq, resV, resAll, ARes.ev, LV.flat, ite_true, ite_false, exists_eq_left', exists_eq_left, keyOf, implies_true, fillC, capOf]
      exact ⟨m - 1, by omega, i + 1, by omega, rfl, fun j hj1 => by
        rcases Nat.lt_or_ge j i with h2 | h2
        · exact hj j h2
        · rw [show j = i by omega]; exact hp, f1, f2, eqI (natI _)⟩
    · rw [decide_eq_false hp]
      simp (disch := omega) only [f1, f2, f5, ↓SXd, SXu, slBounds, ↓sop, ↓aop, ↓reduceIte, LV.cells, AOp.dst, LV.I, LV.B, LV.U, LV.S, LV.nil, Nat.reduceEqDiff, Nat.reduceAdd, Nat.reduceMul, Nat.reduceSub, Nat.reduceLeDiff, Nat.reduceBEq, Nat.reduceDiv, Nat.reduceMod, Int.reduceToNat, Int.reduceLT, Int.reduceLE, Int.reduceAdd, Int.reduceSub, Int.reduceMul, Int.reduceEq, Int.reduceNeg, reduceCtorEq, resV, resAll, ARes.ev, LV.flat, ite_true, ite_false, exists_eq_left', exists_eq_left, keyOf, implies_true, fillC, capOf]
      rw [decide_eq_false (fun h => hp (h.1 _ (getD_mem' hil)))]
      exact cmp_drop rfl
  · simp (disch := omega) only [f1, f2, f5, ↓SXd, SXu, slBounds, ↓sop, ↓aop, ↓reduceIte, LV.cells, AOp.dst, LV.I, LV.B, LV.U, LV.S, LV.nil, Nat.reduceEqDiff, Nat.reduceAdd, Nat.reduceMul, Nat.reduceSub, Nat.reduceLeDiff, Nat.reduceBEq, Nat.reduceDiv, Nat.reduceMod, Int.reduceToNat, Int.reduceLT, Int.reduceLE, Int.reduceAdd, Int.reduceSub, Int.reduceMul, Int.reduceEq, Int.reduceNeg, reduceCtorEq, resV, resAll, ARes.ev, LV.flat, ite_true, ite_false, exists_eq_left', exists_eq_left, keyOf, implies_true, fillC, capOf]
    have : i = L.length := by omega
    subst this
    have hPO := pcs_of hj
    refine callK_of (h_l2Heap h.app hn) ?_
    simp (disch := omega) only [f1, f2, f5, ↓SXd, SXu, slBounds, ↓sop, ↓aop, ↓reduceIte, LV.cells, AOp.dst, LV.I, LV.B, LV.U, LV.S, LV.nil, Nat.reduceEqDiff, Nat.reduceAdd, Nat.reduceMul, Nat.reduceSub, Nat.reduceLeDiff, Nat.reduceBEq, Nat.reduceDiv, Nat.reduceMod, Int.reduceToNat, Int.reduceLT, Int.reduceLE, Int.reduceAdd, Int.reduceSub, Int.reduceMul, Int.reduceEq, Int.reduceNeg, reduceCtorEq, resV, resAll, ARes.ev, LV.flat, ite_true, ite_false, exists_eq_left', exists_eq_left, keyOf, implies_true, fillC, capOf]
    by_cases hH : HeapOK x y z cs
    · rw [decide_eq_true hH]
      simp (disch := omega) only [f1, f2, f5, ↓SXd, SXu, slBounds, ↓sop, ↓aop, ↓reduceIte, LV.cells, AOp.dst, LV.I, LV.B, LV.U, LV.S, LV.nil, Nat.reduceEqDiff, Nat.reduceAdd, Nat.reduceMul, Nat.reduceSub, Nat.reduceLeDiff, Nat.reduceBEq, Nat.reduceDiv, Nat.reduceMod, Int.reduceToNat, Int.reduceLT, Int.reduceLE, Int.reduceAdd, Int.reduceSub, Int.reduceMul, Int.reduceEq, Int.reduceNeg, reduceCtorEq, resV, resAll, ARes.ev, LV.flat, ite_true, ite_false, exists_eq_left', exists_eq_left, keyOf, implies_true, fillC, capOf]
      rw [show decide ((L.length : Int) ≤ 8) = decide (AskOK x y z cs L) from decide_eq_decide.2 ⟨fun h => ⟨hPO, hH, by omega⟩, fun h => by have := h.2.2; omega⟩]
      exact cmp_drop rfl
    · rw [decide_eq_false hH]
      simp (disch := omega) only [f1, f2, f5, ↓SXd, SXu, slBounds, ↓sop, ↓aop, ↓reduceIte, LV.cells, AOp.dst, LV.I, LV.B, LV.U, LV.S, LV.nil, Nat.reduceEqDiff, Nat.reduceAdd, Nat.reduceMul, Nat.reduceSub, Nat.reduceLeDiff, Nat.reduceBEq, Nat.reduceDiv, Nat.reduceMod, Int.reduceToNat, Int.reduceLT, Int.reduceLE, Int.reduceAdd, Int.reduceSub, Int.reduceMul, Int.reduceEq, Int.reduceNeg, reduceCtorEq, resV, resAll, ARes.ev, LV.flat, ite_true, ite_false, exists_eq_left', exists_eq_left, keyOf, implies_true, fillC, capOf]
      rw [decide_eq_false (fun h => hH h.2.1)]
      exact cmp_drop rfl
end
end Go.Ab

/- A number's bits, as the programs read them. -/
namespace Go.Ab
open Go
set_option linter.unusedSimpArgs false
set_option linter.unusedVariables false

theorem bit_int {n i : Nat} (hn : n < 1048576) : IntKind.i64.wrap (((BitVec.ofInt 64 ((n : Int).fdiv (2 ^ (min i 64))) &&& BitVec.ofInt 64 1).toNat : Nat) : Int) = if n.testBit i then 1 else 0 := by
  have h1 : ((n : Int).fdiv (2 ^ (min i 64))) = ((n / 2 ^ (min i 64) : Nat) : Int) := by
    rw [Int.fdiv_eq_ediv_of_nonneg _ (by exact Int.le_of_lt (Int.pow_pos (by omega)))]
    rw [Int.natCast_ediv, Int.natCast_pow]; rfl
  have h2 : n / 2 ^ (min i 64) < 1048576 := Nat.lt_of_le_of_lt (Nat.div_le_self _ _) hn
  have h3 : (BitVec.ofInt 64 ((n / 2 ^ (min i 64) : Nat) : Int) &&& BitVec.ofInt 64 1).toNat = (n / 2 ^ (min i 64)) % 2 := by
    rw [BitVec.toNat_and, show (BitVec.ofInt 64 1).toNat = 1 from rfl, BitVec.ofInt_natCast, BitVec.toNat_ofNat, Nat.mod_eq_of_lt (by omega), Nat.and_one_is_mod]
  have h4 : n.testBit i = decide ((n / 2 ^ (min i 64)) % 2 = 1) := by
    rw [Nat.testBit_eq_decide_div_mod_eq]
    rcases Nat.le_total i 64 with h | h
    · rw [Nat.min_eq_left h]
    · rw [Nat.min_eq_right h]
      have e : (2 : Nat) ^ 64 ≤ 2 ^ i := Nat.pow_le_pow_right (by omega) h
      rw [Nat.div_eq_of_lt (show n < 2 ^ i by omega), Nat.div_eq_of_lt (show n < 2 ^ 64 by omega)]
  rw [h1, h3, h4, IntKind.wrap_i64]
  rcases Nat.mod_two_eq_zero_or_one (n / 2 ^ (min i 64)) with h | h <;> simp [h]
end Go.Ab

/- Contracts: parities, both sides; ParityBars. -/
namespace Go.Ab
open Go
set_option linter.unusedSimpArgs false
set_option linter.unusedVariables false
set_option maxRecDepth 20000

def par1 (c : Cell) : Int := 1 - 2 * ((c.a + c.b + c.c).tmod 2)
def parL : List Cell → Int
  | [] => 0
  | c :: l => par1 c + parL l
section
variable {l : List Cell} {t o : Nat} {M : Mem} (h : Tri M t o l) (hn : l.length ≤ 64) (hin : ∀ c ∈ l, c.inBox 4 4 4)
include h hn hin
end
/-- The cells without cubes. -/
def freeP (cs : List Cell) (c : Cell) : Bool := !decide (c ∈ cs)
theorem box4 {x y z : Int} (hS : Sides x y z) {c : Cell} (hc : c.inBox x y z) : c.inBox 4 4 4 := by
  obtain ⟨hx, hy, hz⟩ := hS
  obtain ⟨⟨_, _⟩, ⟨_, _⟩, ⟨_, _⟩⟩ := hc
  unfold Cell.inBox; omega
section
variable {x y z : Int} {t o : Nat} {cs : List Cell} {M : Mem} (h : Tri M t o cs) (hH : HeapOK x y z cs)
include h hH
theorem g_free : CallsTo PG F.impl_Heap_free [.agg [.I x, .I y, .I z, .ref t o cs.length]] M (.W (bs x y z (freeP cs))) M := by
  have hlen := hH.len
  refine calls_run K.impl_Heap_free rfl ?_
  simp (disch := omega) only [C.impl_Heap_free, ↓SXd, SXu, slBounds, ↓sop, ↓aop, ↓reduceIte, LV.cells, AOp.dst, LV.I, LV.B, LV.U, LV.S, LV.nil, Nat.reduceEqDiff, Nat.reduceAdd, Nat.reduceMul, Nat.reduceSub, Nat.reduceLeDiff, Nat.reduceBEq, Nat.reduceDiv, Nat.reduceMod, Int.reduceToNat, Int.reduceLT, Int.reduceLE, Int.reduceAdd, Int.reduceSub, Int.reduceMul, Int.reduceEq, Int.reduceNeg, reduceCtorEq, resV, resAll, ARes.ev, LV.flat, ite_true, ite_false, exists_eq_left', exists_eq_left, keyOf, implies_true, fillC, capOf]
  refine callK_of (g_box) ?_
  simp (disch := omega) only [↓SXd, SXu, slBounds, ↓sop, ↓aop, ↓reduceIte, LV.cells, AOp.dst, LV.I, LV.B, LV.U, LV.S, LV.nil, Nat.reduceEqDiff, Nat.reduceAdd, Nat.reduceMul, Nat.reduceSub, Nat.reduceLeDiff, Nat.reduceBEq, Nat.reduceDiv, Nat.reduceMod, Int.reduceToNat, Int.reduceLT, Int.reduceLE, Int.reduceAdd, Int.reduceSub, Int.reduceMul, Int.reduceEq, Int.reduceNeg, reduceCtorEq, resV, resAll, ARes.ev, LV.flat, ite_true, ite_false, exists_eq_left', exists_eq_left, keyOf, implies_true, fillC, capOf]
  refine callK_of (g_full hH.1) ?_
  simp (disch := omega) only [↓SXd, SXu, slBounds, ↓sop, ↓aop, ↓reduceIte, LV.cells, AOp.dst, LV.I, LV.B, LV.U, LV.S, LV.nil, Nat.reduceEqDiff, Nat.reduceAdd, Nat.reduceMul, Nat.reduceSub, Nat.reduceLeDiff, Nat.reduceBEq, Nat.reduceDiv, Nat.reduceMod, Int.reduceToNat, Int.reduceLT, Int.reduceLE, Int.reduceAdd, Int.reduceSub, Int.reduceMul, Int.reduceEq, Int.reduceNeg, reduceCtorEq, resV, resAll, ARes.ev, LV.flat, ite_true, ite_false, exists_eq_left', exists_eq_left, keyOf, implies_true, fillC, capOf]
  refine callK_of (g_cubes h.app (by omega) hH.1 (fun c hc => hH.mem hc)) ?_
  simp (disch := omega) only [↓SXd, SXu, slBounds, ↓sop, ↓aop, ↓reduceIte, LV.cells, AOp.dst, LV.I, LV.B, LV.U, LV.S, LV.nil, Nat.reduceEqDiff, Nat.reduceAdd, Nat.reduceMul, Nat.reduceSub, Nat.reduceLeDiff, Nat.reduceBEq, Nat.reduceDiv, Nat.reduceMod, Int.reduceToNat, Int.reduceLT, Int.reduceLE, Int.reduceAdd, Int.reduceSub, Int.reduceMul, Int.reduceEq, Int.reduceNeg, reduceCtorEq, resV, resAll, ARes.ev, LV.flat, ite_true, ite_false, exists_eq_left', exists_eq_left, keyOf, implies_true, fillC, capOf]
  rw [bs_diff hH.1, (bs_eq hH.1).2 fun c _ => show (true && !decide (c ∈ cs)) = freeP cs c by simp [freeP]]
  exact cmp_drop rfl
end
end Go.Ab

/- The abstract code of some functions (written by a program of mine from the translation, by way of prepF). -/
namespace Go.Ab.C
open Go.Ab
def impl_added : AFn :=
  ⟨2, 21, [.cellN 4 3],
    .seq (.ops [(none, .box 2 (.t 0)),
       (none, .box 3 (.t 1)),
       (none, .alloc 4 [(.I 0), (.I 0), (.I 0)])])
    (.seq (.ops [(none, .idxA 5 3 1 (.t 2) (.c (.I 0))),
        (none, .load1 6 (.t 5)),
        (none, .idxA 7 3 1 (.t 3) (.c (.I 0))),
        (none, .load1 8 (.t 7)),
        (none, .bin 9 .add (.t 6) (.t 8)),
        (none, .idxA 10 3 1 (.t 2) (.c (.I 1))),
        (none, .load1 11 (.t 10)),
        (none, .idxA 12 3 1 (.t 3) (.c (.I 1))),
        (none, .load1 13 (.t 12)),
        (none, .bin 14 .add (.t 11) (.t 13)),
        (none, .idxA 15 3 1 (.t 2) (.c (.I 2))),
        (none, .load1 16 (.t 15)),
        (none, .idxA 17 3 1 (.t 3) (.c (.I 2))),
        (none, .load1 18 (.t 17)),
        (none, .bin 19 .add (.t 16) (.t 18)),
        (none, .build 20 [(.I 0), (.I 0), (.I 0)] [(0, 1, (.t 9)), (1, 1, (.t 14)), (2, 1, (.t 19))]),
        (none, .store 3 (.t 4) (.t 20))])
     (.ret))⟩
end Go.Ab.C

/- That the program has this code. -/
namespace Go.Ab.K
open Go Go.Ab
theorem impl_added : prepF Go.Proofs.Try.prog F.impl_added = some C.impl_added := by kernel_rfl
end Go.Ab.K

/- The abstract code of some functions (written by a program of mine from the translation, by way of prepF). -/
namespace Go.Ab.C
open Go.Ab
end Go.Ab.C

/- That the program has this code. -/
namespace Go.Ab.K
open Go Go.Ab
end Go.Ab.K

/- The abstract code of some functions (written by a program of mine from the translation, by way of prepF). -/
namespace Go.Ab.C
open Go.Ab
end Go.Ab.C

/- That the program has this code. -/
namespace Go.Ab.K
open Go Go.Ab
end Go.Ab.K

/- Contracts: the program's turns. -/
namespace Go.Ab
open Go
set_option linter.unusedSimpArgs false
set_option linter.unusedVariables false

def ordersL : List Cell := [⟨0, 1, 2⟩, ⟨0, 2, 1⟩, ⟨1, 0, 2⟩, ⟨1, 2, 0⟩, ⟨2, 0, 1⟩, ⟨2, 1, 0⟩]
/-- The attempt at which an order's turns begin. -/
def nO (o : Nat) : Nat := if o = 0 then 8 else if o = 1 then 16 else if o = 2 then 24 else if o = 3 then 40 else if o = 4 then 48 else if o = 5 then 56 else 72
end Go.Ab

/- Contracts: the program's turned heaps. -/
namespace Go.Ab
open Go
set_option linter.unusedSimpArgs false
set_option linter.unusedVariables false

end Go.Ab

/- The abstract code of some functions (written by a program of mine from the translation, by way of prepF). -/
namespace Go.Ab.C
open Go.Ab
end Go.Ab.C

/- That the program has this code. -/
namespace Go.Ab.K
open Go Go.Ab
end Go.Ab.K

/- The abstract code of some functions (written by a program of mine from the translation, by way of prepF). -/
namespace Go.Ab.C
open Go.Ab
end Go.Ab.C

/- That the program has this code. -/
namespace Go.Ab.K
open Go Go.Ab
end Go.Ab.K

/- Contracts: the reference's order of heaps, and first forms. -/
namespace Go.Ab
open Go
set_option linter.unusedSimpArgs false
set_option linter.unusedVariables false

def lexC : List Cell → List Cell → Bool
  | _, [] => false
  | [], _ :: _ => true
  | a :: l, b :: m => if a = b then lexC l m else decide (a.lt b)
def Hp.dims (h : Hp) : Cell := ⟨h.x, h.y, h.z⟩
def lessHp (g h : Hp) : Bool := if g.dims = h.dims then lexC g.cs h.cs else decide (g.dims.lt h.dims)
end Go.Ab

/- Contracts: the reference's first forms. -/
namespace Go.Ab
open Go
set_option linter.unusedSimpArgs false
set_option linter.unusedVariables false

def bestH (b : Hp) (l : List Hp) : Hp := l.foldl (fun b n => if lessHp n b then n else b) b
/-- The positions of a heap: it is turned, and put into the least box. -/
def posHp (x y z : Int) (cs : List Cell) (T : Turn) : Hp := cropHp (turnHp x y z T cs).cs
def formHp (x y z : Int) (cs : List Cell) : Hp := bestH (cropHp cs) (turns.map (posHp x y z cs))
theorem Live.six {N : Mem} {t k e : Nat} {w : Bool} {l : List Turn} (h : Live N t (.row (sixL l) w e)) (hk : k < l.length) : getCells N t (k * 6) 6 = some l[k].row := by
  rw [h.cells, if_pos (by rw [sixL_len]; omega), sixL_at hk]
end Go.Ab

/- Contracts: the program's least boxes. -/
namespace Go.Ab
open Go
set_option linter.unusedSimpArgs false
set_option linter.unusedVariables false

def leC (a b : Cell) : Prop := a.a ≤ b.a ∧ a.b ≤ b.b ∧ a.c ≤ b.c
theorem g_added {c p : Cell} {M : Mem} (hc : Small c) (hp : Small p) : CallsTo PG F.impl_added [.agg [.I c.a, .I c.b, .I c.c], .agg [.I p.a, .I p.b, .I p.c]] M (.agg [.I (shift p c).a, .I (shift p c).b, .I (shift p c).c]) M := by
  obtain ⟨⟨_, _⟩, ⟨_, _⟩, ⟨_, _⟩⟩ := hc
  obtain ⟨⟨_, _⟩, ⟨_, _⟩, ⟨_, _⟩⟩ := hp
  refine calls_run K.impl_added rfl ?_
  simp (disch := omega) only [C.impl_added, splice, ↓SXd, SXu, slBounds, ↓sop, ↓aop, ↓reduceIte, LV.cells, AOp.dst, LV.I, LV.B, LV.U, LV.S, LV.nil, Nat.reduceEqDiff, Nat.reduceAdd, Nat.reduceMul, Nat.reduceSub, Nat.reduceLeDiff, Nat.reduceBEq, Nat.reduceDiv, Nat.reduceMod, Int.reduceToNat, Int.reduceLT, Int.reduceLE, Int.reduceAdd, Int.reduceSub, Int.reduceMul, Int.reduceEq, Int.reduceNeg, reduceCtorEq, resV, resAll, ARes.ev, LV.flat, ite_true, ite_false, exists_eq_left', exists_eq_left, keyOf, implies_true, fillC, capOf]
  exact cmp_drop rfl
end Go.Ab

/- Contracts: pieces placed in a box, the program's side. -/
namespace Go.Ab
open Go
set_option linter.unusedSimpArgs false
set_option linter.unusedVariables false
set_option maxRecDepth 20000

def At4 (at' : Cell) : Prop := (0 ≤ at'.a ∧ at'.a ≤ 4) ∧ (0 ≤ at'.b ∧ at'.b ≤ 4) ∧ (0 ≤ at'.c ∧ at'.c ≤ 4)
def PlacedOK (x y z : Int) (fr : Cell → Bool) (l : List Cell) (at' : Cell) : Prop := At4 at' ∧ ∀ c ∈ l, (shift at' c).inBox x y z ∧ fr (shift at' c) = true
noncomputable instance {x y z : Int} {fr : Cell → Bool} {l : List Cell} {at' : Cell} : Decidable (PlacedOK x y z fr l at') := Classical.propDecidable _
instance {at' : Cell} : Decidable (At4 at') := by unfold At4; exact inferInstance
theorem g_placed {x y z : Int} {fr : Cell → Bool} {l : List Cell} {at' : Cell} {t o : Nat} {M : Mem} (hS : Sides x y z) (h : Tri M t o l) (hn : l.length ≤ 1000000) (hin : ∀ c ∈ l, c.inBox 4 4 4) :
    CallsTo PG F.impl_box_placed [.agg [.I x, .I y, .I z], .W (bs x y z fr), .ref t o l.length, .agg [.I at'.a, .I at'.b, .I at'.c]] M
      (.tup [.W (if PlacedOK x y z fr l at' then bs x y z (fun d => decide (d ∈ l.map (shift at'))) else 0#64), .B (decide (PlacedOK x y z fr l at'))]) M := by
  have ht := h.lt
  have hno : ¬ PlacedOK x y z fr l at' → ∀ {N : Mem}, Pre M N → Cmp M N (.tup [.W 0#64, .B false]) M (.tup [.W (if PlacedOK x y z fr l at' then bs x y z (fun d => decide (d ∈ l.map (shift at'))) else 0#64), .B (decide (PlacedOK x y z fr l at'))]) := fun hp N hN => by
    rw [if_neg hp, decide_eq_false hp]; exact cmp_pre hN rfl
  refine calls_run K.impl_box_placed rfl ?_
  have haw := g_allWithinLH (lo := 0) (hi := 4) (xs := [at'.a, at'.b, at'.c]) (t := M.length + 1) (o := 0) (M := M ++ [some (.row [.I x, .I y, .I z] true 0), some (.row [.I at'.a, .I at'.b, .I at'.c] true 0)]) (Live.newj (b := .row (intL [at'.a, at'.b, at'.c]) true 0) rfl).has (by simp)
  have hat : (∀ v ∈ [at'.a, at'.b, at'.c], (0 : Int) ≤ v ∧ v ≤ 4) ↔ At4 at' := by
    simp only [List.mem_cons, List.not_mem_nil, or_false, forall_eq_or_imp, forall_eq]
    rfl
  rw [decide_eq_decide.2 hat] at haw
  simp (disch := omega) only [C.impl_box_placed, Option.isSome_some, and_self, if_true, ↓SXd, SXu, slBounds, ↓sop, ↓aop, ↓reduceIte, LV.cells, AOp.dst, LV.I, LV.B, LV.U, LV.S, LV.nil, Nat.reduceEqDiff, Nat.reduceAdd, Nat.reduceMul, Nat.reduceSub, Nat.reduceLeDiff, Nat.reduceBEq, Nat.reduceDiv, Nat.reduceMod, Int.reduceToNat, Int.reduceLT, Int.reduceLE, Int.reduceAdd, Int.reduceSub, Int.reduceMul, Int.reduceEq, Int.reduceNeg, reduceCtorEq, resV, resAll, ARes.ev, LV.flat, ite_true, ite_false, exists_eq_left', exists_eq_left, keyOf, implies_true, fillC, capOf]
  refine callK_of haw ?_
  by_cases h4 : At4 at'
  · rw [decide_eq_true h4]
    obtain ⟨⟨_, _⟩, ⟨_, _⟩, ⟨_, _⟩⟩ := id h4
    simp (disch := omega) only [↓SXd, SXu, slBounds, ↓sop, ↓aop, ↓reduceIte, LV.cells, AOp.dst, LV.I, LV.B, LV.U, LV.S, LV.nil, Nat.reduceEqDiff, Nat.reduceAdd, Nat.reduceMul, Nat.reduceSub, Nat.reduceLeDiff, Nat.reduceBEq, Nat.reduceDiv, Nat.reduceMod, Int.reduceToNat, Int.reduceLT, Int.reduceLE, Int.reduceAdd, Int.reduceSub, Int.reduceMul, Int.reduceEq, Int.reduceNeg, reduceCtorEq, resV, resAll, ARes.ev, LV.flat, ite_true, ite_false, exists_eq_left', exists_eq_left, keyOf, implies_true, fillC, capOf]
    refine ev_loop (fun m fr1 M' => ∃ i : Nat, i + m = l.length ∧ Pre M M' ∧ Live M' M.length (.row [.I x, .I y, .I z] true 0) ∧ Live M' (M.length + 1) (.row [.I at'.a, .I at'.b, .I at'.c] true 0) ∧ (∀ c ∈ l.take i, (shift at' c).inBox x y z ∧ fr (shift at' c) = true) ∧
      fr1 1 = .W (bs x y z fr) ∧ fr1 4 = .ptr M.length 0 ∧ fr1 7 = .ptr (M.length + 1) 0 ∧ fr1 10 = .W (bs x y z fun d => decide (d ∈ (l.take i).map (shift at'))) ∧ fr1 17 = .ref t o l.length ∧ fr1 18 = .I l.length ∧ fr1 19 = .I i) l.length
      ⟨0, by omega, Pre.app _ _, Live.new, Live.newj rfl, by simp, rfl, rfl, rfl, by rw [show (bs x y z fun d => decide (d ∈ (l.take 0).map (shift at'))) = 0#64 from (bs_zero hS).2 fun c _ => by simp]; rfl, rfl, rfl, rfl⟩ ?_
    rintro m fr1 M' ⟨i, hi, hpre, b4, b7, hall, f1, f4, f7, f10, f17, f18, f19⟩
    simp (disch := omega) only [f1, f4, f7, f10, f17, f18, f19, ↓SXd, SXu, slBounds, ↓sop, ↓aop, ↓reduceIte, LV.cells, AOp.dst, LV.I, LV.B, LV.U, LV.S, LV.nil, Nat.reduceEqDiff, Nat.reduceAdd, Nat.reduceMul, Nat.reduceSub, Nat.reduceLeDiff, Nat.reduceBEq, Nat.reduceDiv, Nat.reduceMod, Int.reduceToNat, Int.reduceLT, Int.reduceLE, Int.reduceAdd, Int.reduceSub, Int.reduceMul, Int.reduceEq, Int.reduceNeg, reduceCtorEq, resV, resAll, ARes.ev, LV.flat, ite_true, ite_false, exists_eq_left', exists_eq_left, keyOf, implies_true, fillC, capOf]
    refine condC_dec (fun hlt => ?_) (fun hlt => ?_)
    · have hil : i < l.length := by omega
      have hg := Tri.get (h.pre hpre) hil
      have hc := hin _ (getD_mem' (d := default) hil)
      have hcm := getD_mem' (d := default) hil
      have hts : l.take (i + 1) = l.take i ++ [l.getD i default] := by
        rw [List.take_succ, List.getElem?_eq_getElem hil]; simp [hil]
      generalize l.getD i default = c at hg hc hcm hts
      obtain ⟨⟨_, _⟩, ⟨_, _⟩, ⟨_, _⟩⟩ := id hc
      have hb4 := b4.lt
      have hb7 := b7.lt
      simp (disch := omega) only [f1, f4, f7, f10, f17, f18, f19, hg, Cell.row, splice, b4.app.cells, b7.app.cells, ↓SXd, SXu, slBounds, ↓sop, ↓aop, ↓reduceIte, LV.cells, AOp.dst, LV.I, LV.B, LV.U, LV.S, LV.nil, Nat.reduceEqDiff, Nat.reduceAdd, Nat.reduceMul, Nat.reduceSub, Nat.reduceLeDiff, Nat.reduceBEq, Nat.reduceDiv, Nat.reduceMod, Int.reduceToNat, Int.reduceLT, Int.reduceLE, Int.reduceAdd, Int.reduceSub, Int.reduceMul, Int.reduceEq, Int.reduceNeg, reduceCtorEq, resV, resAll, ARes.ev, LV.flat, ite_true, ite_false, exists_eq_left', exists_eq_left, keyOf, implies_true, fillC, capOf]
      refine callK_of (g_added ⟨by omega, by omega, by omega⟩ ⟨by omega, by omega, by omega⟩) ?_
      simp (disch := omega) only [f1, f4, f7, f10, f17, f18, f19, splice, b4.app.cells, b7.app.cells, ↓SXd, SXu, slBounds, ↓sop, ↓aop, ↓reduceIte, LV.cells, AOp.dst, LV.I, LV.B, LV.U, LV.S, LV.nil, Nat.reduceEqDiff, Nat.reduceAdd, Nat.reduceMul, Nat.reduceSub, Nat.reduceLeDiff, Nat.reduceBEq, Nat.reduceDiv, Nat.reduceMod, Int.reduceToNat, Int.reduceLT, Int.reduceLE, Int.reduceAdd, Int.reduceSub, Int.reduceMul, Int.reduceEq, Int.reduceNeg, reduceCtorEq, resV, resAll, ARes.ev, LV.flat, ite_true, ite_false, exists_eq_left', exists_eq_left, keyOf, implies_true, fillC, capOf]
      refine callK_of (g_has hS) ?_
      rw [cell_eta]
      by_cases hb : (shift at' c).inBox x y z
      · rw [decide_eq_true hb]
        have hix := idx_in hS hb
        have hv := vol_cast hS
        simp (disch := omega) only [f1, f4, f7, f10, f17, f18, f19, b4.app.cells, splice, ↓SXd, SXu, slBounds, ↓sop, ↓aop, ↓reduceIte, LV.cells, AOp.dst, LV.I, LV.B, LV.U, LV.S, LV.nil, Nat.reduceEqDiff, Nat.reduceAdd, Nat.reduceMul, Nat.reduceSub, Nat.reduceLeDiff, Nat.reduceBEq, Nat.reduceDiv, Nat.reduceMod, Int.reduceToNat, Int.reduceLT, Int.reduceLE, Int.reduceAdd, Int.reduceSub, Int.reduceMul, Int.reduceEq, Int.reduceNeg, reduceCtorEq, resV, resAll, ARes.ev, LV.flat, ite_true, ite_false, exists_eq_left', exists_eq_left, keyOf, implies_true, fillC, capOf]
        refine callK_of (g_index hS hb) ?_
        simp (disch := omega) only [f1, f4, f7, f10, f17, f18, f19, ↓SXd, SXu, slBounds, ↓sop, ↓aop, ↓reduceIte, LV.cells, AOp.dst, LV.I, LV.B, LV.U, LV.S, LV.nil, Nat.reduceEqDiff, Nat.reduceAdd, Nat.reduceMul, Nat.reduceSub, Nat.reduceLeDiff, Nat.reduceBEq, Nat.reduceDiv, Nat.reduceMod, Int.reduceToNat, Int.reduceLT, Int.reduceLE, Int.reduceAdd, Int.reduceSub, Int.reduceMul, Int.reduceEq, Int.reduceNeg, reduceCtorEq, resV, resAll, ARes.ev, LV.flat, ite_true, ite_false, exists_eq_left', exists_eq_left, keyOf, implies_true, fillC, capOf]
        refine callK_of (g_has_set hix.1) ?_
        rw [bs_has hS hb]
        cases hf : fr (shift at' c) with
        | true =>
          simp (disch := omega) only [f1, f4, f7, f10, f17, f18, f19, b4.app.cells, ↓SXd, SXu, slBounds, ↓sop, ↓aop, ↓reduceIte, LV.cells, AOp.dst, LV.I, LV.B, LV.U, LV.S, LV.nil, Nat.reduceEqDiff, Nat.reduceAdd, Nat.reduceMul, Nat.reduceSub, Nat.reduceLeDiff, Nat.reduceBEq, Nat.reduceDiv, Nat.reduceMod, Int.reduceToNat, Int.reduceLT, Int.reduceLE, Int.reduceAdd, Int.reduceSub, Int.reduceMul, Int.reduceEq, Int.reduceNeg, reduceCtorEq, resV, resAll, ARes.ev, LV.flat, ite_true, ite_false, exists_eq_left', exists_eq_left, keyOf, implies_true, fillC, capOf]
          refine callK_of (g_index hS hb) ?_
          simp (disch := omega) only [f1, f4, f7, f10, f17, f18, f19, ↓SXd, SXu, slBounds, ↓sop, ↓aop, ↓reduceIte, LV.cells, AOp.dst, LV.I, LV.B, LV.U, LV.S, LV.nil, Nat.reduceEqDiff, Nat.reduceAdd, Nat.reduceMul, Nat.reduceSub, Nat.reduceLeDiff, Nat.reduceBEq, Nat.reduceDiv, Nat.reduceMod, Int.reduceToNat, Int.reduceLT, Int.reduceLE, Int.reduceAdd, Int.reduceSub, Int.reduceMul, Int.reduceEq, Int.reduceNeg, reduceCtorEq, resV, resAll, ARes.ev, LV.flat, ite_true, ite_false, exists_eq_left', exists_eq_left, keyOf, implies_true, fillC, capOf]
          rw [bs_one hS hb, bs_or hS]
          refine ⟨m - 1, by omega, i + 1, by omega, hpre.app', b4.app, b7.app, fun d hd => ?_, f1, f4, f7, ?_, f17, f18, eqI (natI _)⟩
          · rw [hts] at hd
            rcases List.mem_append.1 hd with hd | hd
            · exact hall d hd
            · rw [List.mem_singleton.1 hd]; exact ⟨hb, hf⟩
          · show LV.W _ = LV.W _
            rw [(bs_eq hS).2 fun d _ => show (decide (d ∈ (l.take i).map (shift at')) || decide (d = shift at' c)) = decide (d ∈ (l.take (i + 1)).map (shift at')) by
              rw [Bool.eq_iff_iff, hts]; simp]
        | false =>
          simp (disch := omega) only [f1, f4, f7, f10, f17, f18, f19, ↓SXd, SXu, slBounds, ↓sop, ↓aop, ↓reduceIte, LV.cells, AOp.dst, LV.I, LV.B, LV.U, LV.S, LV.nil, Nat.reduceEqDiff, Nat.reduceAdd, Nat.reduceMul, Nat.reduceSub, Nat.reduceLeDiff, Nat.reduceBEq, Nat.reduceDiv, Nat.reduceMod, Int.reduceToNat, Int.reduceLT, Int.reduceLE, Int.reduceAdd, Int.reduceSub, Int.reduceMul, Int.reduceEq, Int.reduceNeg, reduceCtorEq, resV, resAll, ARes.ev, LV.flat, ite_true, ite_false, exists_eq_left', exists_eq_left, keyOf, implies_true, fillC, capOf]
          exact hno (fun hp => by have := (hp.2 c hcm).2; rw [hf] at this; cases this) hpre.app'
      · rw [decide_eq_false hb]
        simp (disch := omega) only [f1, f4, f7, f10, f17, f18, f19, ↓SXd, SXu, slBounds, ↓sop, ↓aop, ↓reduceIte, LV.cells, AOp.dst, LV.I, LV.B, LV.U, LV.S, LV.nil, Nat.reduceEqDiff, Nat.reduceAdd, Nat.reduceMul, Nat.reduceSub, Nat.reduceLeDiff, Nat.reduceBEq, Nat.reduceDiv, Nat.reduceMod, Int.reduceToNat, Int.reduceLT, Int.reduceLE, Int.reduceAdd, Int.reduceSub, Int.reduceMul, Int.reduceEq, Int.reduceNeg, reduceCtorEq, resV, resAll, ARes.ev, LV.flat, ite_true, ite_false, exists_eq_left', exists_eq_left, keyOf, implies_true, fillC, capOf]
        exact hno (fun hp => hb (hp.2 c hcm).1) hpre.app'
    · simp (disch := omega) only [f1, f4, f7, f10, f17, f18, f19, ↓SXd, SXu, slBounds, ↓sop, ↓aop, ↓reduceIte, LV.cells, AOp.dst, LV.I, LV.B, LV.U, LV.S, LV.nil, Nat.reduceEqDiff, Nat.reduceAdd, Nat.reduceMul, Nat.reduceSub, Nat.reduceLeDiff, Nat.reduceBEq, Nat.reduceDiv, Nat.reduceMod, Int.reduceToNat, Int.reduceLT, Int.reduceLE, Int.reduceAdd, Int.reduceSub, Int.reduceMul, Int.reduceEq, Int.reduceNeg, reduceCtorEq, resV, resAll, ARes.ev, LV.flat, ite_true, ite_false, exists_eq_left', exists_eq_left, keyOf, implies_true, fillC, capOf]
      have : i = l.length := by omega
      subst this
      rw [List.take_length] at hall ⊢
      have hp : PlacedOK x y z fr l at' := ⟨h4, hall⟩
      rw [if_pos hp, decide_eq_true hp]
      exact cmp_pre hpre rfl
  · rw [decide_eq_false h4]
    simp (disch := omega) only [↓SXd, SXu, slBounds, ↓sop, ↓aop, ↓reduceIte, LV.cells, AOp.dst, LV.I, LV.B, LV.U, LV.S, LV.nil, Nat.reduceEqDiff, Nat.reduceAdd, Nat.reduceMul, Nat.reduceSub, Nat.reduceLeDiff, Nat.reduceBEq, Nat.reduceDiv, Nat.reduceMod, Int.reduceToNat, Int.reduceLT, Int.reduceLE, Int.reduceAdd, Int.reduceSub, Int.reduceMul, Int.reduceEq, Int.reduceNeg, reduceCtorEq, resV, resAll, ARes.ev, LV.flat, ite_true, ite_false, exists_eq_left', exists_eq_left, keyOf, implies_true, fillC, capOf]
    exact hno (fun hp => h4 hp.1) (Pre.app _ _)
end Go.Ab

/- Plain: packings, as both sides see them. -/
namespace Go.Ab
open Go
set_option linter.unusedSimpArgs false
set_option linter.unusedVariables false

def atL (y z : Int) (xs : List Int) (c : Cell) : Int := xs.getD (idx y z c).toNat 0
/-- The cells with a number. -/
def fib (x y z : Int) (xs : List Int) (k : Nat) : List Cell := pick x y z fun c => decide (atL y z xs c = k)
/-- The free cells without those of the first pieces. -/
def leftP (y z : Int) (cs : List Cell) (xs : List Int) (i : Nat) (c : Cell) : Bool := freeP cs c && !decide (0 ≤ atL y z xs c ∧ atL y z xs c < i)
def negC (c : Cell) : Cell := ⟨-c.a, -c.b, -c.c⟩
/-- Where the program tries a piece. -/
def tryAt (x y z : Int) (L : List (List Cell)) (xs : List Int) (i : Nat) : Cell := shift (negC ((L.getD i []).getD 0 default)) ((fib x y z xs i).getD 0 default)
def StepOK (x y z : Int) (cs : List Cell) (L : List (List Cell)) (xs : List Int) (i : Nat) : Prop :=
  fib x y z xs i ≠ [] ∧ PlacedOK x y z (leftP y z cs xs i) (L.getD i []) (tryAt x y z L xs i) ∧ ∀ d, d.inBox x y z → (d ∈ (L.getD i []).map (shift (tryAt x y z L xs i)) ↔ d ∈ fib x y z xs i)
def ImplPk (x y z : Int) (cs : List Cell) (L : List (List Cell)) (xs : List Int) : Prop :=
  xs.length = vol x y z ∧ (∀ v ∈ xs, -1 ≤ v ∧ v ≤ (L.length : Int) - 1) ∧ (∀ i, i < L.length → StepOK x y z cs L xs i) ∧ ∀ c, c.inBox x y z → leftP y z cs xs L.length c = false
def DiffOK (x y z : Int) (L : List (List Cell)) (xs : List Int) (k : Nat) : Prop :=
  (fib x y z xs k).length = (L.getD k []).length ∧ ∀ i, 1 ≤ i → i < (fib x y z xs k).length → ∀ d : Nat, d < 3 → Cell.at ((fib x y z xs k).getD i default) (d : Int) - Cell.at ((fib x y z xs k).getD 0 default) (d : Int) = Cell.at ((L.getD k []).getD i default) (d : Int) - Cell.at ((L.getD k []).getD 0 default) (d : Int)
def SpecPk (x y z : Int) (cs : List Cell) (L : List (List Cell)) (xs : List Int) : Prop :=
  xs.length = vol x y z ∧ tot L + cs.length = vol x y z ∧ (∀ i, i < vol x y z → (-1 ≤ xs.getD i 0 ∧ xs.getD i 0 ≤ (L.length : Int) - 1) ∧ (xs.getD i 0 < 0 ↔ cellAt y z i ∈ cs)) ∧ ∀ k, k < L.length → DiffOK x y z L xs k

theorem shift_lt {p c d : Cell} (h : c.lt d) : (shift p c).lt (shift p d) := by
  unfold Cell.lt shift at *; simp only; omega
section
variable {x y z : Int} {cs : List Cell} {L : List (List Cell)} {xs : List Int} (hA : AskOK x y z cs L)
include hA
end
end Go.Ab

/- Contracts: packings, the reference's side. -/
namespace Go.Ab
open Go
set_option linter.unusedSimpArgs false
set_option linter.unusedVariables false
set_option maxRecDepth 20000

noncomputable instance {x y z : Int} {cs : List Cell} {L : List (List Cell)} {xs : List Int} : Decidable (SpecPk x y z cs L xs) := Classical.propDecidable _
theorem ask_tot {x y z : Int} {cs : List Cell} {L : List (List Cell)} (hA : AskOK x y z cs L) : tot L ≤ 40 := by
  have := tot_le (n := 5) (L := L) fun l hl => (hA.1 l hl).1.2
  have := hA.2.2
  omega
theorem h_l9Cells {L : List (List Cell)} {u : Nat} {M : Mem} (hP : Pcs M u L) (hL : L.length ≤ 1000000) (ht : tot L ≤ 1000000) : CallsTo PG F.spec_l9Cells [.ref u 0 L.length] M (.I (tot L : Nat)) M := by
  refine calls_run K.spec_l9Cells rfl ?_
  simp (disch := omega) only [C.spec_l9Cells, ↓SXd, SXu, slBounds, ↓sop, ↓aop, ↓reduceIte, LV.cells, AOp.dst, LV.I, LV.B, LV.U, LV.S, LV.nil, Nat.reduceEqDiff, Nat.reduceAdd, Nat.reduceMul, Nat.reduceSub, Nat.reduceLeDiff, Nat.reduceBEq, Nat.reduceDiv, Nat.reduceMod, Int.reduceToNat, Int.reduceLT, Int.reduceLE, Int.reduceAdd, Int.reduceSub, Int.reduceMul, Int.reduceEq, Int.reduceNeg, reduceCtorEq, resV, resAll, ARes.ev, LV.flat, ite_true, ite_false, exists_eq_left', exists_eq_left, keyOf, implies_true, fillC, capOf]
  refine ev_loop (fun m fr M' => ∃ i : Nat, i + m = L.length ∧ M' = M ∧ fr 0 = .ref u 0 L.length ∧ fr 3 = .I (tot (L.take i) : Nat) ∧ fr 4 = .I i) L.length
    ⟨0, by omega, rfl, rfl, rfl, rfl⟩ ?_
  rintro m fr M' ⟨i, hi, rfl, f0, f3, f4⟩
  simp (disch := omega) only [f0, f3, f4, ↓SXd, SXu, slBounds, ↓sop, ↓aop, ↓reduceIte, LV.cells, AOp.dst, LV.I, LV.B, LV.U, LV.S, LV.nil, Nat.reduceEqDiff, Nat.reduceAdd, Nat.reduceMul, Nat.reduceSub, Nat.reduceLeDiff, Nat.reduceBEq, Nat.reduceDiv, Nat.reduceMod, Int.reduceToNat, Int.reduceLT, Int.reduceLE, Int.reduceAdd, Int.reduceSub, Int.reduceMul, Int.reduceEq, Int.reduceNeg, reduceCtorEq, resV, resAll, ARes.ev, LV.flat, ite_true, ite_false, exists_eq_left', exists_eq_left, keyOf, implies_true, fillC, capOf]
  refine condC_dec (fun hlt => ?_) (fun hlt => ?_)
  · have hil : i < L.length := by omega
    obtain ⟨v, o', hg, hT⟩ := hP.get hil
    have hts := tot_take_succ hil
    have htl := tot_take_le (L := L) (i := i + 1)
    simp (disch := omega) only [f0, f3, f4, hg, Nat.mul_one, Nat.zero_add, ↓SXd, SXu, slBounds, ↓sop, ↓aop, ↓reduceIte, LV.cells, AOp.dst, LV.I, LV.B, LV.U, LV.S, LV.nil, Nat.reduceEqDiff, Nat.reduceAdd, Nat.reduceMul, Nat.reduceSub, Nat.reduceLeDiff, Nat.reduceBEq, Nat.reduceDiv, Nat.reduceMod, Int.reduceToNat, Int.reduceLT, Int.reduceLE, Int.reduceAdd, Int.reduceSub, Int.reduceMul, Int.reduceEq, Int.reduceNeg, reduceCtorEq, resV, resAll, ARes.ev, LV.flat, ite_true, ite_false, exists_eq_left', exists_eq_left, keyOf, implies_true, fillC, capOf]
    exact ⟨m - 1, by omega, i + 1, by omega, rfl, f0, eqI (by omega), eqI (natI _)⟩
  · simp (disch := omega) only [f0, f3, f4, ↓SXd, SXu, slBounds, ↓sop, ↓aop, ↓reduceIte, LV.cells, AOp.dst, LV.I, LV.B, LV.U, LV.S, LV.nil, Nat.reduceEqDiff, Nat.reduceAdd, Nat.reduceMul, Nat.reduceSub, Nat.reduceLeDiff, Nat.reduceBEq, Nat.reduceDiv, Nat.reduceMod, Int.reduceToNat, Int.reduceLT, Int.reduceLE, Int.reduceAdd, Int.reduceSub, Int.reduceMul, Int.reduceEq, Int.reduceNeg, reduceCtorEq, resV, resAll, ARes.ev, LV.flat, ite_true, ite_false, exists_eq_left', exists_eq_left, keyOf, implies_true, fillC, capOf]
    have : i = L.length := by omega
    subst this
    rw [List.take_length]
    exact cmp_drop0 rfl

noncomputable def pkP (x y z : Int) (cs : List Cell) (L : List (List Cell)) (xs : List Int) : Bool × Bool := if AskOK x y z cs L then (decide (SpecPk x y z cs L xs), true) else (false, false)
end Go.Ab

/- Contracts: FaultPlanes, the reference's side. -/
namespace Go.Ab
open Go
set_option linter.unusedSimpArgs false
set_option linter.unusedVariables false
set_option maxRecDepth 20000

/-- Cell i lies before plane k, cell j not, and both are of one piece. -/
def CrossAt (y z : Int) (xs : List Int) (d k i j : Nat) : Prop := 0 ≤ xs.getD i 0 ∧ xs.getD j 0 = xs.getD i 0 ∧ (cellAt y z i).at (d : Int) < k ∧ (k : Int) ≤ (cellAt y z j).at (d : Int)
def Crossed (x y z : Int) (xs : List Int) (d k : Nat) : Prop := ∃ i, i < vol x y z ∧ ∃ j, j < vol x y z ∧ CrossAt y z xs d k i j
noncomputable instance {x y z : Int} {xs : List Int} {d k : Nat} : Decidable (Crossed x y z xs d k) := Classical.propDecidable _
noncomputable def plK (x y z : Int) (xs : List Int) (d : Nat) : Nat → List Int
  | 0 => []
  | k + 1 => plK x y z xs d k ++ (if 1 ≤ k ∧ ¬ Crossed x y z xs d k then [(d : Int), (k : Int)] else [])
noncomputable def plD (x y z : Int) (xs : List Int) : Nat → List Int
  | 0 => []
  | d + 1 => plD x y z xs d ++ plK x y z xs d (sideOf x y z (d : Int)).toNat
noncomputable def planesN (x y z : Int) (cs : List Cell) (L : List (List Cell)) (xs : List Int) : Option (List Int) := if AskOK x y z cs L ∧ SpecPk x y z cs L xs then some (plD x y z xs 3) else none
/-- A list of pairs of numbers, or none, and whether there is one. -/
def PairsRes (M : Mem) (r : Option (List Int)) (v : LV) (N : Mem) : Prop := ∃ w n, v = .tup [w, .B r.isSome] ∧ SlF N w n (r.getD []) ∧ n ≤ 100 ∧ Newer M w ∧ Pre M N

end Go.Ab

/- The abstract code of some functions (written by a program of mine from the translation, by way of prepF). -/
namespace Go.Ab.C
open Go.Ab
end Go.Ab.C

/- That the program has this code. -/
namespace Go.Ab.K
open Go Go.Ab
end Go.Ab.K

/- Contracts: packings, the program's side. -/
namespace Go.Ab
open Go
set_option linter.unusedSimpArgs false
set_option linter.unusedVariables false
set_option maxRecDepth 20000

end Go.Ab

/- Contracts: FaultPlanes, the program's side. -/
namespace Go.Ab
open Go
set_option linter.unusedSimpArgs false
set_option linter.unusedVariables false
set_option maxRecDepth 20000

end Go.Ab

/- The abstract code of some functions (written by a program of mine from the translation, by way of prepF). -/
namespace Go.Ab.C
open Go.Ab
def spec_l1Own : AFn :=
  ⟨1, 6, [.tmp 2],
    .seq (.ops [(none, .mv 2 (.c .nil))])
    (.seq (.ops [(none, .buildSl 3 0 1 [] []),
        (none, .mv 4 (.t 0)),
        (none, .append 5 1 8 (.t 3) (.t 4)),
        (none, .mv 2 (.t 5))])
     (.ret))⟩
end Go.Ab.C

/- That the program has this code. -/
namespace Go.Ab.K
open Go Go.Ab
theorem spec_l1Own : prepF Go.Proofs.Try.prog F.spec_l1Own = some C.spec_l1Own := by kernel_rfl
end Go.Ab.K

/- The abstract code of some functions (written by a program of mine from the translation, by way of prepF). -/
namespace Go.Ab.C
open Go.Ab
end Go.Ab.C

/- That the program has this code. -/
namespace Go.Ab.K
open Go Go.Ab
end Go.Ab.K

/- Contracts: views, the program's side. -/
namespace Go.Ab
open Go
set_option linter.unusedSimpArgs false
set_option linter.unusedVariables false

/-- One more cube in a view. -/
def viewStep (y z : Int) (d : Nat) (v : List Int) (c : Cell) : List Int := v.set (lineOf y z c d).toNat (v.getD (lineOf y z c d).toNat 0 + 1)
def viewL (x y z : Int) (d : Nat) (cs : List Cell) : List Int := cs.foldl (viewStep y z d) (List.replicate (linesOf x y z d).toNat 0)
end Go.Ab

/- Plain: how often a line of a box is met by cells of a list; cells that are alone in a line. -/
namespace Go.Ab
open Go
set_option linter.unusedSimpArgs false
set_option linter.unusedVariables false

def onLine (y z : Int) (d : Nat) (i : Nat) (c : Cell) : Bool := decide ((lineOf y z c d).toNat = i)
/-- A cell alone, among cells, in one of its lines of the first k directions. -/
def aloneK (y z : Int) (cs : List Cell) : Nat → Cell → Bool
  | 0, _ => false
  | k + 1, c => aloneK y z cs k c || decide (cs.countP (onLine y z k (lineOf y z c k).toNat) = 1)
/-- The lit lines of a shadow. -/
def litL (xs : List Int) (n : Nat) : List Nat := (List.range n).filter fun i => decide (xs.getD i 0 = 1)
def litTo (tp fr sd : List Int) (d i : Nat) : List (Nat × Nat) := ((List.range d).flatMap fun e => (litL (shdList e tp fr sd) (shdList e tp fr sd).length).map fun j => (e, j)) ++ (litL (shdList d tp fr sd) i).map fun j => (d, j)
def lits (tp fr sd : List Int) : List (Nat × Nat) := litTo tp fr sd 3 0
/-- The cells of p in a line. -/
def inLine (y z : Int) (p : Cell → Bool) (q : Nat × Nat) (c : Cell) : Bool := p c && onLine y z q.1 q.2 c
/-- The lines as sets. -/
def lineSets (x y z : Int) (p : Cell → Bool) (L : List (Nat × Nat)) : List LV := L.map fun q => .W (bs x y z (inLine y z p q))
/-- Among the first k lit lines one has the cell, and no other allowed one. -/
def mustTo (x y z : Int) (p : Cell → Bool) (L : List (Nat × Nat)) (c : Cell) : Bool := decide (∃ q ∈ L, (pick x y z (inLine y z p q)).length = 1 ∧ inLine y z p q c = true)
end Go.Ab

/- Plain: lit lines without a cube, as the reference lists them. -/
namespace Go.Ab
open Go
set_option linter.unusedSimpArgs false
set_option linter.unusedVariables false

def offL (tp fr : List Int) (d : Nat) : Nat := if d = 2 then 0 else if d = 1 then tp.length else tp.length + fr.length
/-- The place of a cell's line among all lines. -/
def gl (y z : Int) (tp fr : List Int) (d : Nat) (c : Cell) : Nat := offL tp fr d + (lineOf y z c d).toNat
def darkStep (y z : Int) (tp fr : List Int) (v : List Bool) (c : Cell) : List Bool := ((v.set (gl y z tp fr 2 c) false).set (gl y z tp fr 1 c) false).set (gl y z tp fr 0 c) false
def darkL (y z : Int) (tp fr sd : List Int) (cs : List Cell) : List Bool := cs.foldl (darkStep y z tp fr) ((tp ++ fr ++ sd).map fun n => decide (n = 1))
/-- Cells meet all lit lines. -/
def Meets (y z : Int) (L : List (Nat × Nat)) (cs : List Cell) : Prop := ∀ q ∈ L, ∃ c ∈ cs, onLine y z q.1 q.2 c = true
instance (y z : Int) (L : List (Nat × Nat)) (cs : List Cell) : Decidable (Meets y z L cs) := by unfold Meets; exact inferInstance
end Go.Ab

/- The abstract code of some functions (written by a program of mine from the translation, by way of prepF). -/
namespace Go.Ab.C
open Go.Ab
end Go.Ab.C

/- That the program has this code. -/
namespace Go.Ab.K
open Go Go.Ab
end Go.Ab.K

/- The abstract code of some functions (written by a program of mine from the translation, by way of prepF). -/
namespace Go.Ab.C
open Go.Ab
end Go.Ab.C

/- That the program has this code. -/
namespace Go.Ab.K
open Go Go.Ab
end Go.Ab.K

/- The abstract code of some functions (written by a program of mine from the translation, by way of prepF). -/
namespace Go.Ab.C
open Go.Ab
end Go.Ab.C

/- That the program has this code. -/
namespace Go.Ab.K
open Go Go.Ab
end Go.Ab.K

/- The abstract code of some functions (written by a program of mine from the translation, by way of prepF). -/
namespace Go.Ab.C
open Go.Ab
end Go.Ab.C

/- That the program has this code. -/
namespace Go.Ab.K
open Go Go.Ab
end Go.Ab.K

/- Contracts: views, the reference's side. -/
namespace Go.Ab
open Go
set_option linter.unusedSimpArgs false
set_option linter.unusedVariables false
set_option maxRecDepth 20000

end Go.Ab

/- Contracts: lists of numbers that are the same; shadows of heaps, the reference's side. -/
namespace Go.Ab
open Go
set_option linter.unusedSimpArgs false
set_option linter.unusedVariables false

end Go.Ab

/- Contracts: shadows of heaps, the reference's side. -/
namespace Go.Ab
open Go
set_option linter.unusedSimpArgs false
set_option linter.unusedVariables false

def onesL (v : List Int) : List Int := v.map fun n => min n 1
def shdOf (x y z : Int) (d : Nat) (cs : List Cell) : List Int := onesL (viewL x y z d cs)
end Go.Ab

/- Contracts: whether a heap has a shadow, the reference's side. -/
namespace Go.Ab
open Go
set_option linter.unusedSimpArgs false
set_option linter.unusedVariables false

section
variable {x y z : Int} {t o : Nat} {cs : List Cell} {M : Mem} (h : Tri M t o cs) (hH : HeapOK x y z cs)
include h hH
end

/-- A set of cells has a shadow. -/
def HasShd (x y z : Int) (tp fr sd : List Int) (cs : List Cell) : Prop := shdOf x y z 2 cs = tp ∧ shdOf x y z 1 cs = fr ∧ shdOf x y z 0 cs = sd
instance (x y z : Int) (tp fr sd : List Int) (cs : List Cell) : Decidable (HasShd x y z tp fr sd cs) := by unfold HasShd; exact inferInstance
end Go.Ab

/- Contracts: lit lines without a cube, the reference's side. -/
namespace Go.Ab
open Go
set_option linter.unusedSimpArgs false
set_option linter.unusedVariables false
set_option maxRecDepth 20000

theorem appendK_list {M : Mem} {t t2 o2 n n2 e b : Nat} {acc new : List LV} {A : LV → Mem → Prop} (ht : Live M t (.row acc true e)) (hn : acc.length = n * e) (h2 : Has M t2 o2 new) (hne : new.length = n2 * e) (hb : (n + n2) * b ≤ 140737488355328) (hl : n + n2 ≤ 9223372036854775807)
    (hA : ∀ u M', M.length ≤ M'.length → Live M' u (.row (acc ++ new) true e) → (u = t ∨ M.length ≤ u) → (∀ w, w ≠ t → w < M.length → M'[w]? = M[w]?) → A (.ref u 0 (n + n2)) M') : appendK e b (.ref t 0 n) (.ref t2 o2 n2) M A := by
  rcases Nat.eq_zero_or_pos n2 with h0 | h0
  · subst h0
    have : new = [] := List.eq_nil_of_length_eq_zero (by omega)
    subst this
    rw [appendK_zero]
    exact ⟨⟨by omega, by omega⟩, hA t M (Nat.le_refl _) (by rw [List.append_nil]; exact ht) (.inl rfl) fun _ _ _ => rfl⟩
  · rw [appendK_pos h0 (by rw [← hne]; exact h2.all) ht (by omega)]
    refine ⟨⟨hb, hl⟩, hA _ _ (by simp) ?_ (.inr (Nat.le_refl _)) fun w hw hwl => ?_⟩
    · unfold Live
      rw [List.getElem?_append_right (by simp)]
      simp [← hn]
    · rw [List.getElem?_append_left (by simpa using hwl), List.getElem?_set_ne (fun e => hw e.symm)]
theorem pre_stepL {M0 M M' : Mem} {t : Nat} (hp : Pre M0 M) (ht : M0.length ≤ t) (hl : M.length ≤ M'.length) (hu : ∀ u, u ≠ t → u < M.length → M'[u]? = M[u]?) : Pre M0 M' :=
  ⟨Nat.le_trans hp.1 hl, fun u hu' => by rw [hu u (by omega) (Nat.lt_of_lt_of_le hu' hp.1)]; exact hp.2 u hu'⟩

def boolL (v : List Bool) : List LV := v.map LV.B
theorem h_l1Own {xs : List Int} {t o : Nat} {M : Mem} (h : Ints M t o xs) (hn : xs.length ≤ 1000000000) : CallsTo PG F.spec_l1Own [.ref t o xs.length] M (.ref M.length 0 xs.length) (M ++ [some (.row (intL xs) true 1)]) := by
  refine calls_run K.spec_l1Own rfl ?_
  simp (disch := omega) only [C.spec_l1Own, ↓SXd, SXu, slBounds, ↓sop, ↓aop, ↓reduceIte, LV.cells, AOp.dst, LV.I, LV.B, LV.U, LV.S, LV.nil, Nat.reduceEqDiff, Nat.reduceAdd, Nat.reduceMul, Nat.reduceSub, Nat.reduceLeDiff, Nat.reduceBEq, Nat.reduceDiv, Nat.reduceMod, Int.reduceToNat, Int.reduceLT, Int.reduceLE, Int.reduceAdd, Int.reduceSub, Int.reduceMul, Int.reduceEq, Int.reduceNeg, reduceCtorEq, resV, resAll, ARes.ev, LV.flat, ite_true, ite_false, exists_eq_left', exists_eq_left, keyOf, implies_true, fillC, capOf]
  refine appendK_list (acc := []) (n := 0) Live.new rfl h.app (by rw [intL_len, Nat.mul_one]) (by omega) (by omega) fun u N k1 k2 k3 k4 => ?_
  simp (disch := omega) only [↓SXd, SXu, slBounds, ↓sop, ↓aop, ↓reduceIte, LV.cells, AOp.dst, LV.I, LV.B, LV.U, LV.S, LV.nil, Nat.reduceEqDiff, Nat.reduceAdd, Nat.reduceMul, Nat.reduceSub, Nat.reduceLeDiff, Nat.reduceBEq, Nat.reduceDiv, Nat.reduceMod, Int.reduceToNat, Int.reduceLT, Int.reduceLE, Int.reduceAdd, Int.reduceSub, Int.reduceMul, Int.reduceEq, Int.reduceNeg, reduceCtorEq, resV, resAll, ARes.ev, LV.flat, ite_true, ite_false, exists_eq_left', exists_eq_left, keyOf, implies_true, fillC, capOf]
  exact cmp_keepL (pre_stepL (Pre.app _ _) (t := M.length) (Nat.le_refl _) k1 k4) (by simp at k3; omega) k2 (intL_lo _) (by simp [rn, rn0, rn1])

def stepTo (y z : Int) (tp fr : List Int) (V : List Bool) (c : Cell) : Nat → List Bool
  | 0 => V
  | k + 1 => (stepTo y z tp fr V c k).set (gl y z tp fr (2 - k) c) false
end Go.Ab
