/- Parts of the proof of FnExactFirstFewestSaid: C_Uj K_Uj C_Ui K_Ui C_Uh K_Uh C_Tc K_Tc C_Tb K_Tb Ta Tb C_Od K_Od Nd Oc Od Tc Uh C_Td K_Td Td Ui Uj C_Uf K_Uf Uf Uk Wb C_Vd K_Vd C_Vc K_Vc C_Um K_Um C_Ul K_Ul. -/
import Derived.Test.YtjpdjjeddagjlaaA3
import Derived.Test.YtjpdjjeddagjlaaA4
import Derived.Test.YtjpdjjeddagjlaaProg
import Derived.KernelRfl
import Derived.Test.YtjpdjjeddagjlaaA6
import Derived.Test.YtjpdjjeddagjlaaA5
set_option linter.all false
/- The abstract code of some functions (written by a program of mine from the translation, by way of prepF). -/
namespace Go.Ab.C
open Go.Ab
def spec_l2Ones : AFn :=
  ⟨1, 21, [.tmp 2],
    .seq (.ops [(none, .mv 2 (.c .nil))])
    (.seq (.ops [(none, .buildSl 5 0 1 [] []),
        (none, .mv 3 (.t 5))])
     (.seq (.seq (.ops [(none, .mv 4 (.c (.I 0)))])
       (.block 0 (.loop (.seq (.seq (.ops [(none, .mv 6 (.t 4)),
              (none, .mv 7 (.t 0)),
              (none, .len 8 (.t 7)),
              (none, .bin 9 .lss (.t 6) (.t 8))])
           (.cond (.t 9) (.skip)
            (.exit 0)))
          (.seq (.block 1 (.ops [(none, .mv 12 (.t 3)),
               (none, .mv 13 (.t 0)),
               (none, .mv 14 (.t 4)),
               (none, .idxS 15 1 (.t 13) (.t 14)),
               (none, .load1 16 (.t 15)),
               (none, .call (some 17) F.spec_l1Least [(.t 16), (.c (.I 1))]),
               (none, .buildSl 18 1 1 [(.I 0)] [(0, 1, (.t 17))]),
               (none, .append 19 1 8 (.t 12) (.t 18)),
               (none, .mv 3 (.t 19))]))
           (.ops [(none, .mv 10 (.t 4)),
              (none, .bin 11 .add (.t 10) (.c (.I 1))),
              (none, .mv 4 (.t 11))]))))))
      (.seq (.ops [(none, .mv 20 (.t 3)),
          (none, .mv 2 (.t 20))])
       (.ret))))⟩
def spec_l2Top : AFn :=
  ⟨1, 6, [.tmp 2],
    .seq (.ops [(none, .box 1 (.t 0)),
       (none, .mv 2 (.c .nil))])
    (.seq (.ops [(none, .loadN 3 4 (.t 1)),
        (none, .call (some 4) F.spec_l2View [(.t 3), (.c (.I 2))]),
        (none, .call (some 5) F.spec_l2Ones [(.t 4)]),
        (none, .mv 2 (.t 5))])
     (.ret))⟩
def spec_l2Front : AFn :=
  ⟨1, 6, [.tmp 2],
    .seq (.ops [(none, .box 1 (.t 0)),
       (none, .mv 2 (.c .nil))])
    (.seq (.ops [(none, .loadN 3 4 (.t 1)),
        (none, .call (some 4) F.spec_l2View [(.t 3), (.c (.I 1))]),
        (none, .call (some 5) F.spec_l2Ones [(.t 4)]),
        (none, .mv 2 (.t 5))])
     (.ret))⟩
def spec_l2Side : AFn :=
  ⟨1, 6, [.tmp 2],
    .seq (.ops [(none, .box 1 (.t 0)),
       (none, .mv 2 (.c .nil))])
    (.seq (.ops [(none, .loadN 3 4 (.t 1)),
        (none, .call (some 4) F.spec_l2View [(.t 3), (.c (.I 0))]),
        (none, .call (some 5) F.spec_l2Ones [(.t 4)]),
        (none, .mv 2 (.t 5))])
     (.ret))⟩
end Go.Ab.C

/- That the program has this code. -/
namespace Go.Ab.K
open Go Go.Ab
theorem spec_l2Ones : prepF Go.Proofs.Try.prog F.spec_l2Ones = some C.spec_l2Ones := by kernel_rfl
theorem spec_l2Top : prepF Go.Proofs.Try.prog F.spec_l2Top = some C.spec_l2Top := by kernel_rfl
theorem spec_l2Front : prepF Go.Proofs.Try.prog F.spec_l2Front = some C.spec_l2Front := by kernel_rfl
theorem spec_l2Side : prepF Go.Proofs.Try.prog F.spec_l2Side = some C.spec_l2Side := by kernel_rfl
end Go.Ab.K

/- The abstract code of some functions (written by a program of mine from the translation, by way of prepF). -/
namespace Go.Ab.C
open Go.Ab
def spec_l1Same : AFn :=
  ⟨2, 26, [.tmp 4],
    .seq (.ops [(none, .mv 4 (.c (.B false)))])
    (.seq (.seq (.ops [(none, .mv 6 (.t 0)),
         (none, .len 7 (.t 6)),
         (none, .mv 8 (.t 1)),
         (none, .len 9 (.t 8)),
         (none, .bin 10 .neq (.t 7) (.t 9))])
      (.cond (.t 10) (.seq (.ops [(none, .mv 4 (.c (.B false)))])
        (.ret))
       (.skip)))
     (.seq (.seq (.ops [(none, .mv 5 (.c (.I 0)))])
       (.block 0 (.loop (.seq (.seq (.ops [(none, .mv 11 (.t 5)),
              (none, .mv 12 (.t 0)),
              (none, .len 13 (.t 12)),
              (none, .bin 14 .lss (.t 11) (.t 13))])
           (.cond (.t 14) (.skip)
            (.exit 0)))
          (.seq (.block 1 (.seq (.draw [⟨(none, .mv 17 (.t 0)), [], []⟩,
                ⟨(none, .mv 18 (.t 5)), [], []⟩,
                ⟨(none, .idxS 19 1 (.t 17) (.t 18)), [], []⟩,
                ⟨(none, .load1 20 (.t 19)), [], []⟩,
                ⟨(none, .mv 21 (.t 1)), [], []⟩,
                ⟨(none, .mv 22 (.t 5)), [], []⟩,
                ⟨(none, .idxS 23 1 (.t 21) (.t 22)), [], []⟩,
                ⟨(none, .load1 24 (.t 23)), [], []⟩,
                ⟨(none, .bin 25 .neq (.t 20) (.t 24)), [], []⟩])
             (.cond (.t 25) (.seq (.ops [(none, .mv 4 (.c (.B false)))])
               (.ret))
              (.skip))))
           (.ops [(none, .mv 15 (.t 5)),
              (none, .bin 16 .add (.t 15) (.c (.I 1))),
              (none, .mv 5 (.t 16))]))))))
      (.seq (.ops [(none, .mv 4 (.c (.B true)))])
       (.ret))))⟩
def slices_Equal_Sint_int : AFn :=
  ⟨2, 26, [.tmp 4],
    .seq (.ops [(none, .mv 4 (.c (.B false)))])
    (.seq (.seq (.ops [(none, .mv 6 (.t 0)),
         (none, .len 7 (.t 6)),
         (none, .mv 8 (.t 1)),
         (none, .len 9 (.t 8)),
         (none, .bin 10 .neq (.t 7) (.t 9))])
      (.cond (.t 10) (.seq (.ops [(none, .mv 4 (.c (.B false)))])
        (.ret))
       (.skip)))
     (.seq (.seq (.ops [(none, .mv 11 (.t 0)),
          (none, .len 12 (.t 11)),
          (none, .mv 13 (.c (.I 0)))])
       (.block 0 (.loop (.seq (.ops [(none, .bin 14 .lss (.t 13) (.t 12))])
          (.seq (.cond (.t 14) (.skip)
            (.exit 0))
           (.seq (.block 1 (.seq (.ops [(none, .mv 15 (.t 13)),
                 (none, .mv 5 (.t 15))])
              (.seq (.draw [⟨(none, .mv 16 (.t 0)), [], []⟩,
                  ⟨(none, .mv 17 (.t 5)), [], []⟩,
                  ⟨(none, .idxS 18 1 (.t 16) (.t 17)), [], []⟩,
                  ⟨(none, .load1 19 (.t 18)), [], []⟩,
                  ⟨(none, .mv 20 (.t 1)), [], []⟩,
                  ⟨(none, .mv 21 (.t 5)), [], []⟩,
                  ⟨(none, .idxS 22 1 (.t 20) (.t 21)), [], []⟩,
                  ⟨(none, .load1 23 (.t 22)), [], []⟩,
                  ⟨(none, .bin 24 .neq (.t 19) (.t 23)), [], []⟩])
               (.cond (.t 24) (.seq (.ops [(none, .mv 4 (.c (.B false)))])
                 (.ret))
                (.skip)))))
            (.ops [(none, .bin 25 .add (.t 13) (.c (.I 1))),
               (none, .mv 13 (.t 25))])))))))
      (.seq (.ops [(none, .mv 4 (.c (.B true)))])
       (.ret))))⟩
end Go.Ab.C

/- That the program has this code. -/
namespace Go.Ab.K
open Go Go.Ab
theorem spec_l1Same : prepF Go.Proofs.Try.prog F.spec_l1Same = some C.spec_l1Same := by kernel_rfl
theorem slices_Equal_Sint_int : prepF Go.Proofs.Try.prog F.slices_Equal_Sint_int = some C.slices_Equal_Sint_int := by kernel_rfl
end Go.Ab.K

/- The abstract code of some functions (written by a program of mine from the translation, by way of prepF). -/
namespace Go.Ab.C
open Go.Ab
def spec_l2Others : AFn :=
  ⟨1, 9, [.tmp 2, .tmp 3],
    .seq (.ops [(none, .mv 2 (.c (.I 0))),
       (none, .mv 3 (.c (.I 0)))])
    (.seq (.seq (.ops [(none, .mv 4 (.t 0))])
      (.block 0 (.seq (.ops [(none, .bin 6 .eql (.t 4) (.c (.I 0))),
           (none, .mv 5 (.t 6))])
        (.cond (.t 5) (.seq (.ops [(none, .mv 2 (.c (.I 1))),
             (none, .mv 3 (.c (.I 2)))])
          (.ret))
         (.seq (.ops [(none, .bin 8 .eql (.t 4) (.c (.I 1))),
             (none, .mv 7 (.t 8))])
          (.cond (.t 7) (.seq (.ops [(none, .mv 2 (.c (.I 0))),
               (none, .mv 3 (.c (.I 2)))])
            (.ret))
           (.skip)))))))
     (.seq (.ops [(none, .mv 2 (.c (.I 0))),
         (none, .mv 3 (.c (.I 1)))])
      (.ret)))⟩
def spec_l2View : AFn :=
  ⟨2, 54, [.tmp 4],
    .seq (.ops [(none, .box 2 (.t 0)),
       (none, .mv 4 (.c .nil))])
    (.seq (.ops [(none, .mv 10 (.t 1)),
        (none, .call (some 11) F.spec_l2Others [(.t 10)]),
        (none, .mv 9 (.t 11)),
        (none, .extract 12 (.t 9) 0),
        (none, .extract 13 (.t 9) 1),
        (none, .mv 5 (.t 12)),
        (none, .mv 6 (.t 13))])
     (.seq (.draw [⟨(none, .loadN 14 4 (.t 2)), [], []⟩,
         ⟨(none, .mv 15 (.t 5)), [], []⟩,
         ⟨(none, .loadN 17 4 (.t 2)), [], []⟩,
         ⟨(none, .mv 18 (.t 6)), [], []⟩,
         ⟨(none, .call (some 16) F.spec_l2Long [(.t 14), (.t 15)]), [], [2, 3]⟩,
         ⟨(none, .call (some 19) F.spec_l2Long [(.t 17), (.t 18)]), [], []⟩,
         ⟨(none, .bin 20 .mul (.t 16) (.t 19)), [], []⟩,
         ⟨(none, .mksl 21 1 8 [(.I 0)] (.t 20) (.t 20)), [], []⟩,
         ⟨(none, .mv 7 (.t 21)), [], []⟩])
      (.seq (.seq (.ops [(none, .mv 8 (.c (.I 0)))])
        (.block 0 (.loop (.seq (.seq (.ops [(none, .mv 22 (.t 8)),
               (none, .fieldAddr 23 (.t 2) 3),
               (none, .load1 24 (.t 23)),
               (none, .len 25 (.t 24)),
               (none, .bin 26 .lss (.t 22) (.t 25))])
            (.cond (.t 26) (.skip)
             (.exit 0)))
           (.seq (.block 1 (.draw [⟨(none, .mv 29 (.t 7)), [], []⟩,
                ⟨(none, .fieldAddr 30 (.t 2) 3), [], []⟩,
                ⟨(none, .load1 31 (.t 30)), [], []⟩,
                ⟨(none, .mv 32 (.t 8)), [], []⟩,
                ⟨(none, .mv 33 (.t 5)), [], []⟩,
                ⟨(none, .idxS 34 3 (.t 31) (.t 32)), [], []⟩,
                ⟨(none, .idxA 35 3 1 (.t 34) (.t 33)), [], []⟩,
                ⟨(none, .load1 36 (.t 35)), [], []⟩,
                ⟨(none, .loadN 37 4 (.t 2)), [], []⟩,
                ⟨(none, .mv 38 (.t 6)), [], []⟩,
                ⟨(none, .fieldAddr 41 (.t 2) 3), [], []⟩,
                ⟨(none, .load1 42 (.t 41)), [], []⟩,
                ⟨(none, .mv 43 (.t 8)), [], []⟩,
                ⟨(none, .mv 44 (.t 6)), [], []⟩,
                ⟨(none, .idxS 45 3 (.t 42) (.t 43)), [], []⟩,
                ⟨(none, .idxA 46 3 1 (.t 45) (.t 44)), [], []⟩,
                ⟨(none, .load1 47 (.t 46)), [], []⟩,
                ⟨(none, .call (some 39) F.spec_l2Long [(.t 37), (.t 38)]), [], [0, 1, 2, 3, 4, 5, 6, 7, 10, 11, 12, 13, 14, 15, 16]⟩,
                ⟨(none, .bin 40 .mul (.t 36) (.t 39)), [], []⟩,
                ⟨(none, .bin 48 .add (.t 40) (.t 47)), [], []⟩,
                ⟨(none, .idxS 49 1 (.t 29) (.t 48)), [], []⟩,
                ⟨(none, .load1 50 (.t 49)), [], []⟩,
                ⟨(none, .bin 51 .add (.t 50) (.c (.I 1))), [], []⟩,
                ⟨(none, .idxS 52 1 (.t 29) (.t 48)), [], []⟩,
                ⟨(none, .store 1 (.t 52) (.t 51)), [], []⟩]))
            (.ops [(none, .mv 27 (.t 8)),
               (none, .bin 28 .add (.t 27) (.c (.I 1))),
               (none, .mv 8 (.t 28))]))))))
       (.seq (.ops [(none, .mv 53 (.t 7)),
           (none, .mv 4 (.t 53))])
        (.ret)))))⟩
end Go.Ab.C

/- That the program has this code. -/
namespace Go.Ab.K
open Go Go.Ab
theorem spec_l2Others : prepF Go.Proofs.Try.prog F.spec_l2Others = some C.spec_l2Others := by kernel_rfl
theorem spec_l2View : prepF Go.Proofs.Try.prog F.spec_l2View = some C.spec_l2View := by kernel_rfl
end Go.Ab.K

/- The abstract code of some functions (written by a program of mine from the translation, by way of prepF). -/
namespace Go.Ab.C
open Go.Ab
end Go.Ab.C

/- That the program has this code. -/
namespace Go.Ab.K
open Go Go.Ab
end Go.Ab.K

/- The abstract code of some functions (written by a program of mine from the translation, by way of prepF). -/
namespace Go.Ab.C
open Go.Ab
def spec_l2Long : AFn :=
  ⟨2, 14, [.tmp 4],
    .seq (.ops [(none, .box 2 (.t 0)),
       (none, .mv 4 (.c (.I 0)))])
    (.seq (.ops [(none, .fieldAddr 5 (.t 2) 0),
        (none, .load1 6 (.t 5)),
        (none, .fieldAddr 7 (.t 2) 1),
        (none, .load1 8 (.t 7)),
        (none, .fieldAddr 9 (.t 2) 2),
        (none, .load1 10 (.t 9)),
        (none, .build 11 [(.I 0), (.I 0), (.I 0)] [(0, 1, (.t 6)), (1, 1, (.t 8)), (2, 1, (.t 10))]),
        (none, .mv 12 (.t 1)),
        (none, .index 13 3 1 false (.t 11) (.t 12)),
        (none, .mv 4 (.t 13))])
     (.ret))⟩
end Go.Ab.C

/- That the program has this code. -/
namespace Go.Ab.K
open Go Go.Ab
theorem spec_l2Long : prepF Go.Proofs.Try.prog F.spec_l2Long = some C.spec_l2Long := by kernel_rfl
end Go.Ab.K

/- Plain words: the 24 turns of a box. -/
namespace Go.Ab
open Go

def Cell.at (c : Cell) (d : Int) : Int := if d = 0 then c.a else if d = 1 then c.b else c.c
def Dir (d : Int) : Prop := d = 0 ∨ d = 1 ∨ d = 2
/-- How many pairs are out of order, modulo 2. -/
def oddOf (c : Cell) : Int := ((if c.a > c.b then 1 else 0) + (if c.a > c.c then 1 else 0) + (if c.b > c.c then 1 else 0)) % 2
structure Turn where
  fr : Cell
  fl : Cell
deriving DecidableEq
def Turn.row (t : Turn) : List LV := t.fr.row ++ t.fl.row
def sixL (l : List Turn) : List LV := l.flatMap Turn.row
/-- The turn that the n-th attempt finds. -/
def turnAt (n : Nat) : Option Turn :=
  if n / 24 ≠ n / 8 % 3 ∧ oddOf ⟨n / 24, n / 8 % 3, 3 - n / 24 - n / 8 % 3⟩ = (n % 8 / 4 + n % 8 / 2 % 2 + n % 8 % 2) % 2 then
    some ⟨⟨n / 24, n / 8 % 3, 3 - n / 24 - n / 8 % 3⟩, ⟨n % 8 / 4, n % 8 / 2 % 2, n % 8 % 2⟩⟩ else none
def turnsU (n : Nat) : List Turn := (List.range n).filterMap turnAt
def turns : List Turn := turnsU 72
def sideOf (x y z d : Int) : Int := if d = 0 then x else if d = 1 then y else z
/-- A coordinate of a cell behind a turn: taken from direction s, mirrored or not. -/
def turnC (x y z : Int) (c : Cell) (s f : Int) : Int := if f = 1 then sideOf x y z s - 1 - c.at s else c.at s
def mapT (x y z : Int) (t : Turn) (c : Cell) : Cell := ⟨turnC x y z c t.fr.a t.fl.a, turnC x y z c t.fr.b t.fl.b, turnC x y z c t.fr.c t.fl.c⟩
/-- The three directions, in any order. -/
def OkT (t : Turn) : Prop := Dir t.fr.a ∧ Dir t.fr.b ∧ Dir t.fr.c
instance (d : Int) : Decidable (Dir d) := by unfold Dir; exact inferInstance
instance (t : Turn) : Decidable (OkT t) := by unfold OkT; exact inferInstance
def turnHp (x y z : Int) (t : Turn) (cs : List Cell) : Hp := ⟨sideOf x y z t.fr.a, sideOf x y z t.fr.b, sideOf x y z t.fr.c, pick (sideOf x y z t.fr.a) (sideOf x y z t.fr.b) (sideOf x y z t.fr.c) fun d => decide (d ∈ cs.map (mapT x y z t))⟩
section
variable {x y z : Int}
theorem sideOf_in (hS : Sides x y z) (d : Int) : 1 ≤ sideOf x y z d ∧ sideOf x y z d ≤ 4 := by
  obtain ⟨hx, hy, hz⟩ := hS
  unfold sideOf; split <;> (try split) <;> omega
theorem at_in {c : Cell} (hc : c.inBox x y z) (d : Int) : 0 ≤ c.at d ∧ c.at d < sideOf x y z d := by
  obtain ⟨⟨_, _⟩, ⟨_, _⟩, ⟨_, _⟩⟩ := hc
  unfold Cell.at sideOf; split <;> (try split) <;> omega
end
end Go.Ab

/- Contracts: the reference's turns. -/
namespace Go.Ab
open Go
set_option linter.unusedSimpArgs false
set_option linter.unusedVariables false

theorem h_l2Long {x y z d : Int} {v : LV} {M : Mem} (hd : Dir d) : CallsTo PG F.spec_l2Long [.agg [.I x, .I y, .I z, v], .I d] M (.I (sideOf x y z d)) M := by
  refine calls_run K.spec_l2Long rfl ?_
  rcases hd with rfl | rfl | rfl
  all_goals
    simp (disch := omega) only [C.spec_l2Long, splice, ↓SXd, SXu, slBounds, ↓sop, ↓aop, ↓reduceIte, LV.cells, AOp.dst, LV.I, LV.B, LV.U, LV.S, LV.nil, Nat.reduceEqDiff, Nat.reduceAdd, Nat.reduceMul, Nat.reduceSub, Nat.reduceLeDiff, Nat.reduceBEq, Nat.reduceDiv, Nat.reduceMod, Int.reduceToNat, Int.reduceLT, Int.reduceLE, Int.reduceAdd, Int.reduceSub, Int.reduceMul, Int.reduceEq, Int.reduceNeg, reduceCtorEq, resV, resAll, ARes.ev, LV.flat, ite_true, ite_false, exists_eq_left', exists_eq_left, keyOf, implies_true, fillC, capOf]
    exact cmp_drop rfl

/-- How many pairs are out of order whose greater place is before i, or i with the other one before k. -/
def oddK (c : Cell) (i k : Nat) : Int := (if (1 < i ∨ (i = 1 ∧ 0 < k)) ∧ c.a > c.b then 1 else 0) + (if (2 < i ∨ (i = 2 ∧ 0 < k)) ∧ c.a > c.c then 1 else 0) + (if (2 < i ∨ (i = 2 ∧ 1 < k)) ∧ c.b > c.c then 1 else 0)
end Go.Ab

/- The abstract code of some functions (written by a program of mine from the translation, by way of prepF). -/
namespace Go.Ab.C
open Go.Ab
end Go.Ab.C

/- That the program has this code. -/
namespace Go.Ab.K
open Go Go.Ab
end Go.Ab.K

/- Plain words: what is reached from some cells within a set. -/
namespace Go.Ab

/-- What is reached from the cells of p by way of cells of q, all in the box. -/
inductive Reach (x y z : Int) (p q : Cell → Bool) : Cell → Prop
  | base {c : Cell} : c.inBox x y z → p c = true → Reach x y z p q c
  | step {c d : Cell} : Reach x y z p q c → apart c d = 1 → d.inBox x y z → q d = true → Reach x y z p q d
noncomputable def reach (x y z : Int) (p q : Cell → Bool) : Cell → Bool := fun c => @decide (Reach x y z p q c) (Classical.propDecidable _)
theorem reach_iff {x y z : Int} {p q : Cell → Bool} {c : Cell} : reach x y z p q c = true ↔ Reach x y z p q c := by
  unfold reach; exact @decide_eq_true_iff _ (Classical.propDecidable _)
theorem Reach.inBox {x y z : Int} {p q : Cell → Bool} {c : Cell} (h : Reach x y z p q c) : c.inBox x y z := by
  cases h <;> assumption
theorem Reach.mono {x y z : Int} {p q p' q' : Cell → Bool} (hp : ∀ c, c.inBox x y z → p c = true → Reach x y z p' q' c) (hq : ∀ c, c.inBox x y z → q c = true → q' c = true) {c : Cell} (h : Reach x y z p q c) : Reach x y z p' q' c := by
  induction h with
  | base h1 h2 => exact hp _ h1 h2
  | step _ h2 h3 h4 ih => exact .step ih h2 h3 (hq _ h3 h4)
/-- What holds of the beginning and is carried on holds of all that is reached. -/
theorem Reach.ind {x y z : Int} {p q : Cell → Bool} {P : Cell → Prop} (h0 : ∀ c, c.inBox x y z → p c = true → P c) (h1 : ∀ c d, P c → apart c d = 1 → d.inBox x y z → q d = true → P d) {c : Cell} (h : Reach x y z p q c) : P c := by
  induction h with
  | base h2 h3 => exact h0 _ h2 h3
  | step _ h2 h3 h4 ih => exact h1 _ _ ih h2 h3 h4
/-- One round of growing: only of the first k cells. -/
noncomputable def growK (y z : Int) (p q : Cell → Bool) (k : Nat) : Cell → Bool := by
  classical
  exact fun c => p c || (q c && decide (∃ j, j < k ∧ p (cellAt y z j) = true ∧ apart (cellAt y z j) c = 1))
section
variable {x y z : Int} (hS : Sides x y z)
include hS
/-- How many cells of the box are not in the set. -/
def rest (x y z : Int) (p : Cell → Bool) : Nat := (pick x y z fun c => !p c).length
theorem filter_lt {α : Type} {l : List α} {p q : α → Bool} (h : ∀ a ∈ l, p a = true → q a = true) (hx : ∃ a ∈ l, q a = true ∧ p a = false) : (l.filter p).length < (l.filter q).length := by
  induction l with
  | nil => obtain ⟨a, ha, _⟩ := hx; cases ha
  | cons a l ih =>
    have hle : (l.filter p).length ≤ (l.filter q).length := by
      clear ih hx
      induction l with
      | nil => exact Nat.le_refl _
      | cons b l ih =>
        have := ih fun c hc => h c (by simp only [List.mem_cons] at hc ⊢; rcases hc with h | h <;> simp [h])
        by_cases hb : p b = true
        · rw [List.filter_cons_of_pos hb, List.filter_cons_of_pos (h b (by simp) hb)]; simpa using this
        · rw [List.filter_cons_of_neg hb]
          by_cases hq : q b = true
          · rw [List.filter_cons_of_pos hq, List.length_cons]; omega
          · rw [List.filter_cons_of_neg hq]; exact this
    by_cases ha : p a = true
    · have := ih (fun b hb => h b (by simp [hb])) (by
        obtain ⟨b, hb, h1, h2⟩ := hx
        rcases List.mem_cons.1 hb with rfl | hb
        · rw [ha] at h2; cases h2
        · exact ⟨b, hb, h1, h2⟩)
      rw [List.filter_cons_of_pos ha, List.filter_cons_of_pos (h a (by simp) ha), List.length_cons, List.length_cons]; omega
    · rw [List.filter_cons_of_neg ha]
      by_cases hq : q a = true
      · rw [List.filter_cons_of_pos hq, List.length_cons]; omega
      · rw [List.filter_cons_of_neg hq]
        exact ih (fun b hb => h b (by simp [hb])) (by
          obtain ⟨b, hb, h1, h2⟩ := hx
          rcases List.mem_cons.1 hb with rfl | hb
          · exact absurd h1 hq
          · exact ⟨b, hb, h1, h2⟩)
end
end Go.Ab

/- Plain words: parts; lists of lists of cells in the abstract memory. -/
namespace Go.Ab
open Go

/-- The parts of a set: what its first cell reaches, then the parts of the rest. -/
noncomputable def parts (x y z : Int) : Nat → (Cell → Bool) → List (List Cell)
  | 0, _ => []
  | f + 1, q => match pick x y z q with
    | [] => []
    | c :: _ => pick x y z (reach x y z (fun d => decide (d = c)) q) :: parts x y z f fun d => q d && !reach x y z (fun d => decide (d = c)) q d

/-- Lists of cells, each in a block of its own, the blocks in rising order. -/
def Css (N : Mem) (lo hi : Nat) : List LV → List (List Cell) → Prop
  | [], [] => True
  | r :: rs, l :: ls => ∃ u, lo ≤ u ∧ u < hi ∧ r = .ref u 0 l.length ∧ Live N u (.row (triL l) true 3) ∧ Css N (u + 1) hi rs ls
  | _, _ => False

theorem Css.len {N : Mem} {hi : Nat} : ∀ {lo : Nat} {rs : List LV} {ls : List (List Cell)}, Css N lo hi rs ls → rs.length = ls.length
  | _, [], [], _ => rfl
  | _, [], _ :: _, h => h.elim
  | _, _ :: _, [], h => h.elim
  | _, r :: rs, l :: ls, ⟨u, _, _, _, _, h⟩ => by simp [Css.len h]
theorem Css.mono {N N' : Mem} {hi hi' : Nat} (hh : hi ≤ hi') : ∀ {lo lo' : Nat} {rs : List LV} {ls : List (List Cell)}, lo' ≤ lo → (∀ u l, lo ≤ u → u < hi → Live N u (.row (triL l) true 3) → Live N' u (.row (triL l) true 3)) → Css N lo hi rs ls → Css N' lo' hi' rs ls
  | _, _, [], [], _, _, _ => trivial
  | _, _, [], _ :: _, _, _, h => h.elim
  | _, _, _ :: _, [], _, _, h => h.elim
  | lo, lo', r :: rs, l :: ls, hl, hk, ⟨u, h1, h2, h3, h4, h5⟩ => ⟨u, by omega, by omega, h3, hk u l h1 h2 h4, h5.mono hh (Nat.le_refl _) fun v l h6 h7 => hk v l (by omega) h7⟩
theorem Css.get {N : Mem} {hi : Nat} : ∀ {lo k : Nat} {rs : List LV} {ls : List (List Cell)}, Css N lo hi rs ls → k < ls.length → ∃ u, lo ≤ u ∧ u < hi ∧ rs[k]? = some (.ref u 0 (ls.getD k []).length) ∧ Live N u (.row (triL (ls.getD k [])) true 3)
  | _, k, [], [], _, hk => by simp at hk
  | _, _, [], _ :: _, h, _ => h.elim
  | _, _, _ :: _, [], h, _ => h.elim
  | lo, 0, r :: rs, l :: ls, ⟨u, h1, h2, h3, h4, _⟩, _ => ⟨u, h1, h2, by rw [h3]; rfl, h4⟩
  | lo, k + 1, r :: rs, l :: ls, ⟨u, h1, h2, h3, h4, h5⟩, hk => by
    obtain ⟨v, k1, k2, k3, k4⟩ := h5.get (k := k) (by simpa using hk)
    exact ⟨v, by omega, k2, by simpa using k3, k4⟩
/-- One block has changed that is none of these. -/
theorem Css.keep {M M' : Mem} {lo hi t : Nat} {rs : List LV} {ls : List (List Cell)} (h : Css M lo hi rs ls) (ht : (hi ≤ t ∨ t < lo) ∨ ∃ cs w e, Live M t (.row cs w e) ∧ e ≠ 3) (hu : ∀ u, u ≠ t → u < M.length → M'[u]? = M[u]?) : Css M' lo hi rs ls :=
  h.mono (Nat.le_refl _) (Nat.le_refl _) fun u l h1 h2 hL => by
    refine live_step hL (fun e => ?_) hu
    subst e
    rcases ht with h3 | ⟨cs, w, e, h3, h4⟩
    · omega
    · unfold Live at hL h3; rw [hL] at h3; cases h3; exact h4 rfl
theorem Css.pre {M N : Mem} {lo hi : Nat} {rs : List LV} {ls : List (List Cell)} (h : Css M lo hi rs ls) (hp : Pre M N) : Css N lo hi rs ls := h.mono (Nat.le_refl _) (Nat.le_refl _) fun _ _ _ _ hL => hL.pre hp

end Go.Ab

/- Contracts: the reference's parts. -/
namespace Go.Ab
open Go
set_option linter.unusedSimpArgs false
set_option linter.unusedVariables false

theorem memK_box {M : Mem} {t e : Nat} {old vs : List LV} {A : Mem → Prop} (ht : Live M t (.row old true e)) (hl : vs.length = old.length)
    (hA : ∀ M', M'.length = M.length → Live M' t (.row vs true e) → (∀ u, u ≠ t → u < M.length → M'[u]? = M[u]?) → A M') : memK (setCells M t 0 vs) A := by
  rw [ht.setC, if_pos (by omega)]
  have : splice old 0 vs = vs := by simp [splice, hl]
  rw [this]
  exact hA _ (by simp) ht.set_eq fun u hu _ => List.getElem?_set_ne (fun e => hu e.symm)

/-- What is found by and by: the queue of a search in the set q from c. -/
structure Que (x y z : Int) (q : Cell → Bool) (c : Cell) (n : Nat) (l : List Cell) : Prop where
  nodup : l.Nodup
  mem : ∀ d ∈ l, d.inBox x y z ∧ q d = true ∧ Reach x y z (fun d => decide (d = c)) q d
  start : c ∈ l
  done : ∀ i, i < n → i < l.length → ∀ e, e.inBox x y z → q e = true → apart (l.getD i default) e = 1 → e ∈ l

theorem Que.reach {x y z : Int} {q : Cell → Bool} {c : Cell} {n : Nat} {l : List Cell} (h : Que x y z q c n l) (hn : l.length ≤ n) {d : Cell} : d ∈ l ↔ reach x y z (fun d => decide (d = c)) q d = true := by
  rw [reach_iff]
  refine ⟨fun hd => (h.mem d hd).2.2, fun hd => ?_⟩
  refine hd.ind (P := fun d => d ∈ l) (fun e _ he => ?_) fun a b ha hab hb hq => ?_
  · rw [of_decide_eq_true he]; exact h.start
  · obtain ⟨i, hi, rfl⟩ := List.getElem_of_mem ha
    exact h.done i (by omega) hi b hb hq (by simpa [hi] using hab)

end Go.Ab

/- Contracts: the reference's turned heaps. -/
namespace Go.Ab
open Go
set_option linter.unusedSimpArgs false
set_option linter.unusedVariables false

theorem Tri.gets_at {M : Mem} {t o k : Nat} {cs : List Cell} {s : Int} (h : Tri M t o cs) (hk : k < cs.length) (hs : Dir s) : getCell M t (o + k * 3 + s.toNat) = some (.I ((cs.getD k default).at s)) := by
  rcases hs with rfl | rfl | rfl
  · exact Tri.get_a h hk
  · exact Tri.get_b h hk
  · exact Tri.get_c h hk

/-- A cell of which the first d coordinates are there. -/
def partC (c : Cell) (d : Nat) : Cell := ⟨if 0 < d then c.a else 0, if 1 < d then c.b else 0, if 2 < d then c.c else 0⟩
end Go.Ab

/- Contracts: views, the reference's side. -/
namespace Go.Ab
open Go
set_option linter.unusedSimpArgs false
set_option linter.unusedVariables false
set_option maxRecDepth 20000

theorem h_l2Others {d : Nat} {M : Mem} (hd : d < 3) : CallsTo PG F.spec_l2Others [.I d] M (.tup [.I (if d = 0 then 1 else 0), .I (if d = 2 then 1 else 2)]) M := by
  refine calls_run K.spec_l2Others rfl ?_
  rcases (show d = 0 ∨ d = 1 ∨ d = 2 by omega) with rfl | rfl | rfl
  all_goals
    simp (disch := omega) only [C.spec_l2Others, ↓SXd, SXu, slBounds, ↓sop, ↓aop, ↓reduceIte, LV.cells, AOp.dst, LV.I, LV.B, LV.U, LV.S, LV.nil, Nat.reduceEqDiff, Nat.reduceAdd, Nat.reduceMul, Nat.reduceSub, Nat.reduceLeDiff, Nat.reduceBEq, Nat.reduceDiv, Nat.reduceMod, Int.reduceToNat, Int.reduceLT, Int.reduceLE, Int.reduceAdd, Int.reduceSub, Int.reduceMul, Int.reduceEq, Int.reduceNeg, reduceCtorEq, resV, resAll, ARes.ev, LV.flat, ite_true, ite_false, exists_eq_left', exists_eq_left, keyOf, implies_true, fillC, capOf]
    exact cmp_drop0 rfl
theorem h_l2View {x y z : Int} {d t o : Nat} {cs : List Cell} {M : Mem} (h : Tri M t o cs) (hH : HeapOK x y z cs) (hd : d < 3) : CallsTo PG F.spec_l2View [.agg [.I x, .I y, .I z, .ref t o cs.length], .I d] M (.ref M.length 0 (viewL x y z d cs).length) (M ++ [some (.row (intL (viewL x y z d cs)) true 1)]) := by
  have hS := hH.1
  have hlp : 1 ≤ linesOf x y z d ∧ linesOf x y z d ≤ 16 := by
    have := prod_le hS
    rcases (show d = 0 ∨ d = 1 ∨ d = 2 by omega) with rfl | rfl | rfl
    · exact this.2.2
    · exact this.2.1
    · exact this.1
  have hlen := hH.len
  have ht := h.lt
  have hz : ∀ j, 0 ≤ (List.replicate (linesOf x y z d).toNat (0 : Int)).getD j 0 ∧ (List.replicate (linesOf x y z d).toNat (0 : Int)).getD j 0 ≤ 0 := fun j => by
    rw [List.getD_eq_getElem?_getD, List.getElem?_replicate]; split <;> simp
  have hvl := viewL_len (x := x) (y := y) (z := z) (d := d) (cs := cs)
  have hda : Dir (if d = 0 then 1 else 0) := by unfold Dir; split <;> omega
  have hdb : Dir (if d = 2 then 1 else 2) := by unfold Dir; split <;> omega
  have hprod : sideOf x y z (if d = 0 then 1 else 0) * sideOf x y z (if d = 2 then 1 else 2) = linesOf x y z d := by
    rcases (show d = 0 ∨ d = 1 ∨ d = 2 by omega) with rfl | rfl | rfl <;> rfl
  have hline : ∀ c : Cell, c.at (if d = 0 then 1 else 0) * sideOf x y z (if d = 2 then 1 else 2) + c.at (if d = 2 then 1 else 2) = lineOf y z c d := fun c => by
    rcases (show d = 0 ∨ d = 1 ∨ d = 2 by omega) with rfl | rfl | rfl <;> rfl
  have hrA : 0 ≤ (if d = 0 then (1 : Int) else 0) ∧ (if d = 0 then (1 : Int) else 0) < 3 := by split <;> omega
  have hrB : 0 ≤ (if d = 2 then (1 : Int) else 2) ∧ (if d = 2 then (1 : Int) else 2) < 3 := by split <;> omega
  refine calls_run K.spec_l2View rfl ?_
  simp (disch := omega) only [C.spec_l2View, ↓SXd, SXu, slBounds, ↓sop, ↓aop, ↓reduceIte, LV.cells, AOp.dst, LV.I, LV.B, LV.U, LV.S, LV.nil, Nat.reduceEqDiff, Nat.reduceAdd, Nat.reduceMul, Nat.reduceSub, Nat.reduceLeDiff, Nat.reduceBEq, Nat.reduceDiv, Nat.reduceMod, Int.reduceToNat, Int.reduceLT, Int.reduceLE, Int.reduceAdd, Int.reduceSub, Int.reduceMul, Int.reduceEq, Int.reduceNeg, reduceCtorEq, resV, resAll, ARes.ev, LV.flat, ite_true, ite_false, exists_eq_left', exists_eq_left, keyOf, implies_true, fillC, capOf]
  refine callK_of (h_l2Others hd) ?_
  simp (disch := omega) only [↓SXd, SXu, slBounds, ↓sop, ↓aop, ↓reduceIte, LV.cells, AOp.dst, LV.I, LV.B, LV.U, LV.S, LV.nil, Nat.reduceEqDiff, Nat.reduceAdd, Nat.reduceMul, Nat.reduceSub, Nat.reduceLeDiff, Nat.reduceBEq, Nat.reduceDiv, Nat.reduceMod, Int.reduceToNat, Int.reduceLT, Int.reduceLE, Int.reduceAdd, Int.reduceSub, Int.reduceMul, Int.reduceEq, Int.reduceNeg, reduceCtorEq, resV, resAll, ARes.ev, LV.flat, ite_true, ite_false, exists_eq_left', exists_eq_left, keyOf, implies_true, fillC, capOf]
  generalize (if d = 0 then (1 : Int) else 0) = A at hda hprod hline hrA ⊢
  generalize (if d = 2 then (1 : Int) else 2) = B at hdb hprod hline hrB ⊢
  obtain ⟨rA1, rA2⟩ := hrA
  obtain ⟨rB1, rB2⟩ := hrB
  refine callK_of (h_l2Long hda) ?_
  simp (disch := omega) only [↓SXd, SXu, slBounds, ↓sop, ↓aop, ↓reduceIte, LV.cells, AOp.dst, LV.I, LV.B, LV.U, LV.S, LV.nil, Nat.reduceEqDiff, Nat.reduceAdd, Nat.reduceMul, Nat.reduceSub, Nat.reduceLeDiff, Nat.reduceBEq, Nat.reduceDiv, Nat.reduceMod, Int.reduceToNat, Int.reduceLT, Int.reduceLE, Int.reduceAdd, Int.reduceSub, Int.reduceMul, Int.reduceEq, Int.reduceNeg, reduceCtorEq, resV, resAll, ARes.ev, LV.flat, ite_true, ite_false, exists_eq_left', exists_eq_left, keyOf, implies_true, fillC, capOf]
  refine callK_of (h_l2Long hdb) ?_
  simp (disch := omega) only [hprod, made_int, ↓SXd, SXu, slBounds, ↓sop, ↓aop, ↓reduceIte, LV.cells, AOp.dst, LV.I, LV.B, LV.U, LV.S, LV.nil, Nat.reduceEqDiff, Nat.reduceAdd, Nat.reduceMul, Nat.reduceSub, Nat.reduceLeDiff, Nat.reduceBEq, Nat.reduceDiv, Nat.reduceMod, Int.reduceToNat, Int.reduceLT, Int.reduceLE, Int.reduceAdd, Int.reduceSub, Int.reduceMul, Int.reduceEq, Int.reduceNeg, reduceCtorEq, resV, resAll, ARes.ev, LV.flat, ite_true, ite_false, exists_eq_left', exists_eq_left, keyOf, implies_true, fillC, capOf]
  refine ev_loop (fun m fr M' => ∃ i : Nat, i + m = cs.length ∧ Pre M M' ∧ Live M' M.length (.row [.I x, .I y, .I z, .ref t o cs.length] true 0) ∧ Live M' (M.length + 1) (.row (intL ((cs.take i).foldl (viewStep y z d) (List.replicate (linesOf x y z d).toNat 0))) true 1) ∧
    fr 2 = .ptr M.length 0 ∧ fr 5 = .I A ∧ fr 6 = .I B ∧ fr 7 = .ref (M.length + 1) 0 (linesOf x y z d).toNat ∧ fr 8 = .I i) cs.length
    ⟨0, by omega, Pre.app _ _, Live.new, Live.newj rfl, rfl, rfl, rfl, rfl, rfl⟩ ?_
  rintro m fr M' ⟨i, hi, hpre, b2, bo, f2, f5, f6, f7, f8⟩
  simp (disch := omega) only [f2, f5, f6, f7, f8, b2.cell, ↓SXd, SXu, slBounds, ↓sop, ↓aop, ↓reduceIte, LV.cells, AOp.dst, LV.I, LV.B, LV.U, LV.S, LV.nil, Nat.reduceEqDiff, Nat.reduceAdd, Nat.reduceMul, Nat.reduceSub, Nat.reduceLeDiff, Nat.reduceBEq, Nat.reduceDiv, Nat.reduceMod, Int.reduceToNat, Int.reduceLT, Int.reduceLE, Int.reduceAdd, Int.reduceSub, Int.reduceMul, Int.reduceEq, Int.reduceNeg, reduceCtorEq, resV, resAll, ARes.ev, LV.flat, ite_true, ite_false, exists_eq_left', exists_eq_left, keyOf, implies_true, fillC, capOf]
  refine condC_dec (fun hlt => ?_) (fun hlt => ?_)
  · have hil : i < cs.length := by omega
    have hc := hH.mem (getD_mem' (d := default) hil)
    have gA := Tri.gets_at (h.pre hpre) hil hda
    have gB := Tri.gets_at (h.pre hpre) hil hdb
    have htf := take_foldl (y := y) (z := z) (d := d) (v := List.replicate (linesOf x y z d).toNat 0) hil
    have hbd := fold_bound (y := y) (z := z) (d := d) (cs := cs.take i) hz
    have hfl := foldl_len (y := y) (z := z) (d := d) (cs := cs.take i) (v := List.replicate (linesOf x y z d).toNat 0)
    have htl := List.length_take_le i cs
    rw [List.length_replicate] at hfl
    generalize cs.getD i default = c at gA gB hc htf
    generalize (cs.take i).foldl (viewStep y z d) (List.replicate (linesOf x y z d).toNat 0) = v at bo htf hbd hfl
    obtain ⟨l1, l2⟩ := lineOf_in hS hc hd
    obtain ⟨v1, v2⟩ := hbd (lineOf y z c d).toNat
    have hlt2 : (lineOf y z c d).toNat < v.length := by omega
    have hlc := hline c
    have aA := at_in hc A
    have aB := at_in hc B
    have sB := sideOf_in hS B
    have sA := sideOf_in hS A
    have hmul : 0 ≤ c.at A * sideOf x y z B ∧ c.at A * sideOf x y z B ≤ 16 := by
      rcases (show sideOf x y z B = 1 ∨ sideOf x y z B = 2 ∨ sideOf x y z B = 3 ∨ sideOf x y z B = 4 by omega) with e | e | e | e <;> rw [e] <;> omega
    have hcell := bo.cell (o := (lineOf y z c d).toNat)
    rw [intL_get hlt2] at hcell
    simp (disch := omega) only [f2, f5, f6, f7, f8, b2.cell, b2.cells, gA, gB, Nat.mul_one, Nat.zero_add, ↓SXd, SXu, slBounds, ↓sop, ↓aop, ↓reduceIte, LV.cells, AOp.dst, LV.I, LV.B, LV.U, LV.S, LV.nil, Nat.reduceEqDiff, Nat.reduceAdd, Nat.reduceMul, Nat.reduceSub, Nat.reduceLeDiff, Nat.reduceBEq, Nat.reduceDiv, Nat.reduceMod, Int.reduceToNat, Int.reduceLT, Int.reduceLE, Int.reduceAdd, Int.reduceSub, Int.reduceMul, Int.reduceEq, Int.reduceNeg, reduceCtorEq, resV, resAll, ARes.ev, LV.flat, ite_true, ite_false, exists_eq_left', exists_eq_left, keyOf, implies_true, fillC, capOf]
    refine callK_of (h_l2Long hdb) ?_
    simp (disch := omega) only [f2, f5, f6, f7, f8, hlc, hcell, Nat.mul_one, Nat.zero_add, ↓SXd, SXu, slBounds, ↓sop, ↓aop, ↓reduceIte, LV.cells, AOp.dst, LV.I, LV.B, LV.U, LV.S, LV.nil, Nat.reduceEqDiff, Nat.reduceAdd, Nat.reduceMul, Nat.reduceSub, Nat.reduceLeDiff, Nat.reduceBEq, Nat.reduceDiv, Nat.reduceMod, Int.reduceToNat, Int.reduceLT, Int.reduceLE, Int.reduceAdd, Int.reduceSub, Int.reduceMul, Int.reduceEq, Int.reduceNeg, reduceCtorEq, resV, resAll, ARes.ev, LV.flat, ite_true, ite_false, exists_eq_left', exists_eq_left, keyOf, implies_true, fillC, capOf]
    refine memK_int bo hlt2 fun N k1 k2 k3 => ?_
    simp (disch := omega) only [f2, f5, f6, f7, f8, ↓SXd, SXu, slBounds, ↓sop, ↓aop, ↓reduceIte, LV.cells, AOp.dst, LV.I, LV.B, LV.U, LV.S, LV.nil, Nat.reduceEqDiff, Nat.reduceAdd, Nat.reduceMul, Nat.reduceSub, Nat.reduceLeDiff, Nat.reduceBEq, Nat.reduceDiv, Nat.reduceMod, Int.reduceToNat, Int.reduceLT, Int.reduceLE, Int.reduceAdd, Int.reduceSub, Int.reduceMul, Int.reduceEq, Int.reduceNeg, reduceCtorEq, resV, resAll, ARes.ev, LV.flat, ite_true, ite_false, exists_eq_left', exists_eq_left, keyOf, implies_true, fillC, capOf]
    rw [show v.set (lineOf y z c d).toNat (v.getD (lineOf y z c d).toNat 0 + 1) = viewStep y z d v c from rfl, ← htf] at k2
    exact ⟨m - 1, by omega, i + 1, by omega, pre_step hpre (by omega) (j := 0) k1 k3, live_step b2 (by omega) k3, k2, f2, f5, f6, f7, eqI (natI _)⟩
  · simp (disch := omega) only [f2, f5, f6, f7, f8, ↓SXd, SXu, slBounds, ↓sop, ↓aop, ↓reduceIte, LV.cells, AOp.dst, LV.I, LV.B, LV.U, LV.S, LV.nil, Nat.reduceEqDiff, Nat.reduceAdd, Nat.reduceMul, Nat.reduceSub, Nat.reduceLeDiff, Nat.reduceBEq, Nat.reduceDiv, Nat.reduceMod, Int.reduceToNat, Int.reduceLT, Int.reduceLE, Int.reduceAdd, Int.reduceSub, Int.reduceMul, Int.reduceEq, Int.reduceNeg, reduceCtorEq, resV, resAll, ARes.ev, LV.flat, ite_true, ite_false, exists_eq_left', exists_eq_left, keyOf, implies_true, fillC, capOf]
    have : i = cs.length := by omega
    subst this
    rw [List.take_length] at bo
    change Live M' (M.length + 1) (.row (intL (viewL x y z d cs)) true 1) at bo
    exact cmp_keepL hpre (by omega) bo (intL_lo _) (by simp [rn, rn0, rn1, hvl])
end Go.Ab

/- The abstract code of some functions (written by a program of mine from the translation, by way of prepF). -/
namespace Go.Ab.C
open Go.Ab
def spec_l1Least : AFn :=
  ⟨2, 10, [.tmp 4],
    .seq (.ops [(none, .mv 4 (.c (.I 0)))])
    (.seq (.seq (.ops [(none, .mv 5 (.t 0)),
         (none, .mv 6 (.t 1)),
         (none, .bin 7 .lss (.t 5) (.t 6))])
      (.cond (.t 7) (.seq (.ops [(none, .mv 8 (.t 0)),
           (none, .mv 4 (.t 8))])
        (.ret))
       (.skip)))
     (.seq (.ops [(none, .mv 9 (.t 1)),
         (none, .mv 4 (.t 9))])
      (.ret)))⟩
end Go.Ab.C

/- That the program has this code. -/
namespace Go.Ab.K
open Go Go.Ab
theorem spec_l1Least : prepF Go.Proofs.Try.prog F.spec_l1Least = some C.spec_l1Least := by kernel_rfl
end Go.Ab.K

/- Contracts: the reference's least boxes. -/
namespace Go.Ab
open Go
set_option linter.unusedSimpArgs false
set_option linter.unusedVariables false

def Small (c : Cell) : Prop := (-100 ≤ c.a ∧ c.a ≤ 100) ∧ (-100 ≤ c.b ∧ c.b ≤ 100) ∧ (-100 ≤ c.c ∧ c.c ≤ 100)
def shift (p c : Cell) : Cell := ⟨c.a + p.a, c.b + p.b, c.c + p.c⟩
def loC (c d : Cell) : Cell := ⟨min c.a d.a, min c.b d.b, min c.c d.c⟩
def hiC (c d : Cell) : Cell := ⟨max c.a d.a, max c.b d.b, max c.c d.c⟩
def lowOf (cs : List Cell) : Cell := cs.foldl loC (cs.getD 0 default)
def highOf (cs : List Cell) : Cell := cs.foldl hiC (cs.getD 0 default)
def cropHp (cs : List Cell) : Hp := ⟨(highOf cs).a - (lowOf cs).a + 1, (highOf cs).b - (lowOf cs).b + 1, (highOf cs).c - (lowOf cs).c + 1, cs.map (shift ⟨0 - (lowOf cs).a, 0 - (lowOf cs).b, 0 - (lowOf cs).c⟩)⟩
/-- The first d coordinates of one cell, the others of another one. -/
def mixC (c e : Cell) (d : Nat) : Cell := ⟨if 0 < d then e.a else c.a, if 1 < d then e.b else c.b, if 2 < d then e.c else c.c⟩
theorem h_l1Least {a b : Int} {M : Mem} : CallsTo PG F.spec_l1Least [.I a, .I b] M (.I (min a b)) M := by
  refine calls_run K.spec_l1Least rfl ?_
  simp (disch := omega) only [C.spec_l1Least, ↓SXd, SXu, slBounds, ↓sop, ↓aop, ↓reduceIte, LV.cells, AOp.dst, LV.I, LV.B, LV.U, LV.S, LV.nil, Nat.reduceEqDiff, Nat.reduceAdd, Nat.reduceMul, Nat.reduceSub, Nat.reduceLeDiff, Nat.reduceBEq, Nat.reduceDiv, Nat.reduceMod, Int.reduceToNat, Int.reduceLT, Int.reduceLE, Int.reduceAdd, Int.reduceSub, Int.reduceMul, Int.reduceEq, Int.reduceNeg, reduceCtorEq, resV, resAll, ARes.ev, LV.flat, ite_true, ite_false, exists_eq_left', exists_eq_left, keyOf, implies_true, fillC, capOf]
  refine condC_dec (fun h => ?_) (fun h => ?_)
  all_goals
    simp (disch := omega) only [↓SXd, SXu, slBounds, ↓sop, ↓aop, ↓reduceIte, LV.cells, AOp.dst, LV.I, LV.B, LV.U, LV.S, LV.nil, Nat.reduceEqDiff, Nat.reduceAdd, Nat.reduceMul, Nat.reduceSub, Nat.reduceLeDiff, Nat.reduceBEq, Nat.reduceDiv, Nat.reduceMod, Int.reduceToNat, Int.reduceLT, Int.reduceLE, Int.reduceAdd, Int.reduceSub, Int.reduceMul, Int.reduceEq, Int.reduceNeg, reduceCtorEq, resV, resAll, ARes.ev, LV.flat, ite_true, ite_false, exists_eq_left', exists_eq_left, keyOf, implies_true, fillC, capOf]
  · rw [show min a b = a by omega]; exact cmp_drop0 rfl
  · rw [show min a b = b by omega]; exact cmp_drop0 rfl

end Go.Ab

/- Contracts: lists of numbers that are the same; shadows of heaps, the reference's side. -/
namespace Go.Ab
open Go
set_option linter.unusedSimpArgs false
set_option linter.unusedVariables false

theorem h_l1Same {l m : List Int} {t o t' o' : Nat} {M : Mem} (hg : Ints M t o l) (hh : Ints M t' o' m) (hn : l.length ≤ 1000000000) (hn' : m.length ≤ 1000000000) :
    CallsTo PG F.spec_l1Same [.ref t o l.length, .ref t' o' m.length] M (.B (decide (l = m))) M := by
  refine calls_run K.spec_l1Same rfl ?_
  simp (disch := omega) only [C.spec_l1Same, ↓SXd, SXu, slBounds, ↓sop, ↓aop, ↓reduceIte, LV.cells, AOp.dst, LV.I, LV.B, LV.U, LV.S, LV.nil, Nat.reduceEqDiff, Nat.reduceAdd, Nat.reduceMul, Nat.reduceSub, Nat.reduceLeDiff, Nat.reduceBEq, Nat.reduceDiv, Nat.reduceMod, Int.reduceToNat, Int.reduceLT, Int.reduceLE, Int.reduceAdd, Int.reduceSub, Int.reduceMul, Int.reduceEq, Int.reduceNeg, reduceCtorEq, resV, resAll, ARes.ev, LV.flat, ite_true, ite_false, exists_eq_left', exists_eq_left, keyOf, implies_true, fillC, capOf]
  by_cases hl : (l.length : Int) = m.length
  · simp (disch := omega) only [hl, ↓SXd, SXu, slBounds, ↓sop, ↓aop, ↓reduceIte, LV.cells, AOp.dst, LV.I, LV.B, LV.U, LV.S, LV.nil, Nat.reduceEqDiff, Nat.reduceAdd, Nat.reduceMul, Nat.reduceSub, Nat.reduceLeDiff, Nat.reduceBEq, Nat.reduceDiv, Nat.reduceMod, Int.reduceToNat, Int.reduceLT, Int.reduceLE, Int.reduceAdd, Int.reduceSub, Int.reduceMul, Int.reduceEq, Int.reduceNeg, reduceCtorEq, resV, resAll, ARes.ev, LV.flat, ite_true, ite_false, exists_eq_left', exists_eq_left, keyOf, implies_true, fillC, capOf]
    have hl' : l.length = m.length := by omega
    refine ev_loop (fun n fr M' => ∃ k : Nat, k + n = l.length ∧ M' = M ∧ (∀ j, j < k → l.getD j 0 = m.getD j 0) ∧ fr 0 = .ref t o l.length ∧ fr 1 = .ref t' o' m.length ∧ fr 5 = .I k) l.length
      ⟨0, by omega, rfl, by omega, rfl, rfl, rfl⟩ ?_
    rintro n fr M' ⟨k, hk, rfl, hj, f0, f1, f5⟩
    simp (disch := omega) only [f0, f1, f5, ↓SXd, SXu, slBounds, ↓sop, ↓aop, ↓reduceIte, LV.cells, AOp.dst, LV.I, LV.B, LV.U, LV.S, LV.nil, Nat.reduceEqDiff, Nat.reduceAdd, Nat.reduceMul, Nat.reduceSub, Nat.reduceLeDiff, Nat.reduceBEq, Nat.reduceDiv, Nat.reduceMod, Int.reduceToNat, Int.reduceLT, Int.reduceLE, Int.reduceAdd, Int.reduceSub, Int.reduceMul, Int.reduceEq, Int.reduceNeg, reduceCtorEq, resV, resAll, ARes.ev, LV.flat, ite_true, ite_false, exists_eq_left', exists_eq_left, keyOf, implies_true, fillC, capOf]
    refine condC_dec (fun h1 => ?_) (fun h1 => ?_)
    · have hk1 : k < l.length := by omega
      have g1 := Ints.get hg hk1
      have g2 := Ints.get hh (show k < m.length by omega)
      simp (disch := omega) only [f0, f1, f5, g1, g2, Nat.mul_one, ↓SXd, SXu, slBounds, ↓sop, ↓aop, ↓reduceIte, LV.cells, AOp.dst, LV.I, LV.B, LV.U, LV.S, LV.nil, Nat.reduceEqDiff, Nat.reduceAdd, Nat.reduceMul, Nat.reduceSub, Nat.reduceLeDiff, Nat.reduceBEq, Nat.reduceDiv, Nat.reduceMod, Int.reduceToNat, Int.reduceLT, Int.reduceLE, Int.reduceAdd, Int.reduceSub, Int.reduceMul, Int.reduceEq, Int.reduceNeg, reduceCtorEq, resV, resAll, ARes.ev, LV.flat, ite_true, ite_false, exists_eq_left', exists_eq_left, keyOf, implies_true, fillC, capOf]
      by_cases he : l.getD k 0 = m.getD k 0
      · simp (disch := omega) only [f0, f1, f5, he, ↓SXd, SXu, slBounds, ↓sop, ↓aop, ↓reduceIte, LV.cells, AOp.dst, LV.I, LV.B, LV.U, LV.S, LV.nil, Nat.reduceEqDiff, Nat.reduceAdd, Nat.reduceMul, Nat.reduceSub, Nat.reduceLeDiff, Nat.reduceBEq, Nat.reduceDiv, Nat.reduceMod, Int.reduceToNat, Int.reduceLT, Int.reduceLE, Int.reduceAdd, Int.reduceSub, Int.reduceMul, Int.reduceEq, Int.reduceNeg, reduceCtorEq, resV, resAll, ARes.ev, LV.flat, ite_true, ite_false, exists_eq_left', exists_eq_left, keyOf, implies_true, fillC, capOf]
        exact ⟨n - 1, by omega, k + 1, by omega, rfl, fun j hj' => by
          rcases Nat.lt_or_ge j k with h2 | h2
          · exact hj j h2
          · rw [show j = k by omega]; exact he, f0, f1, eqI (natI _)⟩
      · simp (disch := omega) only [f0, f1, f5, he, ↓SXd, SXu, slBounds, ↓sop, ↓aop, ↓reduceIte, LV.cells, AOp.dst, LV.I, LV.B, LV.U, LV.S, LV.nil, Nat.reduceEqDiff, Nat.reduceAdd, Nat.reduceMul, Nat.reduceSub, Nat.reduceLeDiff, Nat.reduceBEq, Nat.reduceDiv, Nat.reduceMod, Int.reduceToNat, Int.reduceLT, Int.reduceLE, Int.reduceAdd, Int.reduceSub, Int.reduceMul, Int.reduceEq, Int.reduceNeg, reduceCtorEq, resV, resAll, ARes.ev, LV.flat, ite_true, ite_false, exists_eq_left', exists_eq_left, keyOf, implies_true, fillC, capOf]
        rw [decide_eq_false (fun e => he (by rw [e]))]
        exact cmp_drop0 rfl
    · simp (disch := omega) only [f0, f1, f5, ↓SXd, SXu, slBounds, ↓sop, ↓aop, ↓reduceIte, LV.cells, AOp.dst, LV.I, LV.B, LV.U, LV.S, LV.nil, Nat.reduceEqDiff, Nat.reduceAdd, Nat.reduceMul, Nat.reduceSub, Nat.reduceLeDiff, Nat.reduceBEq, Nat.reduceDiv, Nat.reduceMod, Int.reduceToNat, Int.reduceLT, Int.reduceLE, Int.reduceAdd, Int.reduceSub, Int.reduceMul, Int.reduceEq, Int.reduceNeg, reduceCtorEq, resV, resAll, ARes.ev, LV.flat, ite_true, ite_false, exists_eq_left', exists_eq_left, keyOf, implies_true, fillC, capOf]
      rw [decide_eq_true (by
        apply List.ext_getElem hl'
        intro i h2 h3
        have := hj i (by omega)
        simpa [h2, h3] using this)]
      exact cmp_drop0 rfl
  · simp (disch := omega) only [hl, ↓SXd, SXu, slBounds, ↓sop, ↓aop, ↓reduceIte, LV.cells, AOp.dst, LV.I, LV.B, LV.U, LV.S, LV.nil, Nat.reduceEqDiff, Nat.reduceAdd, Nat.reduceMul, Nat.reduceSub, Nat.reduceLeDiff, Nat.reduceBEq, Nat.reduceDiv, Nat.reduceMod, Int.reduceToNat, Int.reduceLT, Int.reduceLE, Int.reduceAdd, Int.reduceSub, Int.reduceMul, Int.reduceEq, Int.reduceNeg, reduceCtorEq, resV, resAll, ARes.ev, LV.flat, ite_true, ite_false, exists_eq_left', exists_eq_left, keyOf, implies_true, fillC, capOf]
    rw [decide_eq_false (fun e => hl (by rw [e]))]
    exact cmp_drop0 rfl
theorem g_equalI {l m : List Int} {t o t' o' : Nat} {M : Mem} (hg : Ints M t o l) (hh : Ints M t' o' m) (hn : l.length ≤ 1000000000) (hn' : m.length ≤ 1000000000) :
    CallsTo PG F.slices_Equal_Sint_int [.ref t o l.length, .ref t' o' m.length] M (.B (decide (l = m))) M := by
  refine calls_run K.slices_Equal_Sint_int rfl ?_
  simp (disch := omega) only [C.slices_Equal_Sint_int, ↓SXd, SXu, slBounds, ↓sop, ↓aop, ↓reduceIte, LV.cells, AOp.dst, LV.I, LV.B, LV.U, LV.S, LV.nil, Nat.reduceEqDiff, Nat.reduceAdd, Nat.reduceMul, Nat.reduceSub, Nat.reduceLeDiff, Nat.reduceBEq, Nat.reduceDiv, Nat.reduceMod, Int.reduceToNat, Int.reduceLT, Int.reduceLE, Int.reduceAdd, Int.reduceSub, Int.reduceMul, Int.reduceEq, Int.reduceNeg, reduceCtorEq, resV, resAll, ARes.ev, LV.flat, ite_true, ite_false, exists_eq_left', exists_eq_left, keyOf, implies_true, fillC, capOf]
  by_cases hl : (l.length : Int) = m.length
  · simp (disch := omega) only [hl, ↓SXd, SXu, slBounds, ↓sop, ↓aop, ↓reduceIte, LV.cells, AOp.dst, LV.I, LV.B, LV.U, LV.S, LV.nil, Nat.reduceEqDiff, Nat.reduceAdd, Nat.reduceMul, Nat.reduceSub, Nat.reduceLeDiff, Nat.reduceBEq, Nat.reduceDiv, Nat.reduceMod, Int.reduceToNat, Int.reduceLT, Int.reduceLE, Int.reduceAdd, Int.reduceSub, Int.reduceMul, Int.reduceEq, Int.reduceNeg, reduceCtorEq, resV, resAll, ARes.ev, LV.flat, ite_true, ite_false, exists_eq_left', exists_eq_left, keyOf, implies_true, fillC, capOf]
    have hl' : l.length = m.length := by omega
    refine ev_loop (fun n fr M' => ∃ k : Nat, k + n = l.length ∧ M' = M ∧ (∀ j, j < k → l.getD j 0 = m.getD j 0) ∧ fr 0 = .ref t o l.length ∧ fr 1 = .ref t' o' m.length ∧ fr 12 = .I l.length ∧ fr 13 = .I k) l.length
      ⟨0, by omega, rfl, by omega, rfl, rfl, by rw [hl']; rfl, rfl⟩ ?_
    rintro n fr M' ⟨k, hk, rfl, hj, f0, f1, f12, f13⟩
    simp (disch := omega) only [f0, f1, f12, f13, ↓SXd, SXu, slBounds, ↓sop, ↓aop, ↓reduceIte, LV.cells, AOp.dst, LV.I, LV.B, LV.U, LV.S, LV.nil, Nat.reduceEqDiff, Nat.reduceAdd, Nat.reduceMul, Nat.reduceSub, Nat.reduceLeDiff, Nat.reduceBEq, Nat.reduceDiv, Nat.reduceMod, Int.reduceToNat, Int.reduceLT, Int.reduceLE, Int.reduceAdd, Int.reduceSub, Int.reduceMul, Int.reduceEq, Int.reduceNeg, reduceCtorEq, resV, resAll, ARes.ev, LV.flat, ite_true, ite_false, exists_eq_left', exists_eq_left, keyOf, implies_true, fillC, capOf]
    refine condC_dec (fun h1 => ?_) (fun h1 => ?_)
    · have hk1 : k < l.length := by omega
      have g1 := Ints.get hg hk1
      have g2 := Ints.get hh (show k < m.length by omega)
      simp (disch := omega) only [f0, f1, f12, f13, g1, g2, Nat.mul_one, ↓SXd, SXu, slBounds, ↓sop, ↓aop, ↓reduceIte, LV.cells, AOp.dst, LV.I, LV.B, LV.U, LV.S, LV.nil, Nat.reduceEqDiff, Nat.reduceAdd, Nat.reduceMul, Nat.reduceSub, Nat.reduceLeDiff, Nat.reduceBEq, Nat.reduceDiv, Nat.reduceMod, Int.reduceToNat, Int.reduceLT, Int.reduceLE, Int.reduceAdd, Int.reduceSub, Int.reduceMul, Int.reduceEq, Int.reduceNeg, reduceCtorEq, resV, resAll, ARes.ev, LV.flat, ite_true, ite_false, exists_eq_left', exists_eq_left, keyOf, implies_true, fillC, capOf]
      by_cases he : l.getD k 0 = m.getD k 0
      · simp (disch := omega) only [f0, f1, f12, f13, he, ↓SXd, SXu, slBounds, ↓sop, ↓aop, ↓reduceIte, LV.cells, AOp.dst, LV.I, LV.B, LV.U, LV.S, LV.nil, Nat.reduceEqDiff, Nat.reduceAdd, Nat.reduceMul, Nat.reduceSub, Nat.reduceLeDiff, Nat.reduceBEq, Nat.reduceDiv, Nat.reduceMod, Int.reduceToNat, Int.reduceLT, Int.reduceLE, Int.reduceAdd, Int.reduceSub, Int.reduceMul, Int.reduceEq, Int.reduceNeg, reduceCtorEq, resV, resAll, ARes.ev, LV.flat, ite_true, ite_false, exists_eq_left', exists_eq_left, keyOf, implies_true, fillC, capOf]
        exact ⟨n - 1, by omega, k + 1, by omega, rfl, fun j hj' => by
          rcases Nat.lt_or_ge j k with h2 | h2
          · exact hj j h2
          · rw [show j = k by omega]; exact he, f0, f1, f12, eqI (natI _)⟩
      · simp (disch := omega) only [f0, f1, f12, f13, he, ↓SXd, SXu, slBounds, ↓sop, ↓aop, ↓reduceIte, LV.cells, AOp.dst, LV.I, LV.B, LV.U, LV.S, LV.nil, Nat.reduceEqDiff, Nat.reduceAdd, Nat.reduceMul, Nat.reduceSub, Nat.reduceLeDiff, Nat.reduceBEq, Nat.reduceDiv, Nat.reduceMod, Int.reduceToNat, Int.reduceLT, Int.reduceLE, Int.reduceAdd, Int.reduceSub, Int.reduceMul, Int.reduceEq, Int.reduceNeg, reduceCtorEq, resV, resAll, ARes.ev, LV.flat, ite_true, ite_false, exists_eq_left', exists_eq_left, keyOf, implies_true, fillC, capOf]
        rw [decide_eq_false (fun e => he (by rw [e]))]
        exact cmp_drop0 rfl
    · simp (disch := omega) only [f0, f1, f12, f13, ↓SXd, SXu, slBounds, ↓sop, ↓aop, ↓reduceIte, LV.cells, AOp.dst, LV.I, LV.B, LV.U, LV.S, LV.nil, Nat.reduceEqDiff, Nat.reduceAdd, Nat.reduceMul, Nat.reduceSub, Nat.reduceLeDiff, Nat.reduceBEq, Nat.reduceDiv, Nat.reduceMod, Int.reduceToNat, Int.reduceLT, Int.reduceLE, Int.reduceAdd, Int.reduceSub, Int.reduceMul, Int.reduceEq, Int.reduceNeg, reduceCtorEq, resV, resAll, ARes.ev, LV.flat, ite_true, ite_false, exists_eq_left', exists_eq_left, keyOf, implies_true, fillC, capOf]
      rw [decide_eq_true (by
        apply List.ext_getElem hl'
        intro i h2 h3
        have := hj i (by omega)
        simpa [h2, h3] using this)]
      exact cmp_drop0 rfl
  · simp (disch := omega) only [hl, ↓SXd, SXu, slBounds, ↓sop, ↓aop, ↓reduceIte, LV.cells, AOp.dst, LV.I, LV.B, LV.U, LV.S, LV.nil, Nat.reduceEqDiff, Nat.reduceAdd, Nat.reduceMul, Nat.reduceSub, Nat.reduceLeDiff, Nat.reduceBEq, Nat.reduceDiv, Nat.reduceMod, Int.reduceToNat, Int.reduceLT, Int.reduceLE, Int.reduceAdd, Int.reduceSub, Int.reduceMul, Int.reduceEq, Int.reduceNeg, reduceCtorEq, resV, resAll, ARes.ev, LV.flat, ite_true, ite_false, exists_eq_left', exists_eq_left, keyOf, implies_true, fillC, capOf]
    rw [decide_eq_false (fun e => hl (by rw [e]))]
    exact cmp_drop0 rfl
end Go.Ab

/- Contracts: shadows of heaps, the reference's side. -/
namespace Go.Ab
open Go
set_option linter.unusedSimpArgs false
set_option linter.unusedVariables false

def onesL (v : List Int) : List Int := v.map fun n => min n 1
theorem onesL_len (v : List Int) : (onesL v).length = v.length := List.length_map ..
def shdOf (x y z : Int) (d : Nat) (cs : List Cell) : List Int := onesL (viewL x y z d cs)
theorem shdOf_len {x y z : Int} {d : Nat} {cs : List Cell} : (shdOf x y z d cs).length = (linesOf x y z d).toNat := by unfold shdOf; rw [onesL_len, viewL_len]
theorem h_l2Ones {v : List Int} {t o : Nat} {M : Mem} (h : Ints M t o v) (hn : v.length ≤ 1000000) : CallsTo PG F.spec_l2Ones [.ref t o v.length] M (.ref M.length 0 (onesL v).length) (M ++ [some (.row (intL (onesL v)) true 1)]) := by
  have ht := h.lt
  have hol := onesL_len v
  refine calls_run K.spec_l2Ones rfl ?_
  simp (disch := omega) only [C.spec_l2Ones, ↓SXd, SXu, slBounds, ↓sop, ↓aop, ↓reduceIte, LV.cells, AOp.dst, LV.I, LV.B, LV.U, LV.S, LV.nil, Nat.reduceEqDiff, Nat.reduceAdd, Nat.reduceMul, Nat.reduceSub, Nat.reduceLeDiff, Nat.reduceBEq, Nat.reduceDiv, Nat.reduceMod, Int.reduceToNat, Int.reduceLT, Int.reduceLE, Int.reduceAdd, Int.reduceSub, Int.reduceMul, Int.reduceEq, Int.reduceNeg, reduceCtorEq, resV, resAll, ARes.ev, LV.flat, ite_true, ite_false, exists_eq_left', exists_eq_left, keyOf, implies_true, fillC, capOf]
  refine ev_loop (fun m fr M' => ∃ i u : Nat, i + m = v.length ∧ Pre M M' ∧ M.length ≤ u ∧ Live M' u (.row (intL ((onesL v).take i)) true 1) ∧ fr 0 = .ref t o v.length ∧ fr 3 = .ref u 0 ((onesL v).take i).length ∧ fr 4 = .I i) v.length
    ⟨0, M.length, by omega, Pre.app _ _, by omega, Live.new, rfl, rfl, rfl⟩ ?_
  rintro m fr M' ⟨i, u, hi, hpre, hu, bu, f0, f3, f4⟩
  simp (disch := omega) only [f0, f3, f4, ↓SXd, SXu, slBounds, ↓sop, ↓aop, ↓reduceIte, LV.cells, AOp.dst, LV.I, LV.B, LV.U, LV.S, LV.nil, Nat.reduceEqDiff, Nat.reduceAdd, Nat.reduceMul, Nat.reduceSub, Nat.reduceLeDiff, Nat.reduceBEq, Nat.reduceDiv, Nat.reduceMod, Int.reduceToNat, Int.reduceLT, Int.reduceLE, Int.reduceAdd, Int.reduceSub, Int.reduceMul, Int.reduceEq, Int.reduceNeg, reduceCtorEq, resV, resAll, ARes.ev, LV.flat, ite_true, ite_false, exists_eq_left', exists_eq_left, keyOf, implies_true, fillC, capOf]
  refine condC_dec (fun hlt => ?_) (fun hlt => ?_)
  · have hil : i < v.length := by omega
    have hg := Ints.get (h.pre hpre) hil
    have htl := List.length_take_le i (onesL v)
    have hts : (onesL v).take (i + 1) = (onesL v).take i ++ [min (v.getD i 0) 1] := by
      rw [List.take_succ, List.getElem?_eq_getElem (by omega)]; simp [onesL, hil]
    simp (disch := omega) only [f0, f3, f4, hg, Nat.mul_one, ↓SXd, SXu, slBounds, ↓sop, ↓aop, ↓reduceIte, LV.cells, AOp.dst, LV.I, LV.B, LV.U, LV.S, LV.nil, Nat.reduceEqDiff, Nat.reduceAdd, Nat.reduceMul, Nat.reduceSub, Nat.reduceLeDiff, Nat.reduceBEq, Nat.reduceDiv, Nat.reduceMod, Int.reduceToNat, Int.reduceLT, Int.reduceLE, Int.reduceAdd, Int.reduceSub, Int.reduceMul, Int.reduceEq, Int.reduceNeg, reduceCtorEq, resV, resAll, ARes.ev, LV.flat, ite_true, ite_false, exists_eq_left', exists_eq_left, keyOf, implies_true, fillC, capOf]
    refine callK_of (h_l1Least) ?_
    simp (disch := omega) only [f0, f3, f4, ↓SXd, SXu, slBounds, ↓sop, ↓aop, ↓reduceIte, LV.cells, AOp.dst, LV.I, LV.B, LV.U, LV.S, LV.nil, Nat.reduceEqDiff, Nat.reduceAdd, Nat.reduceMul, Nat.reduceSub, Nat.reduceLeDiff, Nat.reduceBEq, Nat.reduceDiv, Nat.reduceMod, Int.reduceToNat, Int.reduceLT, Int.reduceLE, Int.reduceAdd, Int.reduceSub, Int.reduceMul, Int.reduceEq, Int.reduceNeg, reduceCtorEq, resV, resAll, ARes.ev, LV.flat, ite_true, ite_false, exists_eq_left', exists_eq_left, keyOf, implies_true, fillC, capOf]
    refine appendK_int bu (by omega) fun N k1 k2 k3 => ?_
    simp (disch := omega) only [f0, f3, f4, ↓SXd, SXu, slBounds, ↓sop, ↓aop, ↓reduceIte, LV.cells, AOp.dst, LV.I, LV.B, LV.U, LV.S, LV.nil, Nat.reduceEqDiff, Nat.reduceAdd, Nat.reduceMul, Nat.reduceSub, Nat.reduceLeDiff, Nat.reduceBEq, Nat.reduceDiv, Nat.reduceMod, Int.reduceToNat, Int.reduceLT, Int.reduceLE, Int.reduceAdd, Int.reduceSub, Int.reduceMul, Int.reduceEq, Int.reduceNeg, reduceCtorEq, resV, resAll, ARes.ev, LV.flat, ite_true, ite_false, exists_eq_left', exists_eq_left, keyOf, implies_true, fillC, capOf]
    rw [← hts] at k2 ⊢
    exact ⟨m - 1, by omega, i + 1, M'.length + 1, by omega, pre_step hpre (by omega) k1 k3, by have := hpre.1; omega, k2, f0, rfl, eqI (natI _)⟩
  · simp (disch := omega) only [f0, f3, f4, ↓SXd, SXu, slBounds, ↓sop, ↓aop, ↓reduceIte, LV.cells, AOp.dst, LV.I, LV.B, LV.U, LV.S, LV.nil, Nat.reduceEqDiff, Nat.reduceAdd, Nat.reduceMul, Nat.reduceSub, Nat.reduceLeDiff, Nat.reduceBEq, Nat.reduceDiv, Nat.reduceMod, Int.reduceToNat, Int.reduceLT, Int.reduceLE, Int.reduceAdd, Int.reduceSub, Int.reduceMul, Int.reduceEq, Int.reduceNeg, reduceCtorEq, resV, resAll, ARes.ev, LV.flat, ite_true, ite_false, exists_eq_left', exists_eq_left, keyOf, implies_true, fillC, capOf]
    have : i = v.length := by omega
    subst this
    rw [List.take_of_length_le (by omega)] at bu f3
    exact cmp_keepL hpre hu bu (intL_lo _) (by simp [rn, rn0, rn1, List.take_of_length_le (Nat.le_of_eq hol)])
end Go.Ab

/- The abstract code of some functions (written by a program of mine from the translation, by way of prepF). -/
namespace Go.Ab.C
open Go.Ab
def spec_l3Allowed : AFn :=
  ⟨1, 86, [.cellN 2 4],
    .seq (.ops [(none, .box 1 (.t 0)),
       (none, .alloc 2 [(.I 0), (.I 0), (.I 0), .nil])])
    (.seq (.ops [(none, .fieldAddr 9 (.t 1) 0),
        (none, .load1 10 (.t 9)),
        (none, .fieldAddr 11 (.t 1) 1),
        (none, .load1 12 (.t 11)),
        (none, .fieldAddr 13 (.t 1) 2),
        (none, .load1 14 (.t 13)),
        (none, .call (some 15) F.spec_l2Empty [(.t 10), (.t 12), (.t 14)]),
        (none, .alloc 3 [(.I 0), (.I 0), (.I 0), .nil]),
        (none, .store 4 (.t 3) (.t 15))])
     (.seq (.ops [(none, .loadN 16 4 (.t 3)),
         (none, .call (some 17) F.spec_l2All [(.t 16)]),
         (none, .mv 4 (.t 17))])
      (.seq (.seq (.ops [(none, .mv 5 (.c (.I 0)))])
        (.block 0 (.loop (.seq (.seq (.ops [(none, .mv 18 (.t 5)),
               (none, .mv 19 (.t 4)),
               (none, .len 20 (.t 19)),
               (none, .bin 21 .lss (.t 18) (.t 20))])
            (.cond (.t 21) (.skip)
             (.exit 0)))
           (.seq (.block 1 (.seq (.draw [⟨(none, .mv 24 (.t 4)), [], []⟩,
                 ⟨(none, .mv 25 (.t 5)), [], []⟩,
                 ⟨(none, .idxS 26 3 (.t 24) (.t 25)), [], []⟩,
                 ⟨(none, .idxA 27 3 1 (.t 26) (.c (.I 0))), [], []⟩,
                 ⟨(none, .load1 28 (.t 27)), [], []⟩,
                 ⟨(none, .mv 29 (.t 4)), [], []⟩,
                 ⟨(none, .mv 30 (.t 5)), [], []⟩,
                 ⟨(none, .idxS 31 3 (.t 29) (.t 30)), [], []⟩,
                 ⟨(none, .idxA 32 3 1 (.t 31) (.c (.I 1))), [], []⟩,
                 ⟨(none, .load1 33 (.t 32)), [], []⟩,
                 ⟨(none, .mv 34 (.t 4)), [], []⟩,
                 ⟨(none, .mv 35 (.t 5)), [], []⟩,
                 ⟨(none, .idxS 36 3 (.t 34) (.t 35)), [], []⟩,
                 ⟨(none, .idxA 37 3 1 (.t 36) (.c (.I 2))), [], []⟩,
                 ⟨(none, .load1 38 (.t 37)), [], []⟩,
                 ⟨(none, .mv 6 (.t 28)), [], []⟩,
                 ⟨(none, .mv 7 (.t 33)), [], []⟩,
                 ⟨(none, .mv 8 (.t 38)), [], []⟩])
              (.seq (.ops [(none, .fieldAddr 39 (.t 1) 3),
                  (none, .load1 40 (.t 39)),
                  (none, .mv 41 (.t 6)),
                  (none, .fieldAddr 42 (.t 1) 1),
                  (none, .load1 43 (.t 42)),
                  (none, .bin 44 .mul (.t 41) (.t 43)),
                  (none, .mv 45 (.t 7)),
                  (none, .bin 46 .add (.t 44) (.t 45)),
                  (none, .idxS 47 1 (.t 40) (.t 46)),
                  (none, .load1 48 (.t 47)),
                  (none, .bin 49 .eql (.t 48) (.c (.I 1))),
                  (none, .mv 50 (.t 49)),
                  (some (50, true), .fieldAddr 51 (.t 1) 4),
                  (some (50, true), .load1 52 (.t 51)),
                  (some (50, true), .mv 53 (.t 6)),
                  (some (50, true), .fieldAddr 54 (.t 1) 2),
                  (some (50, true), .load1 55 (.t 54)),
                  (some (50, true), .bin 56 .mul (.t 53) (.t 55)),
                  (some (50, true), .mv 57 (.t 8)),
                  (some (50, true), .bin 58 .add (.t 56) (.t 57)),
                  (some (50, true), .idxS 59 1 (.t 52) (.t 58)),
                  (some (50, true), .load1 60 (.t 59)),
                  (some (50, true), .bin 61 .eql (.t 60) (.c (.I 1))),
                  (none, .pick 62 (.t 50) (.t 61) (.c (.B false))),
                  (none, .mv 63 (.t 62)),
                  (some (63, true), .fieldAddr 64 (.t 1) 5),
                  (some (63, true), .load1 65 (.t 64)),
                  (some (63, true), .mv 66 (.t 7)),
                  (some (63, true), .fieldAddr 67 (.t 1) 2),
                  (some (63, true), .load1 68 (.t 67)),
                  (some (63, true), .bin 69 .mul (.t 66) (.t 68)),
                  (some (63, true), .mv 70 (.t 8)),
                  (some (63, true), .bin 71 .add (.t 69) (.t 70)),
                  (some (63, true), .idxS 72 1 (.t 65) (.t 71)),
                  (some (63, true), .load1 73 (.t 72)),
                  (some (63, true), .bin 74 .eql (.t 73) (.c (.I 1))),
                  (none, .pick 75 (.t 63) (.t 74) (.c (.B false)))])
               (.cond (.t 75) (.draw [⟨(none, .fieldAddr 76 (.t 3) 3), [], []⟩,
                   ⟨(none, .load1 77 (.t 76)), [], []⟩,
                   ⟨(none, .mv 78 (.t 4)), [], []⟩,
                   ⟨(none, .mv 79 (.t 5)), [], []⟩,
                   ⟨(none, .idxS 80 3 (.t 78) (.t 79)), [], []⟩,
                   ⟨(none, .loadN 81 3 (.t 80)), [], []⟩,
                   ⟨(none, .buildSl 82 1 3 [(.I 0), (.I 0), (.I 0)] [(0, 3, (.t 81))]), [], []⟩,
                   ⟨(none, .append 83 3 24 (.t 77) (.t 82)), [], []⟩,
                   ⟨(none, .fieldAddr 84 (.t 3) 3), [], []⟩,
                   ⟨(none, .store 1 (.t 84) (.t 83)), [], []⟩])
                (.skip)))))
            (.ops [(none, .mv 22 (.t 5)),
               (none, .bin 23 .add (.t 22) (.c (.I 1))),
               (none, .mv 5 (.t 23))]))))))
       (.seq (.ops [(none, .loadN 85 4 (.t 3)),
           (none, .store 4 (.t 2) (.t 85))])
        (.ret)))))⟩
end Go.Ab.C

/- That the program has this code. -/
namespace Go.Ab.K
open Go Go.Ab
theorem spec_l3Allowed : prepF Go.Proofs.Try.prog F.spec_l3Allowed = some C.spec_l3Allowed := by kernel_rfl
end Go.Ab.K

/- Contracts: allowed cells, the reference's side. -/
namespace Go.Ab
open Go
set_option linter.unusedSimpArgs false
set_option linter.unusedVariables false
set_option maxRecDepth 20000

theorem allowed_ones {x y z : Int} {tp fr sd : List Int} {c : Cell} (hok : ShdOK x y z tp fr sd) (hc : c.inBox x y z) : allowedB y z tp fr sd c = (decide (tp.getD (c.a * y + c.b).toNat 0 = 1) && (decide (fr.getD (c.a * z + c.c).toNat 0 = 1) && decide (sd.getD (c.b * z + c.c).toNat 0 = 1))) := by
  have key : ∀ d, d < 3 → ((shdList d tp fr sd).getD (lineOf y z c d).toNat 0 ≠ 0 ↔ (shdList d tp fr sd).getD (lineOf y z c d).toNat 0 = 1) := fun d hd => by
    obtain ⟨h1, h2⟩ := hok.list hd
    obtain ⟨k1, k2⟩ := lineOf_in hok.1 hc hd
    have hm := h1 _ (getD_mem' (d := (0 : Int)) (show (lineOf y z c d).toNat < (shdList d tp fr sd).length by omega))
    omega
  rw [Bool.eq_iff_iff]
  simp only [Bool.and_eq_true, decide_eq_true_eq]
  unfold allowedB litK
  rw [decide_eq_true_iff]
  constructor
  · intro h
    exact ⟨(key 2 (by omega)).1 (h 2 (by omega)), (key 1 (by omega)).1 (h 1 (by omega)), (key 0 (by omega)).1 (h 0 (by omega))⟩
  · rintro ⟨a, b, e⟩ j hj
    rcases (show j = 0 ∨ j = 1 ∨ j = 2 by omega) with rfl | rfl | rfl
    · exact (key 0 (by omega)).2 e
    · exact (key 1 (by omega)).2 b
    · exact (key 2 (by omega)).2 a

theorem memK_one {M : Mem} {t j e : Nat} {old : List LV} {v : LV} {A : Mem → Prop} (ht : Live M t (.row old true e)) (hj : j < old.length)
    (hA : ∀ M', M'.length = M.length → Live M' t (.row (old.set j v) true e) → (∀ u, u ≠ t → u < M.length → M'[u]? = M[u]?) → A M') : memK (setCells M t j [v]) A := by
  rw [ht.setC, if_pos (by simp; omega), splice_1 hj]
  exact hA _ (by simp) ht.set_eq fun u hu _ => List.getElem?_set_ne (fun e => hu e.symm)
theorem h_l3Allowed {x y z : Int} {t o t' o' t2 o2 : Nat} {tp fr sd : List Int} {M : Mem} (h1 : Ints M t o tp) (h2 : Ints M t' o' fr) (h3 : Ints M t2 o2 sd) (hok : ShdOK x y z tp fr sd) :
    CallsTo PG F.spec_l3Allowed [.agg [.I x, .I y, .I z, .ref t o tp.length, .ref t' o' fr.length, .ref t2 o2 sd.length]] M (.agg [.I x, .I y, .I z, .ref M.length 0 (pick x y z (allowedB y z tp fr sd)).length])
      (M ++ [some (.row (triL (pick x y z (allowedB y z tp fr sd))) true 3)]) := by
  have hS := hok.1
  have hv := vol_cast hS
  have hp := prod_le hS
  have ht := h1.lt
  have ht' := h2.lt
  have ht2 := h3.lt
  have hcl : (cellsOf x y z).length = vol x y z := by simp [cellsOf]
  refine calls_run K.spec_l3Allowed rfl ?_
  simp (disch := omega) only [C.spec_l3Allowed, ↓SXd, SXu, slBounds, ↓sop, ↓aop, ↓reduceIte, LV.cells, AOp.dst, LV.I, LV.B, LV.U, LV.S, LV.nil, Nat.reduceEqDiff, Nat.reduceAdd, Nat.reduceMul, Nat.reduceSub, Nat.reduceLeDiff, Nat.reduceBEq, Nat.reduceDiv, Nat.reduceMod, Int.reduceToNat, Int.reduceLT, Int.reduceLE, Int.reduceAdd, Int.reduceSub, Int.reduceMul, Int.reduceEq, Int.reduceNeg, reduceCtorEq, resV, resAll, ARes.ev, LV.flat, ite_true, ite_false, exists_eq_left', exists_eq_left, keyOf, implies_true, fillC, capOf]
  refine callK_of (h_l2Empty) ?_
  simp (disch := omega) only [splice, ↓SXd, SXu, slBounds, ↓sop, ↓aop, ↓reduceIte, LV.cells, AOp.dst, LV.I, LV.B, LV.U, LV.S, LV.nil, Nat.reduceEqDiff, Nat.reduceAdd, Nat.reduceMul, Nat.reduceSub, Nat.reduceLeDiff, Nat.reduceBEq, Nat.reduceDiv, Nat.reduceMod, Int.reduceToNat, Int.reduceLT, Int.reduceLE, Int.reduceAdd, Int.reduceSub, Int.reduceMul, Int.reduceEq, Int.reduceNeg, reduceCtorEq, resV, resAll, ARes.ev, LV.flat, ite_true, ite_false, exists_eq_left', exists_eq_left, keyOf, implies_true, fillC, capOf]
  refine callK_of (h_l2All hS) ?_
  simp (disch := omega) only [↓SXd, SXu, slBounds, ↓sop, ↓aop, ↓reduceIte, LV.cells, AOp.dst, LV.I, LV.B, LV.U, LV.S, LV.nil, Nat.reduceEqDiff, Nat.reduceAdd, Nat.reduceMul, Nat.reduceSub, Nat.reduceLeDiff, Nat.reduceBEq, Nat.reduceDiv, Nat.reduceMod, Int.reduceToNat, Int.reduceLT, Int.reduceLE, Int.reduceAdd, Int.reduceSub, Int.reduceMul, Int.reduceEq, Int.reduceNeg, reduceCtorEq, resV, resAll, ARes.ev, LV.flat, ite_true, ite_false, exists_eq_left', exists_eq_left, keyOf, implies_true, fillC, capOf]
  refine ev_loop (fun m fr1 M' => ∃ i u : Nat, i + m = (cellsOf x y z).length ∧ Pre M M' ∧ Live M' M.length (.row [.I x, .I y, .I z, .ref t o tp.length, .ref t' o' fr.length, .ref t2 o2 sd.length] true 0) ∧ Live M' (M.length + 1) (.row [.I 0, .I 0, .I 0, .nil] true 0) ∧
    Live M' (M.length + 3) (.row [.I x, .I y, .I z, .ref u 0 (((cellsOf x y z).take i).filter (allowedB y z tp fr sd)).length] true 0) ∧ Live M' (M.length + 4) (.row (triL (cellsOf x y z)) true 3) ∧ Live M' u (.row (triL (((cellsOf x y z).take i).filter (allowedB y z tp fr sd))) true 3) ∧ (u = M.length + 2 ∨ M.length + 4 < u) ∧
    fr1 1 = .ptr M.length 0 ∧ fr1 2 = .ptr (M.length + 1) 0 ∧ fr1 3 = .ptr (M.length + 3) 0 ∧ fr1 4 = .ref (M.length + 4) 0 (cellsOf x y z).length ∧ fr1 5 = .I i) (cellsOf x y z).length
    ⟨0, M.length + 2, by omega, Pre.app _ _, Live.new, Live.newj rfl, Live.newj rfl, Live.newj rfl, Live.newj rfl, .inl rfl, rfl, rfl, rfl, rfl, rfl⟩ ?_
  rintro m fr1 M' ⟨i, u, hi, hpre, b1, b2, b3, b4, bu, hu, f1, f2, f3, f4, f5⟩
  simp (disch := omega) only [f1, f2, f3, f4, f5, ↓SXd, SXu, slBounds, ↓sop, ↓aop, ↓reduceIte, LV.cells, AOp.dst, LV.I, LV.B, LV.U, LV.S, LV.nil, Nat.reduceEqDiff, Nat.reduceAdd, Nat.reduceMul, Nat.reduceSub, Nat.reduceLeDiff, Nat.reduceBEq, Nat.reduceDiv, Nat.reduceMod, Int.reduceToNat, Int.reduceLT, Int.reduceLE, Int.reduceAdd, Int.reduceSub, Int.reduceMul, Int.reduceEq, Int.reduceNeg, reduceCtorEq, resV, resAll, ARes.ev, LV.flat, ite_true, ite_false, exists_eq_left', exists_eq_left, keyOf, implies_true, fillC, capOf]
  refine condC_dec (fun hlt => ?_) (fun hlt => ?_)
  · have hil : i < (cellsOf x y z).length := by omega
    have hcb := (mem_cellsOf hS).1 (getD_mem' (d := default) hil)
    have hci := b4.tri0 hil
    have ga := Tri.get_a b4.has hil
    have gb := Tri.get_b b4.has hil
    have gc := Tri.get_c b4.has hil
    have hts : (cellsOf x y z).take (i + 1) = (cellsOf x y z).take i ++ [(cellsOf x y z).getD i default] := by
      rw [List.take_succ, List.getElem?_eq_getElem hil]; simp [hil]
    have hal : (((cellsOf x y z).take i).filter (allowedB y z tp fr sd)).length ≤ 64 := by
      have q1 := List.length_filter_le (allowedB y z tp fr sd) ((cellsOf x y z).take i)
      have q2 := List.length_take_le i (cellsOf x y z)
      omega
    rw [Nat.zero_add] at ga gb gc
    generalize (cellsOf x y z).getD i default = c at hcb hci ga gb gc hts
    have hstep : ((cellsOf x y z).take (i + 1)).filter (allowedB y z tp fr sd) = ((cellsOf x y z).take i).filter (allowedB y z tp fr sd) ++ (if allowedB y z tp fr sd c then [c] else []) := by
      rw [hts, List.filter_append, List.filter_cons, List.filter_nil]
    have hao := allowed_ones hok hcb
    have i2 : 0 ≤ c.a * y + c.b ∧ c.a * y + c.b < x * y := lineOf_in (d := 2) hS hcb (by omega)
    have i1 : 0 ≤ c.a * z + c.c ∧ c.a * z + c.c < x * z := lineOf_in (d := 1) hS hcb (by omega)
    have i0 : 0 ≤ c.b * z + c.c ∧ c.b * z + c.c < y * z := lineOf_in (d := 0) hS hcb (by omega)
    have k2 : (tp.length : Int) = x * y := hok.2.1.2
    have k1 : (fr.length : Int) = x * z := hok.2.2.1.2
    have k0 : (sd.length : Int) = y * z := hok.2.2.2.2
    have e2 := Ints.get (h1.pre hpre) (k := (c.a * y + c.b).toNat) (by omega)
    have e1 := Ints.get (h2.pre hpre) (k := (c.a * z + c.c).toNat) (by omega)
    have e0 := Ints.get (h3.pre hpre) (k := (c.b * z + c.c).toNat) (by omega)
    obtain ⟨⟨_, _⟩, ⟨_, _⟩, ⟨_, _⟩⟩ := id hcb
    obtain ⟨⟨_, _⟩, ⟨_, _⟩, ⟨_, _⟩⟩ := id hS
    have hskip : allowedB y z tp fr sd c = false → ((cellsOf x y z).take (i + 1)).filter (allowedB y z tp fr sd) = ((cellsOf x y z).take i).filter (allowedB y z tp fr sd) := fun h => by rw [hstep, h]; simp
    by_cases q2 : tp.getD (c.a * y + c.b).toNat 0 = 1
    · by_cases q1 : fr.getD (c.a * z + c.c).toNat 0 = 1
      · by_cases q0 : sd.getD (c.b * z + c.c).toNat 0 = 1
        · rw [decide_eq_true q2, decide_eq_true q1, decide_eq_true q0] at hao
          simp (disch := omega) only [f1, f2, f3, f4, f5, ga, gb, gc, b1.cell, e2, e1, e0, q2, q1, q0, b3.cell, hci, Cell.row, splice, ↓SXd, SXu, slBounds, ↓sop, ↓aop, ↓reduceIte, LV.cells, AOp.dst, LV.I, LV.B, LV.U, LV.S, LV.nil, Nat.reduceEqDiff, Nat.reduceAdd, Nat.reduceMul, Nat.reduceSub, Nat.reduceLeDiff, Nat.reduceBEq, Nat.reduceDiv, Nat.reduceMod, Int.reduceToNat, Int.reduceLT, Int.reduceLE, Int.reduceAdd, Int.reduceSub, Int.reduceMul, Int.reduceEq, Int.reduceNeg, reduceCtorEq, resV, resAll, ARes.ev, LV.flat, ite_true, ite_false, exists_eq_left', exists_eq_left, keyOf, implies_true, fillC, capOf]
          rw [if_pos (by rw [hao]; rfl)] at hstep
          refine appendK_cell bu (by omega) fun N' l1 l2 l3 => ?_
          have hl4 := b4.lt
          have d3 := live_step b3 (by omega) l3
          simp (disch := omega) only [f1, f2, f3, f4, f5, ↓SXd, SXu, slBounds, ↓sop, ↓aop, ↓reduceIte, LV.cells, AOp.dst, LV.I, LV.B, LV.U, LV.S, LV.nil, Nat.reduceEqDiff, Nat.reduceAdd, Nat.reduceMul, Nat.reduceSub, Nat.reduceLeDiff, Nat.reduceBEq, Nat.reduceDiv, Nat.reduceMod, Int.reduceToNat, Int.reduceLT, Int.reduceLE, Int.reduceAdd, Int.reduceSub, Int.reduceMul, Int.reduceEq, Int.reduceNeg, reduceCtorEq, resV, resAll, ARes.ev, LV.flat, ite_true, ite_false, exists_eq_left', exists_eq_left, keyOf, implies_true, fillC, capOf]
          refine memK_one d3 (by simp) fun N3 j1 j2 j3 => ?_
          simp (disch := omega) only [f1, f2, f3, f4, f5, ↓SXd, SXu, slBounds, ↓sop, ↓aop, ↓reduceIte, LV.cells, AOp.dst, LV.I, LV.B, LV.U, LV.S, LV.nil, Nat.reduceEqDiff, Nat.reduceAdd, Nat.reduceMul, Nat.reduceSub, Nat.reduceLeDiff, Nat.reduceBEq, Nat.reduceDiv, Nat.reduceMod, Int.reduceToNat, Int.reduceLT, Int.reduceLE, Int.reduceAdd, Int.reduceSub, Int.reduceMul, Int.reduceEq, Int.reduceNeg, reduceCtorEq, resV, resAll, ARes.ev, LV.flat, ite_true, ite_false, exists_eq_left', exists_eq_left, keyOf, implies_true, fillC, capOf]
          rw [cell_eta, ← hstep] at l2 j2
          exact ⟨m - 1, by omega, i + 1, M'.length + 1, by omega, pre_step (pre_step hpre (by omega) l1 l3) (by omega) (j := 0) j1 j3, live_step (live_step b1 (by omega) l3) (by omega) j3, live_step (live_step b2 (by omega) l3) (by omega) j3, j2, live_step (live_step b4 (by omega) l3) (by omega) j3, live_step l2 (by omega) j3, by omega, f1, f2, f3, f4, eqI (natI _)⟩
        · rw [decide_eq_true q2, decide_eq_true q1, decide_eq_false q0] at hao
          simp (disch := omega) only [f1, f2, f3, f4, f5, ga, gb, gc, b1.cell, e2, e1, e0, q2, q1, q0, ↓SXd, SXu, slBounds, ↓sop, ↓aop, ↓reduceIte, LV.cells, AOp.dst, LV.I, LV.B, LV.U, LV.S, LV.nil, Nat.reduceEqDiff, Nat.reduceAdd, Nat.reduceMul, Nat.reduceSub, Nat.reduceLeDiff, Nat.reduceBEq, Nat.reduceDiv, Nat.reduceMod, Int.reduceToNat, Int.reduceLT, Int.reduceLE, Int.reduceAdd, Int.reduceSub, Int.reduceMul, Int.reduceEq, Int.reduceNeg, reduceCtorEq, resV, resAll, ARes.ev, LV.flat, ite_true, ite_false, exists_eq_left', exists_eq_left, keyOf, implies_true, fillC, capOf]
          rw [← hskip hao] at b3 bu
          exact ⟨m - 1, by omega, i + 1, u, by omega, hpre, b1, b2, b3, b4, bu, hu, f1, f2, f3, f4, eqI (natI _)⟩
      · rw [decide_eq_true q2, decide_eq_false q1] at hao
        simp (disch := omega) only [f1, f2, f3, f4, f5, ga, gb, gc, b1.cell, e2, e1, q2, q1, ↓SXd, SXu, slBounds, ↓sop, ↓aop, ↓reduceIte, LV.cells, AOp.dst, LV.I, LV.B, LV.U, LV.S, LV.nil, Nat.reduceEqDiff, Nat.reduceAdd, Nat.reduceMul, Nat.reduceSub, Nat.reduceLeDiff, Nat.reduceBEq, Nat.reduceDiv, Nat.reduceMod, Int.reduceToNat, Int.reduceLT, Int.reduceLE, Int.reduceAdd, Int.reduceSub, Int.reduceMul, Int.reduceEq, Int.reduceNeg, reduceCtorEq, resV, resAll, ARes.ev, LV.flat, ite_true, ite_false, exists_eq_left', exists_eq_left, keyOf, implies_true, fillC, capOf]
        rw [← hskip hao] at b3 bu
        exact ⟨m - 1, by omega, i + 1, u, by omega, hpre, b1, b2, b3, b4, bu, hu, f1, f2, f3, f4, eqI (natI _)⟩
    · rw [decide_eq_false q2] at hao
      simp (disch := omega) only [f1, f2, f3, f4, f5, ga, gb, gc, b1.cell, e2, q2, ↓SXd, SXu, slBounds, ↓sop, ↓aop, ↓reduceIte, LV.cells, AOp.dst, LV.I, LV.B, LV.U, LV.S, LV.nil, Nat.reduceEqDiff, Nat.reduceAdd, Nat.reduceMul, Nat.reduceSub, Nat.reduceLeDiff, Nat.reduceBEq, Nat.reduceDiv, Nat.reduceMod, Int.reduceToNat, Int.reduceLT, Int.reduceLE, Int.reduceAdd, Int.reduceSub, Int.reduceMul, Int.reduceEq, Int.reduceNeg, reduceCtorEq, resV, resAll, ARes.ev, LV.flat, ite_true, ite_false, exists_eq_left', exists_eq_left, keyOf, implies_true, fillC, capOf]
      rw [← hskip hao] at b3 bu
      exact ⟨m - 1, by omega, i + 1, u, by omega, hpre, b1, b2, b3, b4, bu, hu, f1, f2, f3, f4, eqI (natI _)⟩
  · simp (disch := omega) only [f1, f2, f3, f4, f5, b3.cells, ↓SXd, SXu, slBounds, ↓sop, ↓aop, ↓reduceIte, LV.cells, AOp.dst, LV.I, LV.B, LV.U, LV.S, LV.nil, Nat.reduceEqDiff, Nat.reduceAdd, Nat.reduceMul, Nat.reduceSub, Nat.reduceLeDiff, Nat.reduceBEq, Nat.reduceDiv, Nat.reduceMod, Int.reduceToNat, Int.reduceLT, Int.reduceLE, Int.reduceAdd, Int.reduceSub, Int.reduceMul, Int.reduceEq, Int.reduceNeg, reduceCtorEq, resV, resAll, ARes.ev, LV.flat, ite_true, ite_false, exists_eq_left', exists_eq_left, keyOf, implies_true, fillC, capOf]
    have : i = (cellsOf x y z).length := by omega
    subst this
    rw [List.take_length] at b3 bu
    change Live M' u (.row (triL (pick x y z (allowedB y z tp fr sd))) true 3) at bu
    refine memK_box b2 (by simp) fun N3 k1 k2 k3 => ?_
    simp (disch := omega) only [f1, f2, f3, f4, f5, k2.cells, ↓SXd, SXu, slBounds, ↓sop, ↓aop, ↓reduceIte, LV.cells, AOp.dst, LV.I, LV.B, LV.U, LV.S, LV.nil, Nat.reduceEqDiff, Nat.reduceAdd, Nat.reduceMul, Nat.reduceSub, Nat.reduceLeDiff, Nat.reduceBEq, Nat.reduceDiv, Nat.reduceMod, Int.reduceToNat, Int.reduceLT, Int.reduceLE, Int.reduceAdd, Int.reduceSub, Int.reduceMul, Int.reduceEq, Int.reduceNeg, reduceCtorEq, resV, resAll, ARes.ev, LV.flat, ite_true, ite_false, exists_eq_left', exists_eq_left, keyOf, implies_true, fillC, capOf]
    exact cmp_keepL (pre_step hpre (by omega) (j := 0) k1 k3) (by omega) (live_step bu (by omega) k3) (triL_lo _) (by simp [rn, rn0, rn1, pick])
end Go.Ab

/- Contracts: whether a heap has a shadow, the reference's side. -/
namespace Go.Ab
open Go
set_option linter.unusedSimpArgs false
set_option linter.unusedVariables false

theorem lines_le {x y z : Int} {d : Nat} (hS : Sides x y z) (hd : d < 3) : 1 ≤ linesOf x y z d ∧ linesOf x y z d ≤ 16 := by
  have := prod_le hS
  rcases (show d = 0 ∨ d = 1 ∨ d = 2 by omega) with rfl | rfl | rfl
  · exact this.2.2
  · exact this.2.1
  · exact this.1
section
variable {x y z : Int} {t o : Nat} {cs : List Cell} {M : Mem} (h : Tri M t o cs) (hH : HeapOK x y z cs)
include h hH
theorem h_l2Top : CallsTo PG F.spec_l2Top [.agg [.I x, .I y, .I z, .ref t o cs.length]] M (.ref M.length 0 (shdOf x y z 2 cs).length) (M ++ [some (.row (intL (shdOf x y z 2 cs)) true 1)]) := by
  have hl := lines_le hH.1 (d := 2) (by omega)
  have hvl := viewL_len (x := x) (y := y) (z := z) (d := 2) (cs := cs)
  refine calls_run K.spec_l2Top rfl ?_
  simp (disch := omega) only [C.spec_l2Top, ↓SXd, SXu, slBounds, ↓sop, ↓aop, ↓reduceIte, LV.cells, AOp.dst, LV.I, LV.B, LV.U, LV.S, LV.nil, Nat.reduceEqDiff, Nat.reduceAdd, Nat.reduceMul, Nat.reduceSub, Nat.reduceLeDiff, Nat.reduceBEq, Nat.reduceDiv, Nat.reduceMod, Int.reduceToNat, Int.reduceLT, Int.reduceLE, Int.reduceAdd, Int.reduceSub, Int.reduceMul, Int.reduceEq, Int.reduceNeg, reduceCtorEq, resV, resAll, ARes.ev, LV.flat, ite_true, ite_false, exists_eq_left', exists_eq_left, keyOf, implies_true, fillC, capOf]
  refine callK_of (h_l2View h.app hH (d := 2) (by omega)) ?_
  simp (disch := omega) only [↓SXd, SXu, slBounds, ↓sop, ↓aop, ↓reduceIte, LV.cells, AOp.dst, LV.I, LV.B, LV.U, LV.S, LV.nil, Nat.reduceEqDiff, Nat.reduceAdd, Nat.reduceMul, Nat.reduceSub, Nat.reduceLeDiff, Nat.reduceBEq, Nat.reduceDiv, Nat.reduceMod, Int.reduceToNat, Int.reduceLT, Int.reduceLE, Int.reduceAdd, Int.reduceSub, Int.reduceMul, Int.reduceEq, Int.reduceNeg, reduceCtorEq, resV, resAll, ARes.ev, LV.flat, ite_true, ite_false, exists_eq_left', exists_eq_left, keyOf, implies_true, fillC, capOf]
  refine callK_of (h_l2Ones (Live.newj (M := M) (j := 1) (b := .row (intL (viewL x y z 2 cs)) true 1) rfl).has (by omega)) ?_
  simp (disch := omega) only [↓SXd, SXu, slBounds, ↓sop, ↓aop, ↓reduceIte, LV.cells, AOp.dst, LV.I, LV.B, LV.U, LV.S, LV.nil, Nat.reduceEqDiff, Nat.reduceAdd, Nat.reduceMul, Nat.reduceSub, Nat.reduceLeDiff, Nat.reduceBEq, Nat.reduceDiv, Nat.reduceMod, Int.reduceToNat, Int.reduceLT, Int.reduceLE, Int.reduceAdd, Int.reduceSub, Int.reduceMul, Int.reduceEq, Int.reduceNeg, reduceCtorEq, resV, resAll, ARes.ev, LV.flat, ite_true, ite_false, exists_eq_left', exists_eq_left, keyOf, implies_true, fillC, capOf]
  exact cmp_keep1 (j := 2) rfl (intL_lo _) (by simp [rn, rn0, rn1, keepR_n, shdOf])
theorem h_l2Front : CallsTo PG F.spec_l2Front [.agg [.I x, .I y, .I z, .ref t o cs.length]] M (.ref M.length 0 (shdOf x y z 1 cs).length) (M ++ [some (.row (intL (shdOf x y z 1 cs)) true 1)]) := by
  have hl := lines_le hH.1 (d := 1) (by omega)
  have hvl := viewL_len (x := x) (y := y) (z := z) (d := 1) (cs := cs)
  refine calls_run K.spec_l2Front rfl ?_
  simp (disch := omega) only [C.spec_l2Front, ↓SXd, SXu, slBounds, ↓sop, ↓aop, ↓reduceIte, LV.cells, AOp.dst, LV.I, LV.B, LV.U, LV.S, LV.nil, Nat.reduceEqDiff, Nat.reduceAdd, Nat.reduceMul, Nat.reduceSub, Nat.reduceLeDiff, Nat.reduceBEq, Nat.reduceDiv, Nat.reduceMod, Int.reduceToNat, Int.reduceLT, Int.reduceLE, Int.reduceAdd, Int.reduceSub, Int.reduceMul, Int.reduceEq, Int.reduceNeg, reduceCtorEq, resV, resAll, ARes.ev, LV.flat, ite_true, ite_false, exists_eq_left', exists_eq_left, keyOf, implies_true, fillC, capOf]
  refine callK_of (h_l2View h.app hH (d := 1) (by omega)) ?_
  simp (disch := omega) only [↓SXd, SXu, slBounds, ↓sop, ↓aop, ↓reduceIte, LV.cells, AOp.dst, LV.I, LV.B, LV.U, LV.S, LV.nil, Nat.reduceEqDiff, Nat.reduceAdd, Nat.reduceMul, Nat.reduceSub, Nat.reduceLeDiff, Nat.reduceBEq, Nat.reduceDiv, Nat.reduceMod, Int.reduceToNat, Int.reduceLT, Int.reduceLE, Int.reduceAdd, Int.reduceSub, Int.reduceMul, Int.reduceEq, Int.reduceNeg, reduceCtorEq, resV, resAll, ARes.ev, LV.flat, ite_true, ite_false, exists_eq_left', exists_eq_left, keyOf, implies_true, fillC, capOf]
  refine callK_of (h_l2Ones (Live.newj (M := M) (j := 1) (b := .row (intL (viewL x y z 1 cs)) true 1) rfl).has (by omega)) ?_
  simp (disch := omega) only [↓SXd, SXu, slBounds, ↓sop, ↓aop, ↓reduceIte, LV.cells, AOp.dst, LV.I, LV.B, LV.U, LV.S, LV.nil, Nat.reduceEqDiff, Nat.reduceAdd, Nat.reduceMul, Nat.reduceSub, Nat.reduceLeDiff, Nat.reduceBEq, Nat.reduceDiv, Nat.reduceMod, Int.reduceToNat, Int.reduceLT, Int.reduceLE, Int.reduceAdd, Int.reduceSub, Int.reduceMul, Int.reduceEq, Int.reduceNeg, reduceCtorEq, resV, resAll, ARes.ev, LV.flat, ite_true, ite_false, exists_eq_left', exists_eq_left, keyOf, implies_true, fillC, capOf]
  exact cmp_keep1 (j := 2) rfl (intL_lo _) (by simp [rn, rn0, rn1, keepR_n, shdOf])
theorem h_l2Side : CallsTo PG F.spec_l2Side [.agg [.I x, .I y, .I z, .ref t o cs.length]] M (.ref M.length 0 (shdOf x y z 0 cs).length) (M ++ [some (.row (intL (shdOf x y z 0 cs)) true 1)]) := by
  have hl := lines_le hH.1 (d := 0) (by omega)
  have hvl := viewL_len (x := x) (y := y) (z := z) (d := 0) (cs := cs)
  refine calls_run K.spec_l2Side rfl ?_
  simp (disch := omega) only [C.spec_l2Side, ↓SXd, SXu, slBounds, ↓sop, ↓aop, ↓reduceIte, LV.cells, AOp.dst, LV.I, LV.B, LV.U, LV.S, LV.nil, Nat.reduceEqDiff, Nat.reduceAdd, Nat.reduceMul, Nat.reduceSub, Nat.reduceLeDiff, Nat.reduceBEq, Nat.reduceDiv, Nat.reduceMod, Int.reduceToNat, Int.reduceLT, Int.reduceLE, Int.reduceAdd, Int.reduceSub, Int.reduceMul, Int.reduceEq, Int.reduceNeg, reduceCtorEq, resV, resAll, ARes.ev, LV.flat, ite_true, ite_false, exists_eq_left', exists_eq_left, keyOf, implies_true, fillC, capOf]
  refine callK_of (h_l2View h.app hH (d := 0) (by omega)) ?_
  simp (disch := omega) only [↓SXd, SXu, slBounds, ↓sop, ↓aop, ↓reduceIte, LV.cells, AOp.dst, LV.I, LV.B, LV.U, LV.S, LV.nil, Nat.reduceEqDiff, Nat.reduceAdd, Nat.reduceMul, Nat.reduceSub, Nat.reduceLeDiff, Nat.reduceBEq, Nat.reduceDiv, Nat.reduceMod, Int.reduceToNat, Int.reduceLT, Int.reduceLE, Int.reduceAdd, Int.reduceSub, Int.reduceMul, Int.reduceEq, Int.reduceNeg, reduceCtorEq, resV, resAll, ARes.ev, LV.flat, ite_true, ite_false, exists_eq_left', exists_eq_left, keyOf, implies_true, fillC, capOf]
  refine callK_of (h_l2Ones (Live.newj (M := M) (j := 1) (b := .row (intL (viewL x y z 0 cs)) true 1) rfl).has (by omega)) ?_
  simp (disch := omega) only [↓SXd, SXu, slBounds, ↓sop, ↓aop, ↓reduceIte, LV.cells, AOp.dst, LV.I, LV.B, LV.U, LV.S, LV.nil, Nat.reduceEqDiff, Nat.reduceAdd, Nat.reduceMul, Nat.reduceSub, Nat.reduceLeDiff, Nat.reduceBEq, Nat.reduceDiv, Nat.reduceMod, Int.reduceToNat, Int.reduceLT, Int.reduceLE, Int.reduceAdd, Int.reduceSub, Int.reduceMul, Int.reduceEq, Int.reduceNeg, reduceCtorEq, resV, resAll, ARes.ev, LV.flat, ite_true, ite_false, exists_eq_left', exists_eq_left, keyOf, implies_true, fillC, capOf]
  exact cmp_keep1 (j := 2) rfl (intL_lo _) (by simp [rn, rn0, rn1, keepR_n, shdOf])
end

/-- A set of cells has a shadow. -/
def HasShd (x y z : Int) (tp fr sd : List Int) (cs : List Cell) : Prop := shdOf x y z 2 cs = tp ∧ shdOf x y z 1 cs = fr ∧ shdOf x y z 0 cs = sd
instance (x y z : Int) (tp fr sd : List Int) (cs : List Cell) : Decidable (HasShd x y z tp fr sd cs) := by unfold HasShd; exact inferInstance
theorem h_l3Has {x y z x' y' z' : Int} {t o t' o' t2 o2 u v : Nat} {tp fr sd : List Int} {cs : List Cell} {M : Mem} (h1 : Ints M t o tp) (h2 : Ints M t' o' fr) (h3 : Ints M t2 o2 sd) (l1 : tp.length ≤ 1000000000) (l2 : fr.length ≤ 1000000000) (l3 : sd.length ≤ 1000000000)
    (h : Tri M u v cs) (hH : HeapOK x y z cs) :
    CallsTo PG F.spec_l3Has [.agg [.I x', .I y', .I z', .ref t o tp.length, .ref t' o' fr.length, .ref t2 o2 sd.length], .agg [.I x, .I y, .I z, .ref u v cs.length]] M (.B (decide (HasShd x y z tp fr sd cs))) M := by
  have q2 := lines_le hH.1 (d := 2) (by omega)
  have q1 := lines_le hH.1 (d := 1) (by omega)
  have q0 := lines_le hH.1 (d := 0) (by omega)
  have k2 := shdOf_len (x := x) (y := y) (z := z) (d := 2) (cs := cs)
  have k1 := shdOf_len (x := x) (y := y) (z := z) (d := 1) (cs := cs)
  have k0 := shdOf_len (x := x) (y := y) (z := z) (d := 0) (cs := cs)
  rw [show decide (HasShd x y z tp fr sd cs) = decide (shdOf x y z 2 cs = tp ∧ shdOf x y z 1 cs = fr ∧ shdOf x y z 0 cs = sd) from decide_eq_decide.2 Iff.rfl]
  have c2 := fun M' (hp : Pre M M') => h_l2Top (h.pre hp) hH
  have c1 := fun M' (hp : Pre M M') => h_l2Front (h.pre hp) hH
  have c0 := fun M' (hp : Pre M M') => h_l2Side (h.pre hp) hH
  generalize shdOf x y z 2 cs = s2 at k2 c2 ⊢
  generalize shdOf x y z 1 cs = s1 at k1 c1 ⊢
  generalize shdOf x y z 0 cs = s0 at k0 c0 ⊢
  refine calls_run K.spec_l3Has rfl ?_
  simp (disch := omega) only [C.spec_l3Has, ↓SXd, SXu, slBounds, ↓sop, ↓aop, ↓reduceIte, LV.cells, AOp.dst, LV.I, LV.B, LV.U, LV.S, LV.nil, Nat.reduceEqDiff, Nat.reduceAdd, Nat.reduceMul, Nat.reduceSub, Nat.reduceLeDiff, Nat.reduceBEq, Nat.reduceDiv, Nat.reduceMod, Int.reduceToNat, Int.reduceLT, Int.reduceLE, Int.reduceAdd, Int.reduceSub, Int.reduceMul, Int.reduceEq, Int.reduceNeg, reduceCtorEq, resV, resAll, ARes.ev, LV.flat, ite_true, ite_false, exists_eq_left', exists_eq_left, keyOf, implies_true, fillC, capOf]
  refine callK_of (c2 _ (Pre.app _ _)) ?_
  simp (disch := omega) only [↓SXd, SXu, slBounds, ↓sop, ↓aop, ↓reduceIte, LV.cells, AOp.dst, LV.I, LV.B, LV.U, LV.S, LV.nil, Nat.reduceEqDiff, Nat.reduceAdd, Nat.reduceMul, Nat.reduceSub, Nat.reduceLeDiff, Nat.reduceBEq, Nat.reduceDiv, Nat.reduceMod, Int.reduceToNat, Int.reduceLT, Int.reduceLE, Int.reduceAdd, Int.reduceSub, Int.reduceMul, Int.reduceEq, Int.reduceNeg, reduceCtorEq, resV, resAll, ARes.ev, LV.flat, ite_true, ite_false, exists_eq_left', exists_eq_left, keyOf, implies_true, fillC, capOf]
  refine callK_of (h_l1Same (Live.newj (M := M) (j := 2) (b := .row (intL s2) true 1) rfl).has h1.app (by omega) l1) ?_
  simp (disch := omega) only [↓SXd, SXu, slBounds, ↓sop, ↓aop, ↓reduceIte, LV.cells, AOp.dst, LV.I, LV.B, LV.U, LV.S, LV.nil, Nat.reduceEqDiff, Nat.reduceAdd, Nat.reduceMul, Nat.reduceSub, Nat.reduceLeDiff, Nat.reduceBEq, Nat.reduceDiv, Nat.reduceMod, Int.reduceToNat, Int.reduceLT, Int.reduceLE, Int.reduceAdd, Int.reduceSub, Int.reduceMul, Int.reduceEq, Int.reduceNeg, reduceCtorEq, resV, resAll, ARes.ev, LV.flat, ite_true, ite_false, exists_eq_left', exists_eq_left, keyOf, implies_true, fillC, capOf]
  by_cases e2 : s2 = tp
  · simp (disch := omega) only [e2, true_and, ↓SXd, SXu, slBounds, ↓sop, ↓aop, ↓reduceIte, LV.cells, AOp.dst, LV.I, LV.B, LV.U, LV.S, LV.nil, Nat.reduceEqDiff, Nat.reduceAdd, Nat.reduceMul, Nat.reduceSub, Nat.reduceLeDiff, Nat.reduceBEq, Nat.reduceDiv, Nat.reduceMod, Int.reduceToNat, Int.reduceLT, Int.reduceLE, Int.reduceAdd, Int.reduceSub, Int.reduceMul, Int.reduceEq, Int.reduceNeg, reduceCtorEq, resV, resAll, ARes.ev, LV.flat, ite_true, ite_false, exists_eq_left', exists_eq_left, keyOf, implies_true, fillC, capOf]
    refine callK_of (c1 _ (Pre.app _ _)) ?_
    simp (disch := omega) only [↓SXd, SXu, slBounds, ↓sop, ↓aop, ↓reduceIte, LV.cells, AOp.dst, LV.I, LV.B, LV.U, LV.S, LV.nil, Nat.reduceEqDiff, Nat.reduceAdd, Nat.reduceMul, Nat.reduceSub, Nat.reduceLeDiff, Nat.reduceBEq, Nat.reduceDiv, Nat.reduceMod, Int.reduceToNat, Int.reduceLT, Int.reduceLE, Int.reduceAdd, Int.reduceSub, Int.reduceMul, Int.reduceEq, Int.reduceNeg, reduceCtorEq, resV, resAll, ARes.ev, LV.flat, ite_true, ite_false, exists_eq_left', exists_eq_left, keyOf, implies_true, fillC, capOf]
    refine callK_of (h_l1Same (Live.newj (M := M) (j := 3) (b := .row (intL s1) true 1) rfl).has h2.app (by omega) l2) ?_
    simp (disch := omega) only [↓SXd, SXu, slBounds, ↓sop, ↓aop, ↓reduceIte, LV.cells, AOp.dst, LV.I, LV.B, LV.U, LV.S, LV.nil, Nat.reduceEqDiff, Nat.reduceAdd, Nat.reduceMul, Nat.reduceSub, Nat.reduceLeDiff, Nat.reduceBEq, Nat.reduceDiv, Nat.reduceMod, Int.reduceToNat, Int.reduceLT, Int.reduceLE, Int.reduceAdd, Int.reduceSub, Int.reduceMul, Int.reduceEq, Int.reduceNeg, reduceCtorEq, resV, resAll, ARes.ev, LV.flat, ite_true, ite_false, exists_eq_left', exists_eq_left, keyOf, implies_true, fillC, capOf]
    by_cases e1 : s1 = fr
    · simp (disch := omega) only [e1, true_and, ↓SXd, SXu, slBounds, ↓sop, ↓aop, ↓reduceIte, LV.cells, AOp.dst, LV.I, LV.B, LV.U, LV.S, LV.nil, Nat.reduceEqDiff, Nat.reduceAdd, Nat.reduceMul, Nat.reduceSub, Nat.reduceLeDiff, Nat.reduceBEq, Nat.reduceDiv, Nat.reduceMod, Int.reduceToNat, Int.reduceLT, Int.reduceLE, Int.reduceAdd, Int.reduceSub, Int.reduceMul, Int.reduceEq, Int.reduceNeg, reduceCtorEq, resV, resAll, ARes.ev, LV.flat, ite_true, ite_false, exists_eq_left', exists_eq_left, keyOf, implies_true, fillC, capOf]
      refine callK_of (c0 _ (Pre.app _ _)) ?_
      simp (disch := omega) only [↓SXd, SXu, slBounds, ↓sop, ↓aop, ↓reduceIte, LV.cells, AOp.dst, LV.I, LV.B, LV.U, LV.S, LV.nil, Nat.reduceEqDiff, Nat.reduceAdd, Nat.reduceMul, Nat.reduceSub, Nat.reduceLeDiff, Nat.reduceBEq, Nat.reduceDiv, Nat.reduceMod, Int.reduceToNat, Int.reduceLT, Int.reduceLE, Int.reduceAdd, Int.reduceSub, Int.reduceMul, Int.reduceEq, Int.reduceNeg, reduceCtorEq, resV, resAll, ARes.ev, LV.flat, ite_true, ite_false, exists_eq_left', exists_eq_left, keyOf, implies_true, fillC, capOf]
      refine callK_of (h_l1Same (Live.newj (M := M) (j := 4) (b := .row (intL s0) true 1) rfl).has h3.app (by omega) l3) ?_
      simp (disch := omega) only [↓SXd, SXu, slBounds, ↓sop, ↓aop, ↓reduceIte, LV.cells, AOp.dst, LV.I, LV.B, LV.U, LV.S, LV.nil, Nat.reduceEqDiff, Nat.reduceAdd, Nat.reduceMul, Nat.reduceSub, Nat.reduceLeDiff, Nat.reduceBEq, Nat.reduceDiv, Nat.reduceMod, Int.reduceToNat, Int.reduceLT, Int.reduceLE, Int.reduceAdd, Int.reduceSub, Int.reduceMul, Int.reduceEq, Int.reduceNeg, reduceCtorEq, resV, resAll, ARes.ev, LV.flat, ite_true, ite_false, exists_eq_left', exists_eq_left, keyOf, implies_true, fillC, capOf]
      exact cmp_drop rfl
    · simp (disch := omega) only [e1, false_and, ↓SXd, SXu, slBounds, ↓sop, ↓aop, ↓reduceIte, LV.cells, AOp.dst, LV.I, LV.B, LV.U, LV.S, LV.nil, Nat.reduceEqDiff, Nat.reduceAdd, Nat.reduceMul, Nat.reduceSub, Nat.reduceLeDiff, Nat.reduceBEq, Nat.reduceDiv, Nat.reduceMod, Int.reduceToNat, Int.reduceLT, Int.reduceLE, Int.reduceAdd, Int.reduceSub, Int.reduceMul, Int.reduceEq, Int.reduceNeg, reduceCtorEq, resV, resAll, ARes.ev, LV.flat, ite_true, ite_false, exists_eq_left', exists_eq_left, keyOf, implies_true, fillC, capOf]
      exact cmp_drop rfl
  · simp (disch := omega) only [e2, false_and, ↓SXd, SXu, slBounds, ↓sop, ↓aop, ↓reduceIte, LV.cells, AOp.dst, LV.I, LV.B, LV.U, LV.S, LV.nil, Nat.reduceEqDiff, Nat.reduceAdd, Nat.reduceMul, Nat.reduceSub, Nat.reduceLeDiff, Nat.reduceBEq, Nat.reduceDiv, Nat.reduceMod, Int.reduceToNat, Int.reduceLT, Int.reduceLE, Int.reduceAdd, Int.reduceSub, Int.reduceMul, Int.reduceEq, Int.reduceNeg, reduceCtorEq, resV, resAll, ARes.ev, LV.flat, ite_true, ite_false, exists_eq_left', exists_eq_left, keyOf, implies_true, fillC, capOf]
    exact cmp_drop rfl
theorem h_l3Fit {x y z : Int} {t o t' o' t2 o2 : Nat} {tp fr sd : List Int} {M : Mem} (h1 : Ints M t o tp) (h2 : Ints M t' o' fr) (h3 : Ints M t2 o2 sd) (l1 : tp.length ≤ 1000000000) (l2 : fr.length ≤ 1000000000) (l3 : sd.length ≤ 1000000000) :
    CallsTo PG F.spec_l3Fit [.agg [.I x, .I y, .I z, .ref t o tp.length, .ref t' o' fr.length, .ref t2 o2 sd.length]] M (.B (decide (ShdOK x y z tp fr sd ∧ HasShd x y z tp fr sd (pick x y z (allowedB y z tp fr sd))))) M := by
  refine calls_run K.spec_l3Fit rfl ?_
  simp (disch := omega) only [C.spec_l3Fit, ↓SXd, SXu, slBounds, ↓sop, ↓aop, ↓reduceIte, LV.cells, AOp.dst, LV.I, LV.B, LV.U, LV.S, LV.nil, Nat.reduceEqDiff, Nat.reduceAdd, Nat.reduceMul, Nat.reduceSub, Nat.reduceLeDiff, Nat.reduceBEq, Nat.reduceDiv, Nat.reduceMod, Int.reduceToNat, Int.reduceLT, Int.reduceLE, Int.reduceAdd, Int.reduceSub, Int.reduceMul, Int.reduceEq, Int.reduceNeg, reduceCtorEq, resV, resAll, ARes.ev, LV.flat, ite_true, ite_false, exists_eq_left', exists_eq_left, keyOf, implies_true, fillC, capOf]
  refine callK_of (h_l3Shadow h1.app h2.app h3.app l1 l2 l3) ?_
  simp (disch := omega) only [↓SXd, SXu, slBounds, ↓sop, ↓aop, ↓reduceIte, LV.cells, AOp.dst, LV.I, LV.B, LV.U, LV.S, LV.nil, Nat.reduceEqDiff, Nat.reduceAdd, Nat.reduceMul, Nat.reduceSub, Nat.reduceLeDiff, Nat.reduceBEq, Nat.reduceDiv, Nat.reduceMod, Int.reduceToNat, Int.reduceLT, Int.reduceLE, Int.reduceAdd, Int.reduceSub, Int.reduceMul, Int.reduceEq, Int.reduceNeg, reduceCtorEq, resV, resAll, ARes.ev, LV.flat, ite_true, ite_false, exists_eq_left', exists_eq_left, keyOf, implies_true, fillC, capOf]
  by_cases hok : ShdOK x y z tp fr sd
  · simp (disch := omega) only [hok, true_and, ↓SXd, SXu, slBounds, ↓sop, ↓aop, ↓reduceIte, LV.cells, AOp.dst, LV.I, LV.B, LV.U, LV.S, LV.nil, Nat.reduceEqDiff, Nat.reduceAdd, Nat.reduceMul, Nat.reduceSub, Nat.reduceLeDiff, Nat.reduceBEq, Nat.reduceDiv, Nat.reduceMod, Int.reduceToNat, Int.reduceLT, Int.reduceLE, Int.reduceAdd, Int.reduceSub, Int.reduceMul, Int.reduceEq, Int.reduceNeg, reduceCtorEq, resV, resAll, ARes.ev, LV.flat, ite_true, ite_false, exists_eq_left', exists_eq_left, keyOf, implies_true, fillC, capOf]
    refine callK_of (h_l3Allowed h1.app h2.app h3.app hok) ?_
    simp (disch := omega) only [↓SXd, SXu, slBounds, ↓sop, ↓aop, ↓reduceIte, LV.cells, AOp.dst, LV.I, LV.B, LV.U, LV.S, LV.nil, Nat.reduceEqDiff, Nat.reduceAdd, Nat.reduceMul, Nat.reduceSub, Nat.reduceLeDiff, Nat.reduceBEq, Nat.reduceDiv, Nat.reduceMod, Int.reduceToNat, Int.reduceLT, Int.reduceLE, Int.reduceAdd, Int.reduceSub, Int.reduceMul, Int.reduceEq, Int.reduceNeg, reduceCtorEq, resV, resAll, ARes.ev, LV.flat, ite_true, ite_false, exists_eq_left', exists_eq_left, keyOf, implies_true, fillC, capOf]
    refine callK_of (h_l3Has h1.app h2.app h3.app l1 l2 l3 (Live.newj (M := M) (j := 1) (b := .row (triL (pick x y z (allowedB y z tp fr sd))) true 3) rfl).has (pick_ok hok.1 _)) ?_
    simp (disch := omega) only [↓SXd, SXu, slBounds, ↓sop, ↓aop, ↓reduceIte, LV.cells, AOp.dst, LV.I, LV.B, LV.U, LV.S, LV.nil, Nat.reduceEqDiff, Nat.reduceAdd, Nat.reduceMul, Nat.reduceSub, Nat.reduceLeDiff, Nat.reduceBEq, Nat.reduceDiv, Nat.reduceMod, Int.reduceToNat, Int.reduceLT, Int.reduceLE, Int.reduceAdd, Int.reduceSub, Int.reduceMul, Int.reduceEq, Int.reduceNeg, reduceCtorEq, resV, resAll, ARes.ev, LV.flat, ite_true, ite_false, exists_eq_left', exists_eq_left, keyOf, implies_true, fillC, capOf]
    exact cmp_drop rfl
  · simp (disch := omega) only [hok, false_and, ↓SXd, SXu, slBounds, ↓sop, ↓aop, ↓reduceIte, LV.cells, AOp.dst, LV.I, LV.B, LV.U, LV.S, LV.nil, Nat.reduceEqDiff, Nat.reduceAdd, Nat.reduceMul, Nat.reduceSub, Nat.reduceLeDiff, Nat.reduceBEq, Nat.reduceDiv, Nat.reduceMod, Int.reduceToNat, Int.reduceLT, Int.reduceLE, Int.reduceAdd, Int.reduceSub, Int.reduceMul, Int.reduceEq, Int.reduceNeg, reduceCtorEq, resV, resAll, ARes.ev, LV.flat, ite_true, ite_false, exists_eq_left', exists_eq_left, keyOf, implies_true, fillC, capOf]
    exact cmp_drop rfl
end Go.Ab

/- Contracts: lit lines without a cube, the reference's side. -/
namespace Go.Ab
open Go
set_option linter.unusedSimpArgs false
set_option linter.unusedVariables false
set_option maxRecDepth 20000

theorem appendK_list {M : Mem} {t t2 o2 n n2 e b : Nat} {acc new : List LV} {A : LV → Mem → Prop} (ht : Live M t (.row acc true e)) (hn : acc.length = n * e) (h2 : Has M t2 o2 new) (hne : new.length = n2 * e) (hb : (n + n2) * b ≤ 140737488355328) (hl : n + n2 ≤ 9223372036854775807)
    (hA : ∀ u M', M.length ≤ M'.length → Live M' u (.row (acc ++ new) true e) → (u = t ∨ M.length ≤ u) → (∀ w, w ≠ t → w < M.length → M'[w]? = M[w]?) → A (.ref u 0 (n + n2)) M') : appendK e b (.ref t 0 n) (.ref t2 o2 n2) M A := by
  rcases Nat.eq_zero_or_pos n2 with h0 | h0
  · subst h0
    have : new = [] := List.eq_nil_of_length_eq_zero (by omega)
    subst this
    rw [appendK_zero]
    exact ⟨⟨by omega, by omega⟩, hA t M (Nat.le_refl _) (by rw [List.append_nil]; exact ht) (.inl rfl) fun _ _ _ => rfl⟩
  · rw [appendK_pos h0 (by rw [← hne]; exact h2.all) ht (by omega)]
    refine ⟨⟨hb, hl⟩, hA _ _ (by simp) ?_ (.inr (Nat.le_refl _)) fun w hw hwl => ?_⟩
    · unfold Live
      rw [List.getElem?_append_right (by simp)]
      simp [← hn]
    · rw [List.getElem?_append_left (by simpa using hwl), List.getElem?_set_ne (fun e => hw e.symm)]
theorem pre_stepL {M0 M M' : Mem} {t : Nat} (hp : Pre M0 M) (ht : M0.length ≤ t) (hl : M.length ≤ M'.length) (hu : ∀ u, u ≠ t → u < M.length → M'[u]? = M[u]?) : Pre M0 M' :=
  ⟨Nat.le_trans hp.1 hl, fun u hu' => by rw [hu u (by omega) (Nat.lt_of_lt_of_le hu' hp.1)]; exact hp.2 u hu'⟩

def boolL (v : List Bool) : List LV := v.map LV.B
theorem boolL_len (v : List Bool) : (boolL v).length = v.length := by simp [boolL]
theorem boolL_set {v : List Bool} {k : Nat} {b : Bool} : (boolL v).set k (.B b) = boolL (v.set k b) := by simp [boolL, List.map_set]
theorem boolL_get {v : List Bool} {k : Nat} (h : k < v.length) : (boolL v)[k]? = some (.B (v.getD k false)) := by simp [boolL, h]
theorem boolL_lo {n : Nat} (v : List Bool) : (boolL v).all (LV.lo1 n) = true := by
  rw [List.all_eq_true]; intro x hx
  obtain ⟨l, _, rfl⟩ := List.mem_map.1 hx
  rfl
theorem memK_bool {M : Mem} {t k : Nat} {v : List Bool} {b : Bool} {A : Mem → Prop} (ht : Live M t (.row (boolL v) true 1)) (hk : k < v.length)
    (hA : ∀ M', M'.length = M.length → Live M' t (.row (boolL (v.set k b)) true 1) → (∀ u, u ≠ t → u < M.length → M'[u]? = M[u]?) → A M') : memK (setCells M t k [.val (.bool b)]) A :=
  memK_one ht (by rw [boolL_len]; exact hk) fun M' h1 h2 h3 => hA M' h1 (by rw [← boolL_set]; exact h2) h3

theorem h_l1Own {xs : List Int} {t o : Nat} {M : Mem} (h : Ints M t o xs) (hn : xs.length ≤ 1000000000) : CallsTo PG F.spec_l1Own [.ref t o xs.length] M (.ref M.length 0 xs.length) (M ++ [some (.row (intL xs) true 1)]) := by
  refine calls_run K.spec_l1Own rfl ?_
  simp (disch := omega) only [C.spec_l1Own, ↓SXd, SXu, slBounds, ↓sop, ↓aop, ↓reduceIte, LV.cells, AOp.dst, LV.I, LV.B, LV.U, LV.S, LV.nil, Nat.reduceEqDiff, Nat.reduceAdd, Nat.reduceMul, Nat.reduceSub, Nat.reduceLeDiff, Nat.reduceBEq, Nat.reduceDiv, Nat.reduceMod, Int.reduceToNat, Int.reduceLT, Int.reduceLE, Int.reduceAdd, Int.reduceSub, Int.reduceMul, Int.reduceEq, Int.reduceNeg, reduceCtorEq, resV, resAll, ARes.ev, LV.flat, ite_true, ite_false, exists_eq_left', exists_eq_left, keyOf, implies_true, fillC, capOf]
  refine appendK_list (acc := []) (n := 0) Live.new rfl h.app (by rw [intL_len, Nat.mul_one]) (by omega) (by omega) fun u N k1 k2 k3 k4 => ?_
  simp (disch := omega) only [↓SXd, SXu, slBounds, ↓sop, ↓aop, ↓reduceIte, LV.cells, AOp.dst, LV.I, LV.B, LV.U, LV.S, LV.nil, Nat.reduceEqDiff, Nat.reduceAdd, Nat.reduceMul, Nat.reduceSub, Nat.reduceLeDiff, Nat.reduceBEq, Nat.reduceDiv, Nat.reduceMod, Int.reduceToNat, Int.reduceLT, Int.reduceLE, Int.reduceAdd, Int.reduceSub, Int.reduceMul, Int.reduceEq, Int.reduceNeg, reduceCtorEq, resV, resAll, ARes.ev, LV.flat, ite_true, ite_false, exists_eq_left', exists_eq_left, keyOf, implies_true, fillC, capOf]
  exact cmp_keepL (pre_stepL (Pre.app _ _) (t := M.length) (Nat.le_refl _) k1 k4) (by simp at k3; omega) k2 (intL_lo _) (by simp [rn, rn0, rn1])

theorem h_l3Lines {x y z : Int} {tp fr sd : List Int} {a b c' : LV} {c : Cell} {M : Mem} (hok : ShdOK x y z tp fr sd) (hc : c.inBox x y z) (ha : a.one = true ∧ a.cells = some [a]) (hb : b.one = true ∧ b.cells = some [b]) (hc' : c'.one = true ∧ c'.cells = some [c']) :
    CallsTo PG F.spec_l3Lines [.agg [.I x, .I y, .I z, a, b, c'], .agg [.I c.a, .I c.b, .I c.c]] M (.agg [.I (gl y z tp fr 2 c : Nat), .I (gl y z tp fr 1 c : Nat), .I (gl y z tp fr 0 c : Nat)]) M := by
  have hS := hok.1
  obtain ⟨⟨_, _⟩, ⟨_, _⟩, ⟨_, _⟩⟩ := prod_le hS
  have l0 := lineOf_in hS hc (d := 0) (by omega)
  have l1 := lineOf_in hS hc (d := 1) (by omega)
  have l2 := lineOf_in hS hc (d := 2) (by omega)
  have q0 := lines_le hS (d := 0) (by omega)
  have q1 := lines_le hS (d := 1) (by omega)
  have q2 := lines_le hS (d := 2) (by omega)
  have b1 : ((fr.length : Nat) : Int) = x * z := hok.2.2.1.2
  have b2 : ((tp.length : Nat) : Int) = x * y := hok.2.1.2
  have e0 : ((gl y z tp fr 0 c : Nat) : Int) = x * y + x * z + c.b * z + c.c := by
    have : lineOf y z c 0 = c.b * z + c.c := rfl
    simp only [gl, show offL tp fr 0 = tp.length + fr.length from rfl]; omega
  have e1 : ((gl y z tp fr 1 c : Nat) : Int) = x * y + c.a * z + c.c := by
    have : lineOf y z c 1 = c.a * z + c.c := rfl
    simp only [gl, show offL tp fr 1 = tp.length from rfl]; omega
  have e2 : ((gl y z tp fr 2 c : Nat) : Int) = c.a * y + c.b := by
    have : lineOf y z c 2 = c.a * y + c.b := rfl
    simp only [gl, show offL tp fr 2 = 0 from rfl]; omega
  have i0 : lineOf y z c 0 = c.b * z + c.c := rfl
  have i1 : lineOf y z c 1 = c.a * z + c.c := rfl
  have i2 : lineOf y z c 2 = c.a * y + c.b := rfl
  obtain ⟨⟨_, _⟩, ⟨_, _⟩, ⟨_, _⟩⟩ := id hc
  obtain ⟨⟨_, _⟩, ⟨_, _⟩, ⟨_, _⟩⟩ := id hS
  have hm : ∀ {a b : Int}, 0 ≤ a → a ≤ 3 → 1 ≤ b → b ≤ 4 → 0 ≤ a * b ∧ a * b ≤ 12 := fun {a b} h1 h2 h3 h4 => by
    rcases (show b = 1 ∨ b = 2 ∨ b = 3 ∨ b = 4 by omega) with rfl | rfl | rfl | rfl <;> omega
  obtain ⟨_, _⟩ := hm (a := c.a) (b := y) (by omega) (by omega) (by omega) (by omega)
  obtain ⟨_, _⟩ := hm (a := c.a) (b := z) (by omega) (by omega) (by omega) (by omega)
  obtain ⟨_, _⟩ := hm (a := c.b) (b := z) (by omega) (by omega) (by omega) (by omega)
  refine calls_run K.spec_l3Lines rfl ?_
  simp (disch := omega) only [C.spec_l3Lines, ha, hb, hc', splice, ↓SXd, SXu, slBounds, ↓sop, ↓aop, ↓reduceIte, LV.cells, AOp.dst, LV.I, LV.B, LV.U, LV.S, LV.nil, Nat.reduceEqDiff, Nat.reduceAdd, Nat.reduceMul, Nat.reduceSub, Nat.reduceLeDiff, Nat.reduceBEq, Nat.reduceDiv, Nat.reduceMod, Int.reduceToNat, Int.reduceLT, Int.reduceLE, Int.reduceAdd, Int.reduceSub, Int.reduceMul, Int.reduceEq, Int.reduceNeg, reduceCtorEq, resV, resAll, ARes.ev, LV.flat, ite_true, ite_false, exists_eq_left', exists_eq_left, keyOf, implies_true, fillC, capOf]
  rw [e0, e1, e2]
  refine cmp_pre (Pre.app _ _) rfl

def stepTo (y z : Int) (tp fr : List Int) (V : List Bool) (c : Cell) : Nat → List Bool
  | 0 => V
  | k + 1 => (stepTo y z tp fr V c k).set (gl y z tp fr (2 - k) c) false
theorem stepTo_len {y z : Int} {tp fr : List Int} {V : List Bool} {c : Cell} : ∀ {k : Nat}, (stepTo y z tp fr V c k).length = V.length
  | 0 => rfl
  | k + 1 => by rw [stepTo, List.length_set, stepTo_len]
theorem h_l3Dark {x y z : Int} {t o t' o' t2 o2 q r : Nat} {tp fr sd : List Int} {cs : List Cell} {M : Mem} (h1 : Ints M t o tp) (h2 : Ints M t' o' fr) (h3 : Ints M t2 o2 sd) (hok : ShdOK x y z tp fr sd) (h : Tri M q r cs) (hin : ∀ c ∈ cs, c.inBox x y z) (hn : cs.length ≤ 1000000) :
    CallsTo PG F.spec_l3Dark [.agg [.I x, .I y, .I z, .ref t o tp.length, .ref t' o' fr.length, .ref t2 o2 sd.length], .ref q r cs.length] M (.ref M.length 0 (darkL y z tp fr sd cs).length) (M ++ [some (.row (boolL (darkL y z tp fr sd cs)) true 1)]) := by
  have hS := hok.1
  have ht := h1.lt
  have ht' := h2.lt
  have ht2 := h3.lt
  have hq := h.lt
  have b0 : ((sd.length : Nat) : Int) = y * z := hok.2.2.2.2
  have b1 : ((fr.length : Nat) : Int) = x * z := hok.2.2.1.2
  have b2 : ((tp.length : Nat) : Int) = x * y := hok.2.1.2
  obtain ⟨⟨_, _⟩, ⟨_, _⟩, ⟨_, _⟩⟩ := prod_le hS
  refine calls_run K.spec_l3Dark rfl ?_
  simp (disch := omega) only [C.spec_l3Dark, ↓SXd, SXu, slBounds, ↓sop, ↓aop, ↓reduceIte, LV.cells, AOp.dst, LV.I, LV.B, LV.U, LV.S, LV.nil, Nat.reduceEqDiff, Nat.reduceAdd, Nat.reduceMul, Nat.reduceSub, Nat.reduceLeDiff, Nat.reduceBEq, Nat.reduceDiv, Nat.reduceMod, Int.reduceToNat, Int.reduceLT, Int.reduceLE, Int.reduceAdd, Int.reduceSub, Int.reduceMul, Int.reduceEq, Int.reduceNeg, reduceCtorEq, resV, resAll, ARes.ev, LV.flat, ite_true, ite_false, exists_eq_left', exists_eq_left, keyOf, implies_true, fillC, capOf]
  refine callK_of (h_l1Own h1.app (by omega)) ?_
  simp (disch := omega) only [↓SXd, SXu, slBounds, ↓sop, ↓aop, ↓reduceIte, LV.cells, AOp.dst, LV.I, LV.B, LV.U, LV.S, LV.nil, Nat.reduceEqDiff, Nat.reduceAdd, Nat.reduceMul, Nat.reduceSub, Nat.reduceLeDiff, Nat.reduceBEq, Nat.reduceDiv, Nat.reduceMod, Int.reduceToNat, Int.reduceLT, Int.reduceLE, Int.reduceAdd, Int.reduceSub, Int.reduceMul, Int.reduceEq, Int.reduceNeg, reduceCtorEq, resV, resAll, ARes.ev, LV.flat, ite_true, ite_false, exists_eq_left', exists_eq_left, keyOf, implies_true, fillC, capOf]
  refine appendK_list (Live.newj (M := M) (j := 2) (b := .row (intL tp) true 1) rfl) (by rw [intL_len, Nat.mul_one]) h2.app (by rw [intL_len, Nat.mul_one]) (by omega) (by omega) fun u N k1 k2 k3 k4 => ?_
  simp (disch := omega) only [↓SXd, SXu, slBounds, ↓sop, ↓aop, ↓reduceIte, LV.cells, AOp.dst, LV.I, LV.B, LV.U, LV.S, LV.nil, Nat.reduceEqDiff, Nat.reduceAdd, Nat.reduceMul, Nat.reduceSub, Nat.reduceLeDiff, Nat.reduceBEq, Nat.reduceDiv, Nat.reduceMod, Int.reduceToNat, Int.reduceLT, Int.reduceLE, Int.reduceAdd, Int.reduceSub, Int.reduceMul, Int.reduceEq, Int.reduceNeg, reduceCtorEq, resV, resAll, ARes.ev, LV.flat, ite_true, ite_false, exists_eq_left', exists_eq_left, keyOf, implies_true, fillC, capOf]
  have hbx : Live N M.length (.row [.I x, .I y, .I z, .ref t o tp.length, .ref t' o' fr.length, .ref t2 o2 sd.length] true 0) := Live.at Live.new (k4 _ (by omega) (by simp))
  have hb1 : Live N (M.length + 1) (.row [] true 1) := Live.at (Live.newj (j := 1) rfl) (k4 _ (by omega) (by simp))
  have hp1 : Pre M N := pre_stepL (Pre.app _ _) (t := M.length + 2) (by omega) k1 k4
  have hul : M.length + 2 ≤ u := by simp at k3; omega
  refine ⟨fun b hb => by rw [← hb]; exact hbx, ?_⟩
  refine appendK_list k2 (by rw [List.length_append, intL_len, intL_len, Nat.mul_one]) (h3.pre hp1) (by rw [intL_len, Nat.mul_one]) (by omega) (by omega) fun u2 N2 j1 j2 j3 j4 => ?_
  have hNl : M.length + 3 ≤ N.length := by simpa using k1
  have hu2l : M.length + 2 ≤ u2 := by omega
  have hbx2 := hbx.at (j4 _ (by omega) (by omega))
  have hb12 := hb1.at (j4 _ (by omega) (by omega))
  have hp2 : Pre M N2 := pre_stepL hp1 (t := u) (by omega) j1 j4
  rw [← intL_append, ← intL_append] at j2
  have hXl : tp.length + fr.length + sd.length = (tp ++ fr ++ sd).length := by rw [List.length_append, List.length_append]
  rw [hXl]
  have hXb : (tp ++ fr ++ sd).length ≤ 48 := by omega
  have hd0 : darkL y z tp fr sd cs = cs.foldl (darkStep y z tp fr) ((tp ++ fr ++ sd).map fun n => decide (n = 1)) := rfl
  have hdl := darkL_len (y := y) (z := z) (tp := tp) (fr := fr) (sd := sd) (cs := cs)
  have hglb : ∀ c ∈ cs, ∀ d, d < 3 → gl y z tp fr d c < (tp ++ fr ++ sd).length := fun c hc d hd => by
    have l0 := lineOf_in hS (hin c hc) (d := 0) (by omega)
    have l1 := lineOf_in hS (hin c hc) (d := 1) (by omega)
    have l2 := lineOf_in hS (hin c hc) (d := 2) (by omega)
    have q0 : linesOf x y z 0 = y * z := rfl
    have q1 : linesOf x y z 1 = x * z := rfl
    have q2 : linesOf x y z 2 = x * y := rfl
    rcases (show d = 0 ∨ d = 1 ∨ d = 2 by omega) with rfl | rfl | rfl
    · simp only [gl, show offL tp fr 0 = tp.length + fr.length from rfl]; omega
    · simp only [gl, show offL tp fr 1 = tp.length from rfl]; omega
    · simp only [gl, show offL tp fr 2 = 0 from rfl]; omega
  rw [hXl] at hdl
  rw [hd0] at hdl ⊢
  clear hd0
  generalize tp ++ fr ++ sd = X at j2 hXb hdl hglb ⊢
  simp (disch := omega) only [↓SXd, SXu, slBounds, ↓sop, ↓aop, ↓reduceIte, LV.cells, AOp.dst, LV.I, LV.B, LV.U, LV.S, LV.nil, Nat.reduceEqDiff, Nat.reduceAdd, Nat.reduceMul, Nat.reduceSub, Nat.reduceLeDiff, Nat.reduceBEq, Nat.reduceDiv, Nat.reduceMod, Int.reduceToNat, Int.reduceLT, Int.reduceLE, Int.reduceAdd, Int.reduceSub, Int.reduceMul, Int.reduceEq, Int.reduceNeg, reduceCtorEq, resV, resAll, ARes.ev, LV.flat, ite_true, ite_false, exists_eq_left', exists_eq_left, keyOf, implies_true, fillC, capOf]
  refine ev_loop (fun m fr1 M' => ∃ i v : Nat, i + m = X.length ∧ Pre M M' ∧ Live M' M.length (.row [.I x, .I y, .I z, .ref t o tp.length, .ref t' o' fr.length, .ref t2 o2 sd.length] true 0) ∧ Live M' u2 (.row (intL X) true 1) ∧ Live M' v (.row (boolL ((X.take i).map fun n => decide (n = 1))) true 1) ∧ M.length < v ∧ v ≠ u2 ∧
    fr1 1 = .ref q r cs.length ∧ fr1 2 = .ptr M.length 0 ∧ fr1 5 = .ref v 0 i ∧ fr1 6 = .ref u2 0 X.length ∧ fr1 7 = .I i) X.length
    ⟨0, M.length + 1, by omega, hp2, hbx2, j2, hb12, by omega, by omega, rfl, rfl, rfl, rfl, rfl⟩ ?_
  rintro m fr1 M' ⟨i, v, hi, p3, cb, cx, cv, hv, hvx, f1, f2, f5, f6, f7⟩
  simp (disch := omega) only [f1, f2, f5, f6, f7, ↓SXd, SXu, slBounds, ↓sop, ↓aop, ↓reduceIte, LV.cells, AOp.dst, LV.I, LV.B, LV.U, LV.S, LV.nil, Nat.reduceEqDiff, Nat.reduceAdd, Nat.reduceMul, Nat.reduceSub, Nat.reduceLeDiff, Nat.reduceBEq, Nat.reduceDiv, Nat.reduceMod, Int.reduceToNat, Int.reduceLT, Int.reduceLE, Int.reduceAdd, Int.reduceSub, Int.reduceMul, Int.reduceEq, Int.reduceNeg, reduceCtorEq, resV, resAll, ARes.ev, LV.flat, ite_true, ite_false, exists_eq_left', exists_eq_left, keyOf, implies_true, fillC, capOf]
  have hcx := cx.lt
  have hcb := cb.lt
  refine condC_dec (fun hlt => ?_) (fun hlt => ?_)
  · have hil : i < X.length := by omega
    have hg := Ints.get cx.has hil
    rw [Nat.zero_add] at hg
    have hts : (X.take (i + 1)).map (fun n => decide (n = 1)) = (X.take i).map (fun n => decide (n = 1)) ++ [decide (X.getD i 0 = 1)] := by
      have e : X.getD i 0 = X[i] := by simp [hil]
      rw [List.take_succ, List.getElem?_eq_getElem hil, List.map_append, e]; rfl
    simp (disch := omega) only [f1, f2, f5, f6, f7, hg, Nat.mul_one, ↓SXd, SXu, slBounds, ↓sop, ↓aop, ↓reduceIte, LV.cells, AOp.dst, LV.I, LV.B, LV.U, LV.S, LV.nil, Nat.reduceEqDiff, Nat.reduceAdd, Nat.reduceMul, Nat.reduceSub, Nat.reduceLeDiff, Nat.reduceBEq, Nat.reduceDiv, Nat.reduceMod, Int.reduceToNat, Int.reduceLT, Int.reduceLE, Int.reduceAdd, Int.reduceSub, Int.reduceMul, Int.reduceEq, Int.reduceNeg, reduceCtorEq, resV, resAll, ARes.ev, LV.flat, ite_true, ite_false, exists_eq_left', exists_eq_left, keyOf, implies_true, fillC, capOf]
    refine appendK_1 (n := i) (b := 1) (acc := boolL ((X.take i).map fun n => decide (n = 1))) (new := [.B (decide (X.getD i 0 = 1))]) cv (by rw [boolL_len, List.length_map, List.length_take]; omega) rfl (by omega) (by omega) (by omega) fun N3 e1 e2 e3 => ?_
    simp (disch := omega) only [f1, f2, f5, f6, f7, ↓SXd, SXu, slBounds, ↓sop, ↓aop, ↓reduceIte, LV.cells, AOp.dst, LV.I, LV.B, LV.U, LV.S, LV.nil, Nat.reduceEqDiff, Nat.reduceAdd, Nat.reduceMul, Nat.reduceSub, Nat.reduceLeDiff, Nat.reduceBEq, Nat.reduceDiv, Nat.reduceMod, Int.reduceToNat, Int.reduceLT, Int.reduceLE, Int.reduceAdd, Int.reduceSub, Int.reduceMul, Int.reduceEq, Int.reduceNeg, reduceCtorEq, resV, resAll, ARes.ev, LV.flat, ite_true, ite_false, exists_eq_left', exists_eq_left, keyOf, implies_true, fillC, capOf]
    rw [show boolL ((X.take i).map fun n => decide (n = 1)) ++ [.B (decide (X.getD i 0 = 1))] = boolL ((X.take (i + 1)).map fun n => decide (n = 1)) by rw [hts]; simp [boolL]] at e2
    exact ⟨m - 1, by omega, i + 1, M'.length + 1, by omega, pre_step p3 (by omega) e1 e3, live_step cb (by omega) e3, live_step cx (by omega) e3, e2, by omega, by omega, f1, f2, rfl, f6, eqI (natI _)⟩
  · simp (disch := omega) only [f1, f2, f5, f6, f7, ↓SXd, SXu, slBounds, ↓sop, ↓aop, ↓reduceIte, LV.cells, AOp.dst, LV.I, LV.B, LV.U, LV.S, LV.nil, Nat.reduceEqDiff, Nat.reduceAdd, Nat.reduceMul, Nat.reduceSub, Nat.reduceLeDiff, Nat.reduceBEq, Nat.reduceDiv, Nat.reduceMod, Int.reduceToNat, Int.reduceLT, Int.reduceLE, Int.reduceAdd, Int.reduceSub, Int.reduceMul, Int.reduceEq, Int.reduceNeg, reduceCtorEq, resV, resAll, ARes.ev, LV.flat, ite_true, ite_false, exists_eq_left', exists_eq_left, keyOf, implies_true, fillC, capOf]
    have : i = X.length := by omega
    subst this
    rw [List.take_length] at cv
    have hcl : (X.map fun n => decide (n = 1)).length = X.length := List.length_map ..
    generalize X.map (fun n => decide (n = 1)) = B at cv hdl hcl ⊢
    refine ev_loop (fun m fr1 M' => ∃ i : Nat, i + m = cs.length ∧ Pre M M' ∧ Live M' M.length (.row [.I x, .I y, .I z, .ref t o tp.length, .ref t' o' fr.length, .ref t2 o2 sd.length] true 0) ∧ Live M' v (.row (boolL ((cs.take i).foldl (darkStep y z tp fr) B)) true 1) ∧
      fr1 1 = .ref q r cs.length ∧ fr1 2 = .ptr M.length 0 ∧ fr1 5 = .ref v 0 X.length ∧ fr1 8 = .I i) cs.length
      ⟨0, by omega, p3, cb, cv, f1, f2, f5, rfl⟩ ?_
    clear f1 f2 f5 f6 f7 cb cv p3
    rintro m fr1 M' ⟨i, hi, p3, cb, cv, f1, f2, f5, f8⟩
    simp (disch := omega) only [f1, f2, f5, f8, ↓SXd, SXu, slBounds, ↓sop, ↓aop, ↓reduceIte, LV.cells, AOp.dst, LV.I, LV.B, LV.U, LV.S, LV.nil, Nat.reduceEqDiff, Nat.reduceAdd, Nat.reduceMul, Nat.reduceSub, Nat.reduceLeDiff, Nat.reduceBEq, Nat.reduceDiv, Nat.reduceMod, Int.reduceToNat, Int.reduceLT, Int.reduceLE, Int.reduceAdd, Int.reduceSub, Int.reduceMul, Int.reduceEq, Int.reduceNeg, reduceCtorEq, resV, resAll, ARes.ev, LV.flat, ite_true, ite_false, exists_eq_left', exists_eq_left, keyOf, implies_true, fillC, capOf]
    refine condC_dec (fun hlt => ?_) (fun hlt => ?_)
    · have hil : i < cs.length := by omega
      have hg := Tri.get (h.pre p3) hil
      have hci := hin _ (getD_mem' (d := default) hil)
      have hgi := hglb _ (getD_mem' (d := default) hil)
      have hts : (cs.take (i + 1)).foldl (darkStep y z tp fr) B = darkStep y z tp fr ((cs.take i).foldl (darkStep y z tp fr) B) (cs.getD i default) := by
        rw [List.take_succ, List.getElem?_eq_getElem hil, Option.toList_some, List.foldl_append]; simp [hil]
      have hVl := darkF_len (y := y) (z := z) (tp := tp) (fr := fr) (cs := cs.take i) (v := B)
      generalize cs.getD i default = c at hg hci hgi hts
      generalize (cs.take i).foldl (darkStep y z tp fr) B = V at cv hts hVl
      have hcb := cb.lt
      have hcv := cv.lt
      simp (disch := omega) only [f1, f2, f5, f8, hg, Cell.row, cb.cells, ↓SXd, SXu, slBounds, ↓sop, ↓aop, ↓reduceIte, LV.cells, AOp.dst, LV.I, LV.B, LV.U, LV.S, LV.nil, Nat.reduceEqDiff, Nat.reduceAdd, Nat.reduceMul, Nat.reduceSub, Nat.reduceLeDiff, Nat.reduceBEq, Nat.reduceDiv, Nat.reduceMod, Int.reduceToNat, Int.reduceLT, Int.reduceLE, Int.reduceAdd, Int.reduceSub, Int.reduceMul, Int.reduceEq, Int.reduceNeg, reduceCtorEq, resV, resAll, ARes.ev, LV.flat, ite_true, ite_false, exists_eq_left', exists_eq_left, keyOf, implies_true, fillC, capOf]
      refine callK_of (h_l3Lines hok hci ⟨rfl, rfl⟩ ⟨rfl, rfl⟩ ⟨rfl, rfl⟩) ?_
      simp (disch := omega) only [f1, f2, f5, f8, splice, ↓SXd, SXu, slBounds, ↓sop, ↓aop, ↓reduceIte, LV.cells, AOp.dst, LV.I, LV.B, LV.U, LV.S, LV.nil, Nat.reduceEqDiff, Nat.reduceAdd, Nat.reduceMul, Nat.reduceSub, Nat.reduceLeDiff, Nat.reduceBEq, Nat.reduceDiv, Nat.reduceMod, Int.reduceToNat, Int.reduceLT, Int.reduceLE, Int.reduceAdd, Int.reduceSub, Int.reduceMul, Int.reduceEq, Int.reduceNeg, reduceCtorEq, resV, resAll, ARes.ev, LV.flat, ite_true, ite_false, exists_eq_left', exists_eq_left, keyOf, implies_true, fillC, capOf]
      refine ev_loop (fun m2 fr2 M2 => ∃ k : Nat, k + m2 = 3 ∧ Pre M M2 ∧ Live M2 M.length (.row [.I x, .I y, .I z, .ref t o tp.length, .ref t' o' fr.length, .ref t2 o2 sd.length] true 0) ∧ Live M2 v (.row (boolL (stepTo y z tp fr V c k)) true 1) ∧ Live M2 M'.length (.row [.I (gl y z tp fr 2 c : Nat), .I (gl y z tp fr 1 c : Nat), .I (gl y z tp fr 0 c : Nat)] true 0) ∧
        fr2 1 = .ref q r cs.length ∧ fr2 2 = .ptr M.length 0 ∧ fr2 5 = .ref v 0 X.length ∧ fr2 8 = .I i ∧ fr2 9 = .ptr M'.length 0 ∧ fr2 10 = .I k) 3
        ⟨0, rfl, p3.app', cb.app, cv.app, Live.new, f1, f2, f5, f8, rfl, rfl⟩ ?_
      rintro m2 fr2 M2 ⟨k, hk, p4, db, dv, d9, g1, g2, g5, g8, g9, g10⟩
      simp (disch := omega) only [g1, g2, g5, g8, g9, g10, ↓SXd, SXu, slBounds, ↓sop, ↓aop, ↓reduceIte, LV.cells, AOp.dst, LV.I, LV.B, LV.U, LV.S, LV.nil, Nat.reduceEqDiff, Nat.reduceAdd, Nat.reduceMul, Nat.reduceSub, Nat.reduceLeDiff, Nat.reduceBEq, Nat.reduceDiv, Nat.reduceMod, Int.reduceToNat, Int.reduceLT, Int.reduceLE, Int.reduceAdd, Int.reduceSub, Int.reduceMul, Int.reduceEq, Int.reduceNeg, reduceCtorEq, resV, resAll, ARes.ev, LV.flat, ite_true, ite_false, exists_eq_left', exists_eq_left, keyOf, implies_true, fillC, capOf]
      have hsl := stepTo_len (y := y) (z := z) (tp := tp) (fr := fr) (V := V) (c := c) (k := k)
      refine condC_dec (fun hlt2 => ?_) (fun hlt2 => ?_)
      · have hk3 : k < 3 := by omega
        have hgk := hgi (2 - k) (by omega)
        have h9 := d9.cell (o := k)
        rw [show [LV.I (gl y z tp fr 2 c : Nat), .I (gl y z tp fr 1 c : Nat), .I (gl y z tp fr 0 c : Nat)][k]? = some (.I (gl y z tp fr (2 - k) c : Nat)) by
          rcases (show k = 0 ∨ k = 1 ∨ k = 2 by omega) with rfl | rfl | rfl <;> rfl] at h9
        simp (disch := omega) only [g1, g2, g5, g8, g9, g10, h9, Nat.mul_one, Nat.zero_add, ↓SXd, SXu, slBounds, ↓sop, ↓aop, ↓reduceIte, LV.cells, AOp.dst, LV.I, LV.B, LV.U, LV.S, LV.nil, Nat.reduceEqDiff, Nat.reduceAdd, Nat.reduceMul, Nat.reduceSub, Nat.reduceLeDiff, Nat.reduceBEq, Nat.reduceDiv, Nat.reduceMod, Int.reduceToNat, Int.reduceLT, Int.reduceLE, Int.reduceAdd, Int.reduceSub, Int.reduceMul, Int.reduceEq, Int.reduceNeg, reduceCtorEq, resV, resAll, ARes.ev, LV.flat, ite_true, ite_false, exists_eq_left', exists_eq_left, keyOf, implies_true, fillC, capOf]
        refine memK_bool dv (by omega) fun N3 e1 e2 e3 => ?_
        simp (disch := omega) only [g1, g2, g5, g8, g9, g10, ↓SXd, SXu, slBounds, ↓sop, ↓aop, ↓reduceIte, LV.cells, AOp.dst, LV.I, LV.B, LV.U, LV.S, LV.nil, Nat.reduceEqDiff, Nat.reduceAdd, Nat.reduceMul, Nat.reduceSub, Nat.reduceLeDiff, Nat.reduceBEq, Nat.reduceDiv, Nat.reduceMod, Int.reduceToNat, Int.reduceLT, Int.reduceLE, Int.reduceAdd, Int.reduceSub, Int.reduceMul, Int.reduceEq, Int.reduceNeg, reduceCtorEq, resV, resAll, ARes.ev, LV.flat, ite_true, ite_false, exists_eq_left', exists_eq_left, keyOf, implies_true, fillC, capOf]
        exact ⟨m2 - 1, by omega, k + 1, by omega, pre_step p4 (by omega) (j := 0) e1 e3, live_step db (by omega) e3, e2, live_step d9 (by omega) e3, g1, g2, g5, g8, g9, eqI (natI _)⟩
      · simp (disch := omega) only [g1, g2, g5, g8, g9, g10, ↓SXd, SXu, slBounds, ↓sop, ↓aop, ↓reduceIte, LV.cells, AOp.dst, LV.I, LV.B, LV.U, LV.S, LV.nil, Nat.reduceEqDiff, Nat.reduceAdd, Nat.reduceMul, Nat.reduceSub, Nat.reduceLeDiff, Nat.reduceBEq, Nat.reduceDiv, Nat.reduceMod, Int.reduceToNat, Int.reduceLT, Int.reduceLE, Int.reduceAdd, Int.reduceSub, Int.reduceMul, Int.reduceEq, Int.reduceNeg, reduceCtorEq, resV, resAll, ARes.ev, LV.flat, ite_true, ite_false, exists_eq_left', exists_eq_left, keyOf, implies_true, fillC, capOf]
        have : k = 3 := by omega
        subst this
        rw [show stepTo y z tp fr V c 3 = darkStep y z tp fr V c from rfl, ← hts] at dv
        exact ⟨m - 1, by omega, i + 1, by omega, p4, db, dv, g1, g2, g5, eqI (natI _)⟩
    · simp (disch := omega) only [f1, f2, f5, f8, ↓SXd, SXu, slBounds, ↓sop, ↓aop, ↓reduceIte, LV.cells, AOp.dst, LV.I, LV.B, LV.U, LV.S, LV.nil, Nat.reduceEqDiff, Nat.reduceAdd, Nat.reduceMul, Nat.reduceSub, Nat.reduceLeDiff, Nat.reduceBEq, Nat.reduceDiv, Nat.reduceMod, Int.reduceToNat, Int.reduceLT, Int.reduceLE, Int.reduceAdd, Int.reduceSub, Int.reduceMul, Int.reduceEq, Int.reduceNeg, reduceCtorEq, resV, resAll, ARes.ev, LV.flat, ite_true, ite_false, exists_eq_left', exists_eq_left, keyOf, implies_true, fillC, capOf]
      have : i = cs.length := by omega
      subst this
      rw [List.take_length] at cv
      rw [hdl]
      exact cmp_keepL p3 (by omega) cv (boolL_lo _) (by simp [rn, rn0, rn1])
end Go.Ab

/- The abstract code of some functions (written by a program of mine from the translation, by way of prepF). -/
namespace Go.Ab.C
open Go.Ab
end Go.Ab.C

/- That the program has this code. -/
namespace Go.Ab.K
open Go Go.Ab
end Go.Ab.K

/- The abstract code of some functions (written by a program of mine from the translation, by way of prepF). -/
namespace Go.Ab.C
open Go.Ab
def impl_Shadow_needs : AFn :=
  ⟨1, 37, [.tmp 2],
    .seq (.ops [(none, .box 1 (.t 0)),
       (none, .mv 2 (.c .nil))])
    (.seq (.ops [(none, .buildSl 8 0 1 [] []),
        (none, .loadN 9 6 (.t 1)),
        (none, .call (some 10) F.impl_Shadow_allowed [(.t 9)]),
        (none, .mv 3 (.t 8)),
        (none, .mv 4 (.t 10))])
     (.seq (.seq (.ops [(none, .mv 11 (.c (.I 0)))])
       (.block 0 (.loop (.seq (.ops [(none, .bin 12 .lss (.t 11) (.c (.I 3)))])
          (.seq (.cond (.t 12) (.skip)
            (.exit 0))
           (.seq (.block 1 (.seq (.ops [(none, .mv 13 (.t 11)),
                 (none, .alloc 5 [(.I 0)]),
                 (none, .store 1 (.t 5) (.t 13))])
              (.seq (.ops [(none, .loadN 14 6 (.t 1)),
                  (none, .load1 15 (.t 5)),
                  (none, .call (some 16) F.impl_Shadow_list [(.t 14), (.t 15)]),
                  (none, .len 17 (.t 16)),
                  (none, .mv 18 (.c (.I 0)))])
               (.block 2 (.loop (.seq (.ops [(none, .bin 19 .lss (.t 18) (.t 17))])
                  (.seq (.cond (.t 19) (.skip)
                    (.exit 2))
                   (.seq (.block 3 (.seq (.ops [(none, .mv 20 (.t 18)),
                         (none, .idxS 21 1 (.t 16) (.t 18)),
                         (none, .load1 22 (.t 21)),
                         (none, .alloc 6 [(.I 0)]),
                         (none, .store 1 (.t 6) (.t 20)),
                         (none, .mv 7 (.t 22))])
                      (.seq (.ops [(none, .mv 23 (.t 7)),
                          (none, .bin 24 .eql (.t 23) (.c (.I 1)))])
                       (.cond (.t 24) (.ops [(none, .mv 25 (.t 3)),
                           (none, .mv 26 (.t 4)),
                           (none, .loadN 27 6 (.t 1)),
                           (none, .call (some 28) F.impl_Shadow_box [(.t 27)]),
                           (none, .mkf 29 F.impl_Shadow_needs_1 [(.t 1), (.t 5), (.t 6)]),
                           (none, .call (some 30) F.impl_box_those [(.t 28), (.t 29)]),
                           (none, .bin 31 .and (.t 26) (.t 30)),
                           (none, .buildSl 32 1 1 [(.U 0)] [(0, 1, (.t 31))]),
                           (none, .append 33 1 8 (.t 25) (.t 32)),
                           (none, .mv 3 (.t 33))])
                        (.skip)))))
                    (.ops [(none, .bin 34 .add (.t 18) (.c (.I 1))),
                       (none, .mv 18 (.t 34))])))))))))
            (.ops [(none, .bin 35 .add (.t 11) (.c (.I 1))),
               (none, .mv 11 (.t 35))])))))))
      (.seq (.ops [(none, .mv 36 (.t 3)),
          (none, .mv 2 (.t 36))])
       (.ret))))⟩
def impl_Shadow_needs_1 : AFn :=
  ⟨4, 13, [.tmp 5],
    .seq (.ops [(none, .box 4 (.t 0)),
       (none, .mv 5 (.c (.B false)))])
    (.seq (.draw [⟨(none, .loadN 6 6 (.t 1)), [], []⟩,
        ⟨(none, .loadN 8 3 (.t 4)), [], []⟩,
        ⟨(none, .load1 9 (.t 2)), [], []⟩,
        ⟨(none, .load1 11 (.t 3)), [], []⟩,
        ⟨(none, .call (some 7) F.impl_Shadow_box [(.t 6)]), [], [1, 2, 3]⟩,
        ⟨(none, .call (some 10) F.impl_box_line [(.t 7), (.t 8), (.t 9)]), [], [3]⟩,
        ⟨(none, .bin 12 .eql (.t 10) (.t 11)), [], []⟩,
        ⟨(none, .mv 5 (.t 12)), [], []⟩])
     (.ret))⟩
def impl_Shadow_must : AFn :=
  ⟨1, 21, [.tmp 2],
    .seq (.ops [(none, .box 1 (.t 0)),
       (none, .mv 2 (.c (.U 0)))])
    (.seq (.ops [(none, .mv 3 (.c (.U 0)))])
     (.seq (.seq (.ops [(none, .loadN 6 6 (.t 1)),
          (none, .call (some 7) F.impl_Shadow_needs [(.t 6)]),
          (none, .len 8 (.t 7)),
          (none, .mv 9 (.c (.I 0)))])
       (.block 0 (.loop (.seq (.ops [(none, .bin 10 .lss (.t 9) (.t 8))])
          (.seq (.cond (.t 10) (.skip)
            (.exit 0))
           (.seq (.block 1 (.seq (.ops [(none, .idxS 11 1 (.t 7) (.t 9)),
                 (none, .load1 12 (.t 11)),
                 (none, .mv 5 (.t 12))])
              (.seq (.ops [(none, .mv 13 (.t 5)),
                  (none, .call (some 14) F.impl_set_count [(.t 13)]),
                  (none, .bin 15 .eql (.t 14) (.c (.I 1)))])
               (.cond (.t 15) (.ops [(none, .mv 16 (.t 3)),
                   (none, .mv 17 (.t 5)),
                   (none, .bin 18 .or (.t 16) (.t 17)),
                   (none, .mv 3 (.t 18))])
                (.skip)))))
            (.ops [(none, .bin 19 .add (.t 9) (.c (.I 1))),
               (none, .mv 9 (.t 19))])))))))
      (.seq (.ops [(none, .mv 20 (.t 3)),
          (none, .mv 2 (.t 20))])
       (.ret))))⟩
end Go.Ab.C

/- That the program has this code. -/
namespace Go.Ab.K
open Go Go.Ab
theorem impl_Shadow_needs : prepF Go.Proofs.Try.prog F.impl_Shadow_needs = some C.impl_Shadow_needs := by kernel_rfl
theorem impl_Shadow_needs_1 : prepF Go.Proofs.Try.prog F.impl_Shadow_needs_1 = some C.impl_Shadow_needs_1 := by kernel_rfl
theorem impl_Shadow_must : prepF Go.Proofs.Try.prog F.impl_Shadow_must = some C.impl_Shadow_must := by kernel_rfl
end Go.Ab.K

/- The abstract code of some functions (written by a program of mine from the translation, by way of prepF). -/
namespace Go.Ab.C
open Go.Ab
end Go.Ab.C

/- That the program has this code. -/
namespace Go.Ab.K
open Go Go.Ab
end Go.Ab.K

/- The abstract code of some functions (written by a program of mine from the translation, by way of prepF). -/
namespace Go.Ab.C
open Go.Ab
def impl_box_shadow : AFn :=
  ⟨2, 50, [.cellN 4 6],
    .seq (.ops [(none, .box 2 (.t 0)),
       (none, .alloc 4 [(.I 0), (.I 0), (.I 0), .nil, .nil, .nil])])
    (.seq (.ops [(none, .build 9 [.nil, .nil, .nil] []),
        (none, .alloc 5 [.nil, .nil, .nil]),
        (none, .store 3 (.t 5) (.t 9))])
     (.seq (.seq (.ops [(none, .mv 10 (.c (.I 0)))])
       (.block 0 (.loop (.seq (.ops [(none, .bin 11 .lss (.t 10) (.c (.I 3)))])
          (.seq (.cond (.t 11) (.skip)
            (.exit 0))
           (.seq (.block 1 (.seq (.ops [(none, .mv 12 (.t 10)),
                 (none, .mv 6 (.t 12))])
              (.seq (.ops [(none, .mv 13 (.t 6)),
                  (none, .loadN 14 3 (.t 2)),
                  (none, .mv 15 (.t 1)),
                  (none, .mv 16 (.t 6)),
                  (none, .call (some 17) F.impl_box_view [(.t 14), (.t 15), (.t 16)]),
                  (none, .idxA 18 3 1 (.t 5) (.t 13)),
                  (none, .store 1 (.t 18) (.t 17))])
               (.seq (.ops [(none, .mv 19 (.t 6)),
                   (none, .idxA 20 3 1 (.t 5) (.t 19)),
                   (none, .load1 21 (.t 20)),
                   (none, .len 22 (.t 21)),
                   (none, .mv 23 (.c (.I 0)))])
                (.block 2 (.loop (.seq (.ops [(none, .bin 24 .lss (.t 23) (.t 22))])
                   (.seq (.cond (.t 24) (.skip)
                     (.exit 2))
                    (.seq (.block 3 (.seq (.ops [(none, .mv 25 (.t 23)),
                          (none, .idxS 26 1 (.t 21) (.t 23)),
                          (none, .load1 27 (.t 26)),
                          (none, .mv 7 (.t 25)),
                          (none, .mv 8 (.t 27))])
                       (.ops [(none, .mv 28 (.t 6)),
                          (none, .idxA 29 3 1 (.t 5) (.t 28)),
                          (none, .load1 30 (.t 29)),
                          (none, .mv 31 (.t 7)),
                          (none, .mv 32 (.t 8)),
                          (none, .mm 33 false [(.t 32), (.c (.I 1))]),
                          (none, .idxS 34 1 (.t 30) (.t 31)),
                          (none, .store 1 (.t 34) (.t 33))])))
                     (.ops [(none, .bin 35 .add (.t 23) (.c (.I 1))),
                        (none, .mv 23 (.t 35))]))))))))))
            (.ops [(none, .bin 36 .add (.t 10) (.c (.I 1))),
               (none, .mv 10 (.t 36))])))))))
      (.seq (.ops [(none, .idxA 37 3 1 (.t 2) (.c (.I 0))),
          (none, .load1 38 (.t 37)),
          (none, .idxA 39 3 1 (.t 2) (.c (.I 1))),
          (none, .load1 40 (.t 39)),
          (none, .idxA 41 3 1 (.t 2) (.c (.I 2))),
          (none, .load1 42 (.t 41)),
          (none, .idxA 43 3 1 (.t 5) (.c (.I 2))),
          (none, .load1 44 (.t 43)),
          (none, .idxA 45 3 1 (.t 5) (.c (.I 1))),
          (none, .load1 46 (.t 45)),
          (none, .idxA 47 3 1 (.t 5) (.c (.I 0))),
          (none, .load1 48 (.t 47)),
          (none, .build 49 [(.I 0), (.I 0), (.I 0), .nil, .nil, .nil] [(0, 1, (.t 38)), (1, 1, (.t 40)), (2, 1, (.t 42)), (3, 1, (.t 44)), (4, 1, (.t 46)), (5, 1, (.t 48))]),
          (none, .store 6 (.t 4) (.t 49))])
       (.ret))))⟩
def impl_Shadow_same : AFn :=
  ⟨2, 31, [.tmp 4],
    .seq (.ops [(none, .box 2 (.t 0)),
       (none, .box 3 (.t 1)),
       (none, .mv 4 (.c (.B false)))])
    (.seq (.draw [⟨(none, .loadN 5 6 (.t 2)), [], []⟩,
        ⟨(none, .loadN 7 6 (.t 3)), [], []⟩,
        ⟨(none, .call (some 6) F.impl_Shadow_box [(.t 5)]), [], [1]⟩,
        ⟨(none, .call (some 8) F.impl_Shadow_box [(.t 7)]), [], []⟩,
        ⟨(none, .eqs 9 false 3 (.t 6) (.t 8)), [], []⟩,
        ⟨(none, .mv 10 (.t 9)), [], []⟩,
        ⟨(some (10, true), .fieldAddr 11 (.t 2) 3), [], []⟩,
        ⟨(some (10, true), .load1 12 (.t 11)), [], []⟩,
        ⟨(some (10, true), .fieldAddr 13 (.t 3) 3), [], []⟩,
        ⟨(some (10, true), .load1 14 (.t 13)), [], []⟩,
        ⟨(some (10, true), .call (some 15) F.slices_Equal_Sint_int [(.t 12), (.t 14)]), [], []⟩,
        ⟨(none, .pick 16 (.t 10) (.t 15) (.c (.B false))), [], []⟩,
        ⟨(none, .mv 17 (.t 16)), [], []⟩,
        ⟨(some (17, true), .fieldAddr 18 (.t 2) 4), [], []⟩,
        ⟨(some (17, true), .load1 19 (.t 18)), [], []⟩,
        ⟨(some (17, true), .fieldAddr 20 (.t 3) 4), [], []⟩,
        ⟨(some (17, true), .load1 21 (.t 20)), [], []⟩,
        ⟨(some (17, true), .call (some 22) F.slices_Equal_Sint_int [(.t 19), (.t 21)]), [], []⟩,
        ⟨(none, .pick 23 (.t 17) (.t 22) (.c (.B false))), [], []⟩,
        ⟨(none, .mv 24 (.t 23)), [], []⟩,
        ⟨(some (24, true), .fieldAddr 25 (.t 2) 5), [], []⟩,
        ⟨(some (24, true), .load1 26 (.t 25)), [], []⟩,
        ⟨(some (24, true), .fieldAddr 27 (.t 3) 5), [], []⟩,
        ⟨(some (24, true), .load1 28 (.t 27)), [], []⟩,
        ⟨(some (24, true), .call (some 29) F.slices_Equal_Sint_int [(.t 26), (.t 28)]), [], []⟩,
        ⟨(none, .pick 30 (.t 24) (.t 29) (.c (.B false))), [], []⟩,
        ⟨(none, .mv 4 (.t 30)), [], []⟩])
     (.ret))⟩
def impl_Shadow_isOf : AFn :=
  ⟨2, 11, [.tmp 4],
    .seq (.ops [(none, .box 2 (.t 0)),
       (none, .mv 4 (.c (.B false)))])
    (.seq (.draw [⟨(none, .loadN 5 6 (.t 2)), [], []⟩,
        ⟨(none, .loadN 6 6 (.t 2)), [], []⟩,
        ⟨(none, .mv 8 (.t 1)), [], []⟩,
        ⟨(none, .call (some 7) F.impl_Shadow_box [(.t 6)]), [], [0, 2]⟩,
        ⟨(none, .call (some 9) F.impl_box_shadow [(.t 7), (.t 8)]), [], [0]⟩,
        ⟨(none, .call (some 10) F.impl_Shadow_same [(.t 5), (.t 9)]), [], []⟩,
        ⟨(none, .mv 4 (.t 10)), [], []⟩])
     (.ret))⟩
def impl_Shadow_fits : AFn :=
  ⟨1, 7, [.tmp 2],
    .seq (.ops [(none, .box 1 (.t 0)),
       (none, .mv 2 (.c (.B false)))])
    (.seq (.draw [⟨(none, .loadN 3 6 (.t 1)), [], []⟩,
        ⟨(none, .loadN 4 6 (.t 1)), [], []⟩,
        ⟨(none, .call (some 5) F.impl_Shadow_allowed [(.t 4)]), [], [0]⟩,
        ⟨(none, .call (some 6) F.impl_Shadow_isOf [(.t 3), (.t 5)]), [], []⟩,
        ⟨(none, .mv 2 (.t 6)), [], []⟩])
     (.ret))⟩
def impl_isFitting : AFn :=
  ⟨1, 9, [.tmp 2],
    .seq (.ops [(none, .box 1 (.t 0)),
       (none, .mv 2 (.c (.B false)))])
    (.seq (.ops [(none, .loadN 3 6 (.t 1)),
        (none, .call (some 4) F.impl_IsShadow [(.t 3)]),
        (none, .mv 5 (.t 4)),
        (some (5, true), .loadN 6 6 (.t 1)),
        (some (5, true), .call (some 7) F.impl_Shadow_fits [(.t 6)]),
        (none, .pick 8 (.t 5) (.t 7) (.c (.B false))),
        (none, .mv 2 (.t 8))])
     (.ret))⟩
end Go.Ab.C

/- That the program has this code. -/
namespace Go.Ab.K
open Go Go.Ab
theorem impl_box_shadow : prepF Go.Proofs.Try.prog F.impl_box_shadow = some C.impl_box_shadow := by kernel_rfl
theorem impl_Shadow_same : prepF Go.Proofs.Try.prog F.impl_Shadow_same = some C.impl_Shadow_same := by kernel_rfl
theorem impl_Shadow_isOf : prepF Go.Proofs.Try.prog F.impl_Shadow_isOf = some C.impl_Shadow_isOf := by kernel_rfl
theorem impl_Shadow_fits : prepF Go.Proofs.Try.prog F.impl_Shadow_fits = some C.impl_Shadow_fits := by kernel_rfl
theorem impl_isFitting : prepF Go.Proofs.Try.prog F.impl_isFitting = some C.impl_isFitting := by kernel_rfl
end Go.Ab.K
