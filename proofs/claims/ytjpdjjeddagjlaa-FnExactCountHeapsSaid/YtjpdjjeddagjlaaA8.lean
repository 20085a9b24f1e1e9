/- Parts of the proof of FnExactCountHeapsSaid: C_Tb K_Tb Ge Ta Tb C_Od K_Od Nd Oc Od Tc Uh C_Td K_Td Td Ui Uj C_Uf K_Uf. -/
import Derived.Test.YtjpdjjeddagjlaaA3
import Derived.Test.YtjpdjjeddagjlaaA4
import Derived.Test.YtjpdjjeddagjlaaProg
import Derived.KernelRfl
import Derived.Test.YtjpdjjeddagjlaaA5
import Derived.Test.YtjpdjjeddagjlaaA6
import Derived.Test.YtjpdjjeddagjlaaA7
set_option linter.all false
/- The abstract code of some functions (written by a program of mine from the translation, by way of prepF). -/
namespace Go.Ab.C
open Go.Ab
def spec_l8Odd : AFn :=
  ⟨1, 26, [.tmp 2],
    .seq (.ops [(none, .box 1 (.t 0)),
       (none, .mv 2 (.c (.I 0)))])
    (.seq (.ops [(none, .mv 3 (.c (.I 0)))])
     (.seq (.seq (.ops [(none, .mv 4 (.c (.I 0)))])
       (.block 0 (.loop (.seq (.seq (.ops [(none, .mv 6 (.t 4)),
              (none, .bin 7 .lss (.t 6) (.c (.I 3)))])
           (.cond (.t 7) (.skip)
            (.exit 0)))
          (.seq (.block 1 (.seq (.ops [(none, .mv 5 (.c (.I 0)))])
             (.block 2 (.loop (.seq (.seq (.ops [(none, .mv 10 (.t 5)),
                    (none, .mv 11 (.t 4)),
                    (none, .bin 12 .lss (.t 10) (.t 11))])
                 (.cond (.t 12) (.skip)
                  (.exit 2)))
                (.seq (.block 3 (.seq (.draw [⟨(none, .mv 15 (.t 5)), [], []⟩,
                      ⟨(none, .idxA 16 3 1 (.t 1) (.t 15)), [], []⟩,
                      ⟨(none, .load1 17 (.t 16)), [], []⟩,
                      ⟨(none, .mv 18 (.t 4)), [], []⟩,
                      ⟨(none, .idxA 19 3 1 (.t 1) (.t 18)), [], []⟩,
                      ⟨(none, .load1 20 (.t 19)), [], []⟩,
                      ⟨(none, .bin 21 .gtr (.t 17) (.t 20)), [], []⟩])
                   (.cond (.t 21) (.ops [(none, .mv 22 (.t 3)),
                       (none, .bin 23 .add (.t 22) (.c (.I 1))),
                       (none, .mv 3 (.t 23))])
                    (.skip))))
                 (.ops [(none, .mv 13 (.t 5)),
                    (none, .bin 14 .add (.t 13) (.c (.I 1))),
                    (none, .mv 5 (.t 14))])))))))
           (.ops [(none, .mv 8 (.t 4)),
              (none, .bin 9 .add (.t 8) (.c (.I 1))),
              (none, .mv 4 (.t 9))]))))))
      (.seq (.ops [(none, .mv 24 (.t 3)),
          (none, .bin 25 .rem (.t 24) (.c (.I 2))),
          (none, .mv 2 (.t 25))])
       (.ret))))⟩
def spec_l8Turns : AFn :=
  ⟨0, 62, [.tmp 0],
    .seq (.ops [(none, .mv 0 (.c .nil))])
    (.seq (.ops [(none, .buildSl 6 0 6 [] []),
        (none, .mv 1 (.t 6))])
     (.seq (.seq (.ops [(none, .mv 2 (.c (.I 0)))])
       (.block 0 (.loop (.seq (.seq (.ops [(none, .mv 7 (.t 2)),
              (none, .bin 8 .lss (.t 7) (.c (.I 3)))])
           (.cond (.t 8) (.skip)
            (.exit 0)))
          (.seq (.block 1 (.seq (.ops [(none, .mv 3 (.c (.I 0)))])
             (.block 2 (.loop (.seq (.seq (.ops [(none, .mv 11 (.t 3)),
                    (none, .bin 12 .lss (.t 11) (.c (.I 3)))])
                 (.cond (.t 12) (.skip)
                  (.exit 2)))
                (.seq (.block 3 (.seq (.ops [(none, .mv 4 (.c (.I 0)))])
                   (.block 4 (.loop (.seq (.seq (.ops [(none, .mv 15 (.t 4)),
                          (none, .bin 16 .lss (.t 15) (.c (.I 8))),
                          (none, .mv 17 (.t 16)),
                          (some (17, true), .mv 18 (.t 2)),
                          (some (17, true), .mv 19 (.t 3)),
                          (some (17, true), .bin 20 .neq (.t 18) (.t 19)),
                          (none, .pick 21 (.t 17) (.t 20) (.c (.B false)))])
                       (.cond (.t 21) (.skip)
                        (.exit 4)))
                      (.seq (.block 5 (.seq (.ops [(none, .mv 24 (.t 2)),
                            (none, .mv 25 (.t 3)),
                            (none, .mv 26 (.t 2)),
                            (none, .bin 27 .sub (.c (.I 3)) (.t 26)),
                            (none, .mv 28 (.t 3)),
                            (none, .bin 29 .sub (.t 27) (.t 28)),
                            (none, .build 30 [(.I 0), (.I 0), (.I 0)] [(0, 1, (.t 24)), (1, 1, (.t 25)), (2, 1, (.t 29))]),
                            (none, .mv 31 (.t 4)),
                            (none, .bin 32 .shr (.t 31) (.c (.U 2))),
                            (none, .bin 33 .and (.t 32) (.c (.I 1))),
                            (none, .mv 34 (.t 4)),
                            (none, .bin 35 .shr (.t 34) (.c (.U 1))),
                            (none, .bin 36 .and (.t 35) (.c (.I 1))),
                            (none, .mv 37 (.t 4)),
                            (none, .bin 38 .and (.t 37) (.c (.I 1))),
                            (none, .build 39 [(.I 0), (.I 0), (.I 0)] [(0, 1, (.t 33)), (1, 1, (.t 36)), (2, 1, (.t 38))]),
                            (none, .build 40 [(.I 0), (.I 0), (.I 0), (.I 0), (.I 0), (.I 0)] [(0, 3, (.t 30)), (3, 3, (.t 39))]),
                            (none, .alloc 5 [(.I 0), (.I 0), (.I 0), (.I 0), (.I 0), (.I 0)]),
                            (none, .store 6 (.t 5) (.t 40))])
                         (.seq (.draw [⟨(none, .fieldAddr 41 (.t 5) 0), [], []⟩,
                             ⟨(none, .loadN 42 3 (.t 41)), [], []⟩,
                             ⟨(none, .fieldAddr 44 (.t 5) 3), [], []⟩,
                             ⟨(none, .idxA 45 3 1 (.t 44) (.c (.I 0))), [], []⟩,
                             ⟨(none, .load1 46 (.t 45)), [], []⟩,
                             ⟨(none, .fieldAddr 47 (.t 5) 3), [], []⟩,
                             ⟨(none, .idxA 48 3 1 (.t 47) (.c (.I 1))), [], []⟩,
                             ⟨(none, .load1 49 (.t 48)), [], []⟩,
                             ⟨(none, .bin 50 .add (.t 46) (.t 49)), [], []⟩,
                             ⟨(none, .fieldAddr 51 (.t 5) 3), [], []⟩,
                             ⟨(none, .idxA 52 3 1 (.t 51) (.c (.I 2))), [], []⟩,
                             ⟨(none, .load1 53 (.t 52)), [], []⟩,
                             ⟨(none, .bin 54 .add (.t 50) (.t 53)), [], []⟩,
                             ⟨(none, .bin 55 .rem (.t 54) (.c (.I 2))), [], []⟩,
                             ⟨(none, .call (some 43) F.spec_l8Odd [(.t 42)]), [], [2, 3, 4, 5, 6, 7, 8, 9, 10, 11, 12, 13]⟩,
                             ⟨(none, .bin 56 .eql (.t 43) (.t 55)), [], []⟩])
                          (.cond (.t 56) (.ops [(none, .mv 57 (.t 1)),
                              (none, .loadN 58 6 (.t 5)),
                              (none, .buildSl 59 1 6 [(.I 0), (.I 0), (.I 0), (.I 0), (.I 0), (.I 0)] [(0, 6, (.t 58))]),
                              (none, .append 60 6 48 (.t 57) (.t 59)),
                              (none, .mv 1 (.t 60))])
                           (.skip)))))
                       (.ops [(none, .mv 22 (.t 4)),
                          (none, .bin 23 .add (.t 22) (.c (.I 1))),
                          (none, .mv 4 (.t 23))])))))))
                 (.ops [(none, .mv 13 (.t 3)),
                    (none, .bin 14 .add (.t 13) (.c (.I 1))),
                    (none, .mv 3 (.t 14))])))))))
           (.ops [(none, .mv 9 (.t 2)),
              (none, .bin 10 .add (.t 9) (.c (.I 1))),
              (none, .mv 2 (.t 10))]))))))
      (.seq (.ops [(none, .mv 61 (.t 1)),
          (none, .mv 0 (.t 61))])
       (.ret))))⟩
def spec_l2Long : AFn :=
  ⟨2, 14, [.tmp 4],
    .seq (.ops [(none, .box 2 (.t 0)),
       (none, .mv 4 (.c (.I 0)))])
    (.seq (.ops [(none, .fieldAddr 5 (.t 2) 0),
        (none, .load1 6 (.t 5)),
        (none, .fieldAddr 7 (.t 2) 1),
        (none, .load1 8 (.t 7)),
        (none, .fieldAddr 9 (.t 2) 2),
        (none, .load1 10 (.t 9)),
        (none, .build 11 [(.I 0), (.I 0), (.I 0)] [(0, 1, (.t 6)), (1, 1, (.t 8)), (2, 1, (.t 10))]),
        (none, .mv 12 (.t 1)),
        (none, .index 13 3 1 false (.t 11) (.t 12)),
        (none, .mv 4 (.t 13))])
     (.ret))⟩
end Go.Ab.C

/- That the program has this code. -/
namespace Go.Ab.K
open Go Go.Ab
theorem spec_l8Odd : prepF Go.Proofs.Try.prog F.spec_l8Odd = some C.spec_l8Odd := by kernel_rfl
theorem spec_l8Turns : prepF Go.Proofs.Try.prog F.spec_l8Turns = some C.spec_l8Turns := by kernel_rfl
theorem spec_l2Long : prepF Go.Proofs.Try.prog F.spec_l2Long = some C.spec_l2Long := by kernel_rfl
end Go.Ab.K

/- What laws are told of heaps as results. -/
namespace Go.Ab
open Go

structure Hp where
  x : Int
  y : Int
  z : Int
  cs : List Cell
def Hp.none : Hp := ⟨0, 0, 0, []⟩
abbrev Hp.row (r : Hp) (w : LV) : Blk := .row [.I r.x, .I r.y, .I r.z, w] true 0
/-- A heap, or the one of all zeros, what else there is, and whether there is one. -/
def HeapRes (M : Mem) (r : Option Hp) (ext : List LV) (v : LV) (N : Mem) : Prop :=
  ∃ w, v = .tup (.agg [.I (r.getD Hp.none).x, .I (r.getD Hp.none).y, .I (r.getD Hp.none).z, w] :: (ext ++ [.B r.isSome])) ∧ SlC N w (r.getD Hp.none).cs ∧ Newer M w ∧ Pre M N
theorem Older.off {M : Mem} {v : LV} {u : Nat} (h : Older M v) (hu : M.length ≤ u) : Off v u := by
  cases v with
  | ref t o n => have := h t o n rfl; show u ≠ t; omega
  | _ => trivial
end Go.Ab

/- Plain words: the 24 turns of a box. -/
namespace Go.Ab
open Go

def Cell.at (c : Cell) (d : Int) : Int := if d = 0 then c.a else if d = 1 then c.b else c.c
def Dir (d : Int) : Prop := d = 0 ∨ d = 1 ∨ d = 2
/-- How many pairs are out of order, modulo 2. -/
def oddOf (c : Cell) : Int := ((if c.a > c.b then 1 else 0) + (if c.a > c.c then 1 else 0) + (if c.b > c.c then 1 else 0)) % 2
structure Turn where
  fr : Cell
  fl : Cell
deriving DecidableEq
def Turn.row (t : Turn) : List LV := t.fr.row ++ t.fl.row
def sixL (l : List Turn) : List LV := l.flatMap Turn.row
/-- The turn that the n-th attempt finds. -/
def turnAt (n : Nat) : Option Turn :=
  if n / 24 ≠ n / 8 % 3 ∧ oddOf ⟨n / 24, n / 8 % 3, 3 - n / 24 - n / 8 % 3⟩ = (n % 8 / 4 + n % 8 / 2 % 2 + n % 8 % 2) % 2 then
    some ⟨⟨n / 24, n / 8 % 3, 3 - n / 24 - n / 8 % 3⟩, ⟨n % 8 / 4, n % 8 / 2 % 2, n % 8 % 2⟩⟩ else none
def turnsU (n : Nat) : List Turn := (List.range n).filterMap turnAt
theorem turnsU_succ {n : Nat} : turnsU (n + 1) = turnsU n ++ (turnAt n).toList := by
  unfold turnsU
  rw [List.range_succ, List.filterMap_append]
  cases h : turnAt n <;> simp [h]
def turns : List Turn := turnsU 72
theorem turns_len : turns.length = 24 := by decide +kernel
theorem turnsU_skip {a : Nat} (h : a < 3) : turnsU ((a * 3 + a) * 8) = turnsU ((a * 3 + (a + 1)) * 8) := by
  rcases (show a = 0 ∨ a = 1 ∨ a = 2 by omega) with rfl | rfl | rfl <;> decide +kernel
theorem turnsU_len {n : Nat} : (turnsU n).length ≤ n := by
  unfold turnsU
  have := List.length_filterMap_le turnAt (List.range n)
  simpa using this
theorem sixL_append (l m : List Turn) : sixL (l ++ m) = sixL l ++ sixL m := by simp [sixL]
theorem sixL_len (l : List Turn) : (sixL l).length = l.length * 6 := by
  induction l with
  | nil => rfl
  | cons t l ih => rw [show sixL (t :: l) = t.row ++ sixL l from rfl, List.length_append, ih, List.length_cons]; simp [Turn.row, Cell.row]; omega
theorem sixL_at {l : List Turn} : ∀ {k : Nat}, (hk : k < l.length) → ((sixL l).drop (k * 6)).take 6 = l[k].row := by
  induction l with
  | nil => intro k hk; simp at hk
  | cons t l ih =>
    intro k hk
    have e : sixL (t :: l) = t.row ++ sixL l := rfl
    have hr : t.row.length = 6 := rfl
    cases k with
    | zero => rw [e, Nat.zero_mul, List.drop_zero, List.take_append_of_le_length (by omega), List.take_of_length_le (by omega)]; rfl
    | succ k =>
      rw [e, List.drop_append, List.drop_eq_nil_of_le (by omega), List.nil_append, hr, show (k + 1) * 6 - 6 = k * 6 by omega, ih (by simpa using hk)]
      rfl

def sideOf (x y z d : Int) : Int := if d = 0 then x else if d = 1 then y else z
/-- A coordinate of a cell behind a turn: taken from direction s, mirrored or not. -/
def turnC (x y z : Int) (c : Cell) (s f : Int) : Int := if f = 1 then sideOf x y z s - 1 - c.at s else c.at s
def mapT (x y z : Int) (t : Turn) (c : Cell) : Cell := ⟨turnC x y z c t.fr.a t.fl.a, turnC x y z c t.fr.b t.fl.b, turnC x y z c t.fr.c t.fl.c⟩
/-- The three directions, in any order. -/
def OkT (t : Turn) : Prop := Dir t.fr.a ∧ Dir t.fr.b ∧ Dir t.fr.c
instance (d : Int) : Decidable (Dir d) := by unfold Dir; exact inferInstance
instance (t : Turn) : Decidable (OkT t) := by unfold OkT; exact inferInstance
theorem turns_ok : ∀ t ∈ turns, OkT t := by decide +kernel
def turnHp (x y z : Int) (t : Turn) (cs : List Cell) : Hp := ⟨sideOf x y z t.fr.a, sideOf x y z t.fr.b, sideOf x y z t.fr.c, pick (sideOf x y z t.fr.a) (sideOf x y z t.fr.b) (sideOf x y z t.fr.c) fun d => decide (d ∈ cs.map (mapT x y z t))⟩
section
variable {x y z : Int}
theorem sideOf_in (hS : Sides x y z) (d : Int) : 1 ≤ sideOf x y z d ∧ sideOf x y z d ≤ 4 := by
  obtain ⟨hx, hy, hz⟩ := hS
  unfold sideOf; split <;> (try split) <;> omega
theorem at_in {c : Cell} (hc : c.inBox x y z) (d : Int) : 0 ≤ c.at d ∧ c.at d < sideOf x y z d := by
  obtain ⟨⟨_, _⟩, ⟨_, _⟩, ⟨_, _⟩⟩ := hc
  unfold Cell.at sideOf; split <;> (try split) <;> omega
theorem turnC_in {c : Cell} (hc : c.inBox x y z) (s f : Int) : 0 ≤ turnC x y z c s f ∧ turnC x y z c s f ≤ sideOf x y z s - 1 := by
  have := at_in hc s
  unfold turnC; split <;> omega
theorem mapT_in {c : Cell} (hc : c.inBox x y z) (t : Turn) : (mapT x y z t c).inBox (sideOf x y z t.fr.a) (sideOf x y z t.fr.b) (sideOf x y z t.fr.c) := ⟨turnC_in hc _ _, turnC_in hc _ _, turnC_in hc _ _⟩
theorem turnSides (hS : Sides x y z) (t : Turn) : Sides (sideOf x y z t.fr.a) (sideOf x y z t.fr.b) (sideOf x y z t.fr.c) := ⟨sideOf_in hS _, sideOf_in hS _, sideOf_in hS _⟩
end
end Go.Ab

/- Contracts: the reference's turns. -/
namespace Go.Ab
open Go
set_option linter.unusedSimpArgs false
set_option linter.unusedVariables false

theorem h_l2Long {x y z d : Int} {v : LV} {M : Mem} (hd : Dir d) : CallsTo PG F.spec_l2Long [.agg [.I x, .I y, .I z, v], .I d] M (.I (sideOf x y z d)) M := by
  refine calls_run K.spec_l2Long rfl ?_
  rcases hd with rfl | rfl | rfl
  all_goals
    simp (disch := omega) only [C.spec_l2Long, splice, ↓SXd, SXu, slBounds, ↓sop, ↓aop, ↓reduceIte, LV.cells, AOp.dst, LV.I, LV.B, LV.U, LV.S, LV.nil, Nat.reduceEqDiff, Nat.reduceAdd, Nat.reduceMul, Nat.reduceSub, Nat.reduceLeDiff, Nat.reduceBEq, Nat.reduceDiv, Nat.reduceMod, Int.reduceToNat, Int.reduceLT, Int.reduceLE, Int.reduceAdd, Int.reduceSub, Int.reduceMul, Int.reduceEq, Int.reduceNeg, reduceCtorEq, resV, resAll, ARes.ev, LV.flat, ite_true, ite_false, exists_eq_left', exists_eq_left, keyOf, implies_true, fillC, capOf]
    exact cmp_drop rfl

/-- How many pairs are out of order whose greater place is before i, or i with the other one before k. -/
def oddK (c : Cell) (i k : Nat) : Int := (if (1 < i ∨ (i = 1 ∧ 0 < k)) ∧ c.a > c.b then 1 else 0) + (if (2 < i ∨ (i = 2 ∧ 0 < k)) ∧ c.a > c.c then 1 else 0) + (if (2 < i ∨ (i = 2 ∧ 1 < k)) ∧ c.b > c.c then 1 else 0)
theorem oddK_le {c : Cell} {i k : Nat} : 0 ≤ oddK c i k ∧ oddK c i k ≤ 3 := by
  have : ∀ (p : Prop) [Decidable p], 0 ≤ (if p then (1 : Int) else 0) ∧ (if p then (1 : Int) else 0) ≤ 1 := fun p _ => by split <;> omega
  have h1 := this ((1 < i ∨ (i = 1 ∧ 0 < k)) ∧ c.a > c.b)
  have h2 := this ((2 < i ∨ (i = 2 ∧ 0 < k)) ∧ c.a > c.c)
  have h3 := this ((2 < i ∨ (i = 2 ∧ 1 < k)) ∧ c.b > c.c)
  unfold oddK
  omega
theorem Cell.row_at {c : Cell} {j : Nat} (hj : j < 3) : c.row[j]? = some (.I (c.at j)) := by
  rcases (show j = 0 ∨ j = 1 ∨ j = 2 by omega) with rfl | rfl | rfl <;> rfl
theorem h_l8Odd {c : Cell} {M : Mem} : CallsTo PG F.spec_l8Odd [.agg [.I c.a, .I c.b, .I c.c]] M (.I (oddOf c)) M := by
  refine calls_run K.spec_l8Odd rfl ?_
  simp (disch := omega) only [C.spec_l8Odd, ↓SXd, SXu, slBounds, ↓sop, ↓aop, ↓reduceIte, LV.cells, AOp.dst, LV.I, LV.B, LV.U, LV.S, LV.nil, Nat.reduceEqDiff, Nat.reduceAdd, Nat.reduceMul, Nat.reduceSub, Nat.reduceLeDiff, Nat.reduceBEq, Nat.reduceDiv, Nat.reduceMod, Int.reduceToNat, Int.reduceLT, Int.reduceLE, Int.reduceAdd, Int.reduceSub, Int.reduceMul, Int.reduceEq, Int.reduceNeg, reduceCtorEq, resV, resAll, ARes.ev, LV.flat, ite_true, ite_false, exists_eq_left', exists_eq_left, keyOf, implies_true, fillC, capOf]
  refine ev_loop (fun m fr M' => ∃ i : Nat, i + m = 3 ∧ M' = M ++ [some (.row c.row true 0)] ∧ fr 1 = .ptr M.length 0 ∧ fr 3 = .I (oddK c i 0) ∧ fr 4 = .I i) 3 ⟨0, rfl, rfl, rfl, rfl, rfl⟩ ?_
  rintro m fr M' ⟨i, hi, rfl, f1, f3, f4⟩
  simp (disch := omega) only [f1, f3, f4, ↓SXd, SXu, slBounds, ↓sop, ↓aop, ↓reduceIte, LV.cells, AOp.dst, LV.I, LV.B, LV.U, LV.S, LV.nil, Nat.reduceEqDiff, Nat.reduceAdd, Nat.reduceMul, Nat.reduceSub, Nat.reduceLeDiff, Nat.reduceBEq, Nat.reduceDiv, Nat.reduceMod, Int.reduceToNat, Int.reduceLT, Int.reduceLE, Int.reduceAdd, Int.reduceSub, Int.reduceMul, Int.reduceEq, Int.reduceNeg, reduceCtorEq, resV, resAll, ARes.ev, LV.flat, ite_true, ite_false, exists_eq_left', exists_eq_left, keyOf, implies_true, fillC, capOf]
  refine condC_dec (fun hlt => ?_) (fun hlt => ?_)
  · simp (disch := omega) only [f1, f3, f4, ↓SXd, SXu, slBounds, ↓sop, ↓aop, ↓reduceIte, LV.cells, AOp.dst, LV.I, LV.B, LV.U, LV.S, LV.nil, Nat.reduceEqDiff, Nat.reduceAdd, Nat.reduceMul, Nat.reduceSub, Nat.reduceLeDiff, Nat.reduceBEq, Nat.reduceDiv, Nat.reduceMod, Int.reduceToNat, Int.reduceLT, Int.reduceLE, Int.reduceAdd, Int.reduceSub, Int.reduceMul, Int.reduceEq, Int.reduceNeg, reduceCtorEq, resV, resAll, ARes.ev, LV.flat, ite_true, ite_false, exists_eq_left', exists_eq_left, keyOf, implies_true, fillC, capOf]
    refine ev_loop (fun m2 fr M' => ∃ k : Nat, k + m2 = i ∧ M' = M ++ [some (.row c.row true 0)] ∧ fr 1 = .ptr M.length 0 ∧ fr 3 = .I (oddK c i k) ∧ fr 4 = .I i ∧ fr 5 = .I k) i ⟨0, by omega, rfl, f1, f3, f4, rfl⟩ ?_
    clear f1 f3 f4
    rintro m2 fr M' ⟨k, hk, rfl, f1, f3, f4, f5⟩
    simp (disch := omega) only [f1, f3, f4, f5, ↓SXd, SXu, slBounds, ↓sop, ↓aop, ↓reduceIte, LV.cells, AOp.dst, LV.I, LV.B, LV.U, LV.S, LV.nil, Nat.reduceEqDiff, Nat.reduceAdd, Nat.reduceMul, Nat.reduceSub, Nat.reduceLeDiff, Nat.reduceBEq, Nat.reduceDiv, Nat.reduceMod, Int.reduceToNat, Int.reduceLT, Int.reduceLE, Int.reduceAdd, Int.reduceSub, Int.reduceMul, Int.reduceEq, Int.reduceNeg, reduceCtorEq, resV, resAll, ARes.ev, LV.flat, ite_true, ite_false, exists_eq_left', exists_eq_left, keyOf, implies_true, fillC, capOf]
    refine condC_dec (fun hlt2 => ?_) (fun hlt2 => ?_)
    · obtain ⟨hb1, hb2⟩ := oddK_le (c := c) (i := i) (k := k)
      have e1 := (Live.new (M := M) (L := []) (b := .row c.row true 0)).cell (o := k)
      have e2 := (Live.new (M := M) (L := []) (b := .row c.row true 0)).cell (o := i)
      rw [Cell.row_at (by omega)] at e1 e2
      simp (disch := omega) only [f1, f3, f4, f5, e1, e2, Nat.mul_one, ↓SXd, SXu, slBounds, ↓sop, ↓aop, ↓reduceIte, LV.cells, AOp.dst, LV.I, LV.B, LV.U, LV.S, LV.nil, Nat.reduceEqDiff, Nat.reduceAdd, Nat.reduceMul, Nat.reduceSub, Nat.reduceLeDiff, Nat.reduceBEq, Nat.reduceDiv, Nat.reduceMod, Int.reduceToNat, Int.reduceLT, Int.reduceLE, Int.reduceAdd, Int.reduceSub, Int.reduceMul, Int.reduceEq, Int.reduceNeg, reduceCtorEq, resV, resAll, ARes.ev, LV.flat, ite_true, ite_false, exists_eq_left', exists_eq_left, keyOf, implies_true, fillC, capOf]
      have hik : (i = 1 ∧ k = 0) ∨ (i = 2 ∧ k = 0) ∨ (i = 2 ∧ k = 1) := by omega
      refine condC_dec (fun hgt => ?_) (fun hgt => ?_)
      · simp (disch := omega) only [f1, f3, f4, f5, ↓SXd, SXu, slBounds, ↓sop, ↓aop, ↓reduceIte, LV.cells, AOp.dst, LV.I, LV.B, LV.U, LV.S, LV.nil, Nat.reduceEqDiff, Nat.reduceAdd, Nat.reduceMul, Nat.reduceSub, Nat.reduceLeDiff, Nat.reduceBEq, Nat.reduceDiv, Nat.reduceMod, Int.reduceToNat, Int.reduceLT, Int.reduceLE, Int.reduceAdd, Int.reduceSub, Int.reduceMul, Int.reduceEq, Int.reduceNeg, reduceCtorEq, resV, resAll, ARes.ev, LV.flat, ite_true, ite_false, exists_eq_left', exists_eq_left, keyOf, implies_true, fillC, capOf]
        refine ⟨m2 - 1, by omega, k + 1, by omega, rfl, f1, eqI ?_, f4, eqI (natI _)⟩
        rcases hik with ⟨rfl, rfl⟩ | ⟨rfl, rfl⟩ | ⟨rfl, rfl⟩ <;> simp [oddK, Cell.at] at hgt ⊢ <;> simp [hgt] <;> omega
      · simp (disch := omega) only [f1, f3, f4, f5, ↓SXd, SXu, slBounds, ↓sop, ↓aop, ↓reduceIte, LV.cells, AOp.dst, LV.I, LV.B, LV.U, LV.S, LV.nil, Nat.reduceEqDiff, Nat.reduceAdd, Nat.reduceMul, Nat.reduceSub, Nat.reduceLeDiff, Nat.reduceBEq, Nat.reduceDiv, Nat.reduceMod, Int.reduceToNat, Int.reduceLT, Int.reduceLE, Int.reduceAdd, Int.reduceSub, Int.reduceMul, Int.reduceEq, Int.reduceNeg, reduceCtorEq, resV, resAll, ARes.ev, LV.flat, ite_true, ite_false, exists_eq_left', exists_eq_left, keyOf, implies_true, fillC, capOf]
        refine ⟨m2 - 1, by omega, k + 1, by omega, rfl, f1, f3.trans (eqI ?_), f4, eqI (natI _)⟩
        rcases hik with ⟨rfl, rfl⟩ | ⟨rfl, rfl⟩ | ⟨rfl, rfl⟩ <;> simp [oddK, Cell.at] at hgt ⊢ <;> omega
    · simp (disch := omega) only [f1, f3, f4, f5, ↓SXd, SXu, slBounds, ↓sop, ↓aop, ↓reduceIte, LV.cells, AOp.dst, LV.I, LV.B, LV.U, LV.S, LV.nil, Nat.reduceEqDiff, Nat.reduceAdd, Nat.reduceMul, Nat.reduceSub, Nat.reduceLeDiff, Nat.reduceBEq, Nat.reduceDiv, Nat.reduceMod, Int.reduceToNat, Int.reduceLT, Int.reduceLE, Int.reduceAdd, Int.reduceSub, Int.reduceMul, Int.reduceEq, Int.reduceNeg, reduceCtorEq, resV, resAll, ARes.ev, LV.flat, ite_true, ite_false, exists_eq_left', exists_eq_left, keyOf, implies_true, fillC, capOf]
      have : k = i := by omega
      subst this
      refine ⟨m - 1, by omega, k + 1, by omega, rfl, f1, f3.trans (eqI ?_), eqI (natI _)⟩
      rcases (show k = 0 ∨ k = 1 ∨ k = 2 by omega) with rfl | rfl | rfl <;> simp [oddK]
  · simp (disch := omega) only [f1, f3, f4, ↓SXd, SXu, slBounds, ↓sop, ↓aop, ↓reduceIte, LV.cells, AOp.dst, LV.I, LV.B, LV.U, LV.S, LV.nil, Nat.reduceEqDiff, Nat.reduceAdd, Nat.reduceMul, Nat.reduceSub, Nat.reduceLeDiff, Nat.reduceBEq, Nat.reduceDiv, Nat.reduceMod, Int.reduceToNat, Int.reduceLT, Int.reduceLE, Int.reduceAdd, Int.reduceSub, Int.reduceMul, Int.reduceEq, Int.reduceNeg, reduceCtorEq, resV, resAll, ARes.ev, LV.flat, ite_true, ite_false, exists_eq_left', exists_eq_left, keyOf, implies_true, fillC, capOf]
    have : i = 3 := by omega
    subst this
    have hod : (oddK c 3 0).tmod 2 = oddOf c := by
      obtain ⟨hb1, hb2⟩ := oddK_le (c := c) (i := 3) (k := 0)
      rw [Int.tmod_eq_emod_of_nonneg hb1]
      simp [oddK, oddOf]
    obtain ⟨hb1, hb2⟩ := oddK_le (c := c) (i := 3) (k := 0)
    rw [hod]
    exact cmp_drop rfl

theorem sh_and {f : Nat} (hf : f < 8) : IntKind.i64.wrap (((BitVec.ofInt 64 ((f : Int).fdiv (2 ^ min 2 64)) &&& BitVec.ofInt 64 1).toNat : Nat) : Int) = ((f / 4 : Nat) : Int) ∧ IntKind.i64.wrap (((BitVec.ofInt 64 ((f : Int).fdiv (2 ^ min 1 64)) &&& BitVec.ofInt 64 1).toNat : Nat) : Int) = ((f / 2 % 2 : Nat) : Int) ∧
    IntKind.i64.wrap (((BitVec.ofInt 64 (f : Int) &&& BitVec.ofInt 64 1).toNat : Nat) : Int) = ((f % 2 : Nat) : Int) := by
  rcases (show f = 0 ∨ f = 1 ∨ f = 2 ∨ f = 3 ∨ f = 4 ∨ f = 5 ∨ f = 6 ∨ f = 7 by omega) with rfl | rfl | rfl | rfl | rfl | rfl | rfl | rfl <;> decide +kernel

theorem turnAt_at {a b f : Nat} (hb : b < 3) (hf : f < 8) : turnAt ((a * 3 + b) * 8 + f) = if a ≠ b ∧ oddOf ⟨a, b, 3 - a - b⟩ = (((f / 4 : Nat) : Int) + ((f / 2 % 2 : Nat) : Int) + ((f % 2 : Nat) : Int)) % 2 then
    some ⟨⟨a, b, 3 - a - b⟩, ⟨((f / 4 : Nat) : Int), ((f / 2 % 2 : Nat) : Int), ((f % 2 : Nat) : Int)⟩⟩ else none := by
  have e1 : ((a * 3 + b) * 8 + f) / 24 = a := by omega
  have e2 : ((a * 3 + b) * 8 + f) / 8 % 3 = b := by omega
  have e3 : ((a * 3 + b) * 8 + f) % 8 = f := by omega
  generalize (a * 3 + b) * 8 + f = n at e1 e2 e3
  have c1 : (n : Int) / 24 = a := by omega
  have c2 : (n : Int) / 8 % 3 = b := by omega
  have c3 : (n : Int) % 8 = f := by omega
  have d1 : (f : Int) / 4 = ((f / 4 : Nat) : Int) := by omega
  have d2 : (f : Int) / 2 % 2 = ((f / 2 % 2 : Nat) : Int) := by omega
  have d3 : (f : Int) % 2 = ((f % 2 : Nat) : Int) := by omega
  unfold turnAt
  simp only [e1, e2, e3, c1, c2, c3, d1, d2, d3]
theorem sixL_lo {n : Nat} (l : List Turn) : (sixL l).all (LV.lo1 n) = true := by
  rw [List.all_eq_true]
  intro v hv
  obtain ⟨t, _, ht⟩ := List.mem_flatMap.1 hv
  simp only [Turn.row, Cell.row, List.cons_append, List.nil_append, List.mem_cons, List.not_mem_nil, or_false] at ht
  rcases ht with rfl | rfl | rfl | rfl | rfl | rfl <;> rfl
theorem h_l8Turns {M : Mem} : CallsTo PG F.spec_l8Turns [] M (.ref M.length 0 turns.length) (M ++ [some (.row (sixL turns) true 6)]) := by
  refine calls_run K.spec_l8Turns rfl ?_
  simp (disch := omega) only [C.spec_l8Turns, ↓SXd, SXu, slBounds, ↓sop, ↓aop, ↓reduceIte, LV.cells, AOp.dst, LV.I, LV.B, LV.U, LV.S, LV.nil, Nat.reduceEqDiff, Nat.reduceAdd, Nat.reduceMul, Nat.reduceSub, Nat.reduceLeDiff, Nat.reduceBEq, Nat.reduceDiv, Nat.reduceMod, Int.reduceToNat, Int.reduceLT, Int.reduceLE, Int.reduceAdd, Int.reduceSub, Int.reduceMul, Int.reduceEq, Int.reduceNeg, reduceCtorEq, resV, resAll, ARes.ev, LV.flat, ite_true, ite_false, exists_eq_left', exists_eq_left, keyOf, implies_true, fillC, capOf]
  refine ev_loop (fun m fr M' => ∃ a u : Nat, a + m = 3 ∧ Pre M M' ∧ M.length ≤ u ∧ Live M' u (.row (sixL (turnsU (a * 3 * 8))) true 6) ∧ fr 1 = .ref u 0 (turnsU (a * 3 * 8)).length ∧ fr 2 = .I a) 3
    ⟨0, M.length, rfl, Pre.app _ _, by omega, Live.new, rfl, rfl⟩ ?_
  rintro m fr M' ⟨a, u, ha, hpre, hu, hout, f1, f2⟩
  simp (disch := omega) only [f1, f2, ↓SXd, SXu, slBounds, ↓sop, ↓aop, ↓reduceIte, LV.cells, AOp.dst, LV.I, LV.B, LV.U, LV.S, LV.nil, Nat.reduceEqDiff, Nat.reduceAdd, Nat.reduceMul, Nat.reduceSub, Nat.reduceLeDiff, Nat.reduceBEq, Nat.reduceDiv, Nat.reduceMod, Int.reduceToNat, Int.reduceLT, Int.reduceLE, Int.reduceAdd, Int.reduceSub, Int.reduceMul, Int.reduceEq, Int.reduceNeg, reduceCtorEq, resV, resAll, ARes.ev, LV.flat, ite_true, ite_false, exists_eq_left', exists_eq_left, keyOf, implies_true, fillC, capOf]
  refine condC_dec (fun hlt => ?_) (fun hlt => ?_)
  rotate_left
  · simp (disch := omega) only [f1, f2, ↓SXd, SXu, slBounds, ↓sop, ↓aop, ↓reduceIte, LV.cells, AOp.dst, LV.I, LV.B, LV.U, LV.S, LV.nil, Nat.reduceEqDiff, Nat.reduceAdd, Nat.reduceMul, Nat.reduceSub, Nat.reduceLeDiff, Nat.reduceBEq, Nat.reduceDiv, Nat.reduceMod, Int.reduceToNat, Int.reduceLT, Int.reduceLE, Int.reduceAdd, Int.reduceSub, Int.reduceMul, Int.reduceEq, Int.reduceNeg, reduceCtorEq, resV, resAll, ARes.ev, LV.flat, ite_true, ite_false, exists_eq_left', exists_eq_left, keyOf, implies_true, fillC, capOf]
    have : a = 3 := by omega
    subst this
    exact cmp_keepL hpre hu hout (sixL_lo _) (by simp [rn, rn0, rn1, turns])
  · simp (disch := omega) only [f1, f2, ↓SXd, SXu, slBounds, ↓sop, ↓aop, ↓reduceIte, LV.cells, AOp.dst, LV.I, LV.B, LV.U, LV.S, LV.nil, Nat.reduceEqDiff, Nat.reduceAdd, Nat.reduceMul, Nat.reduceSub, Nat.reduceLeDiff, Nat.reduceBEq, Nat.reduceDiv, Nat.reduceMod, Int.reduceToNat, Int.reduceLT, Int.reduceLE, Int.reduceAdd, Int.reduceSub, Int.reduceMul, Int.reduceEq, Int.reduceNeg, reduceCtorEq, resV, resAll, ARes.ev, LV.flat, ite_true, ite_false, exists_eq_left', exists_eq_left, keyOf, implies_true, fillC, capOf]
    refine ev_loop (fun m2 fr M' => ∃ b u : Nat, b + m2 = 3 ∧ Pre M M' ∧ M.length ≤ u ∧ Live M' u (.row (sixL (turnsU ((a * 3 + b) * 8))) true 6) ∧ fr 1 = .ref u 0 (turnsU ((a * 3 + b) * 8)).length ∧ fr 2 = .I a ∧ fr 3 = .I b) 3
      ⟨0, u, rfl, hpre, hu, hout, f1, f2, rfl⟩ ?_
    clear f1 f2 hpre hu hout
    rintro m2 fr M' ⟨b, u, hb, hpre, hu, hout, f1, f2, f3⟩
    simp (disch := omega) only [f1, f2, f3, ↓SXd, SXu, slBounds, ↓sop, ↓aop, ↓reduceIte, LV.cells, AOp.dst, LV.I, LV.B, LV.U, LV.S, LV.nil, Nat.reduceEqDiff, Nat.reduceAdd, Nat.reduceMul, Nat.reduceSub, Nat.reduceLeDiff, Nat.reduceBEq, Nat.reduceDiv, Nat.reduceMod, Int.reduceToNat, Int.reduceLT, Int.reduceLE, Int.reduceAdd, Int.reduceSub, Int.reduceMul, Int.reduceEq, Int.reduceNeg, reduceCtorEq, resV, resAll, ARes.ev, LV.flat, ite_true, ite_false, exists_eq_left', exists_eq_left, keyOf, implies_true, fillC, capOf]
    refine condC_dec (fun hlt2 => ?_) (fun hlt2 => ?_)
    rotate_left
    · simp (disch := omega) only [f1, f2, f3, ↓SXd, SXu, slBounds, ↓sop, ↓aop, ↓reduceIte, LV.cells, AOp.dst, LV.I, LV.B, LV.U, LV.S, LV.nil, Nat.reduceEqDiff, Nat.reduceAdd, Nat.reduceMul, Nat.reduceSub, Nat.reduceLeDiff, Nat.reduceBEq, Nat.reduceDiv, Nat.reduceMod, Int.reduceToNat, Int.reduceLT, Int.reduceLE, Int.reduceAdd, Int.reduceSub, Int.reduceMul, Int.reduceEq, Int.reduceNeg, reduceCtorEq, resV, resAll, ARes.ev, LV.flat, ite_true, ite_false, exists_eq_left', exists_eq_left, keyOf, implies_true, fillC, capOf]
      have : b = 3 := by omega
      subst this
      refine ⟨m - 1, by omega, a + 1, u, by omega, hpre, hu, ?_, ?_, eqI (natI _)⟩
      · rw [show (a + 1) * 3 * 8 = (a * 3 + 3) * 8 by omega]; exact hout
      · rw [show (a + 1) * 3 * 8 = (a * 3 + 3) * 8 by omega]; exact f1
    · simp (disch := omega) only [f1, f2, f3, ↓SXd, SXu, slBounds, ↓sop, ↓aop, ↓reduceIte, LV.cells, AOp.dst, LV.I, LV.B, LV.U, LV.S, LV.nil, Nat.reduceEqDiff, Nat.reduceAdd, Nat.reduceMul, Nat.reduceSub, Nat.reduceLeDiff, Nat.reduceBEq, Nat.reduceDiv, Nat.reduceMod, Int.reduceToNat, Int.reduceLT, Int.reduceLE, Int.reduceAdd, Int.reduceSub, Int.reduceMul, Int.reduceEq, Int.reduceNeg, reduceCtorEq, resV, resAll, ARes.ev, LV.flat, ite_true, ite_false, exists_eq_left', exists_eq_left, keyOf, implies_true, fillC, capOf]
      refine ev_loop (fun m3 fr M' => ∃ f u : Nat, f + m3 = 8 ∧ (a = b → f = 0) ∧ Pre M M' ∧ M.length ≤ u ∧ Live M' u (.row (sixL (turnsU ((a * 3 + b) * 8 + f))) true 6) ∧ fr 1 = .ref u 0 (turnsU ((a * 3 + b) * 8 + f)).length ∧ fr 2 = .I a ∧ fr 3 = .I b ∧ fr 4 = .I f) 8
        ⟨0, u, rfl, fun _ => rfl, hpre, hu, hout, f1, f2, f3, rfl⟩ ?_
      clear f1 f2 f3 hpre hu hout
      rintro m3 fr M' ⟨f, u, hf, hf0, hpre, hu, hout, f1, f2, f3, f4⟩
      have hul := turnsU_len (n := (a * 3 + b) * 8 + f)
      by_cases hlt3 : (f : Int) < 8
      · by_cases hab : (a : Int) = b
        · simp (disch := omega) only [f1, f2, f3, f4, hlt3, hab, ↓SXd, SXu, slBounds, ↓sop, ↓aop, ↓reduceIte, LV.cells, AOp.dst, LV.I, LV.B, LV.U, LV.S, LV.nil, Nat.reduceEqDiff, Nat.reduceAdd, Nat.reduceMul, Nat.reduceSub, Nat.reduceLeDiff, Nat.reduceBEq, Nat.reduceDiv, Nat.reduceMod, Int.reduceToNat, Int.reduceLT, Int.reduceLE, Int.reduceAdd, Int.reduceSub, Int.reduceMul, Int.reduceEq, Int.reduceNeg, reduceCtorEq, resV, resAll, ARes.ev, LV.flat, ite_true, ite_false, exists_eq_left', exists_eq_left, keyOf, implies_true, fillC, capOf]
          have hab' : a = b := by omega
          have : f = 0 := hf0 hab'
          subst this
          subst hab'
          rw [Nat.add_zero, turnsU_skip (by omega)] at hout f1
          exact ⟨m2 - 1, by omega, a + 1, u, by omega, hpre, hu, hout, f1, f2, eqI (natI _)⟩
        · obtain ⟨h1, h2, h3⟩ := sh_and (f := f) (by omega)
          have hodd := h_l8Odd (c := ⟨a, b, 3 - a - b⟩) (M := M' ++ [some (.row [.I a, .I b, .I (3 - a - b), .I ((f / 4 : Nat) : Int), .I ((f / 2 % 2 : Nat) : Int), .I ((f % 2 : Nat) : Int)] true 0)])
          simp (disch := omega) only [f1, f2, f3, f4, hlt3, hab, splice, h1, h2, h3, List.getElem?_append_left, ↓SXd, SXu, slBounds, ↓sop, ↓aop, ↓reduceIte, LV.cells, AOp.dst, LV.I, LV.B, LV.U, LV.S, LV.nil, Nat.reduceEqDiff, Nat.reduceAdd, Nat.reduceMul, Nat.reduceSub, Nat.reduceLeDiff, Nat.reduceBEq, Nat.reduceDiv, Nat.reduceMod, Int.reduceToNat, Int.reduceLT, Int.reduceLE, Int.reduceAdd, Int.reduceSub, Int.reduceMul, Int.reduceEq, Int.reduceNeg, reduceCtorEq, resV, resAll, ARes.ev, LV.flat, ite_true, ite_false, exists_eq_left', exists_eq_left, keyOf, implies_true, fillC, capOf]
          refine callK_of (hodd) ?_
          simp (disch := omega) only [f1, f2, f3, f4, splice, ↓SXd, SXu, slBounds, ↓sop, ↓aop, ↓reduceIte, LV.cells, AOp.dst, LV.I, LV.B, LV.U, LV.S, LV.nil, Nat.reduceEqDiff, Nat.reduceAdd, Nat.reduceMul, Nat.reduceSub, Nat.reduceLeDiff, Nat.reduceBEq, Nat.reduceDiv, Nat.reduceMod, Int.reduceToNat, Int.reduceLT, Int.reduceLE, Int.reduceAdd, Int.reduceSub, Int.reduceMul, Int.reduceEq, Int.reduceNeg, reduceCtorEq, resV, resAll, ARes.ev, LV.flat, ite_true, ite_false, exists_eq_left', exists_eq_left, keyOf, implies_true, fillC, capOf]
          have hta := turnAt_at (a := a) (b := b) (f := f) (by omega) (by omega)
          have hus := turnsU_succ (n := (a * 3 + b) * 8 + f)
          have htm : ((((f / 4 : Nat) : Int) + ((f / 2 % 2 : Nat) : Int) + ((f % 2 : Nat) : Int))).tmod 2 = (((f / 4 : Nat) : Int) + ((f / 2 % 2 : Nat) : Int) + ((f % 2 : Nat) : Int)) % 2 := Int.tmod_eq_emod_of_nonneg (by omega)
          rw [htm]
          have hnew := Live.new (M := M') (L := []) (b := .row [.I a, .I b, .I (3 - a - b), .I ((f / 4 : Nat) : Int), .I ((f / 2 % 2 : Nat) : Int), .I ((f % 2 : Nat) : Int)] true 0)
          have hp1 : Pre M' (M' ++ [some (.row [.I a, .I b, .I (3 - a - b), .I ((f / 4 : Nat) : Int), .I ((f / 2 % 2 : Nat) : Int), .I ((f % 2 : Nat) : Int)] true 0)]) := Pre.app _ _
          clear hodd
          generalize M' ++ [some (.row [.I a, .I b, .I (3 - a - b), .I ((f / 4 : Nat) : Int), .I ((f / 2 % 2 : Nat) : Int), .I ((f % 2 : Nat) : Int)] true 0)] = N at hnew hp1 ⊢
          have hout1 := hout.pre hp1
          have hN := hp1.1
          refine condC_dec (fun ho => ?_) (fun ho => ?_)
          · rw [if_pos ⟨by omega, ho⟩] at hta
            rw [hta] at hus
            simp (disch := omega) only [f1, f2, f3, f4, hnew.cells, splice, ↓SXd, SXu, slBounds, ↓sop, ↓aop, ↓reduceIte, LV.cells, AOp.dst, LV.I, LV.B, LV.U, LV.S, LV.nil, Nat.reduceEqDiff, Nat.reduceAdd, Nat.reduceMul, Nat.reduceSub, Nat.reduceLeDiff, Nat.reduceBEq, Nat.reduceDiv, Nat.reduceMod, Int.reduceToNat, Int.reduceLT, Int.reduceLE, Int.reduceAdd, Int.reduceSub, Int.reduceMul, Int.reduceEq, Int.reduceNeg, reduceCtorEq, resV, resAll, ARes.ev, LV.flat, ite_true, ite_false, exists_eq_left', exists_eq_left, keyOf, implies_true, fillC, capOf]
            refine appendK_1 (e := 6) (b := 48) (acc := sixL (turnsU ((a * 3 + b) * 8 + f))) (new := Turn.row ⟨⟨a, b, 3 - a - b⟩, ⟨((f / 4 : Nat) : Int), ((f / 2 % 2 : Nat) : Int), ((f % 2 : Nat) : Int)⟩⟩) hout1 (by rw [sixL_len]) rfl (by omega) (by omega) (by omega) fun N' l1 l2 l3 => ?_
            simp (disch := omega) only [f1, f2, f3, f4, ↓SXd, SXu, slBounds, ↓sop, ↓aop, ↓reduceIte, LV.cells, AOp.dst, LV.I, LV.B, LV.U, LV.S, LV.nil, Nat.reduceEqDiff, Nat.reduceAdd, Nat.reduceMul, Nat.reduceSub, Nat.reduceLeDiff, Nat.reduceBEq, Nat.reduceDiv, Nat.reduceMod, Int.reduceToNat, Int.reduceLT, Int.reduceLE, Int.reduceAdd, Int.reduceSub, Int.reduceMul, Int.reduceEq, Int.reduceNeg, reduceCtorEq, resV, resAll, ARes.ev, LV.flat, ite_true, ite_false, exists_eq_left', exists_eq_left, keyOf, implies_true, fillC, capOf]
            refine ⟨m3 - 1, by omega, f + 1, N.length + 1, by omega, fun h => absurd h (by omega), pre_step (hpre.trans hp1) hu l1 l3, ?_, ?_, ?_, f2, f3, eqI (natI _)⟩
            · have := hpre.1; omega
            · rw [← Nat.add_assoc, hus, sixL_append]
              exact l2
            · rw [← Nat.add_assoc, hus, List.length_append]; rfl
          · rw [if_neg (fun h => ho h.2)] at hta
            rw [hta] at hus
            simp only [Option.toList, List.append_nil] at hus
            simp (disch := omega) only [f1, f2, f3, f4, ↓SXd, SXu, slBounds, ↓sop, ↓aop, ↓reduceIte, LV.cells, AOp.dst, LV.I, LV.B, LV.U, LV.S, LV.nil, Nat.reduceEqDiff, Nat.reduceAdd, Nat.reduceMul, Nat.reduceSub, Nat.reduceLeDiff, Nat.reduceBEq, Nat.reduceDiv, Nat.reduceMod, Int.reduceToNat, Int.reduceLT, Int.reduceLE, Int.reduceAdd, Int.reduceSub, Int.reduceMul, Int.reduceEq, Int.reduceNeg, reduceCtorEq, resV, resAll, ARes.ev, LV.flat, ite_true, ite_false, exists_eq_left', exists_eq_left, keyOf, implies_true, fillC, capOf]
            refine ⟨m3 - 1, by omega, f + 1, u, by omega, fun h => absurd h (by omega), hpre.trans hp1, hu, ?_, ?_, f2, f3, eqI (natI _)⟩
            · rw [← Nat.add_assoc, hus]; exact hout1
            · rw [← Nat.add_assoc, hus]; exact f1
      · simp (disch := omega) only [f1, f2, f3, f4, hlt3, ↓SXd, SXu, slBounds, ↓sop, ↓aop, ↓reduceIte, LV.cells, AOp.dst, LV.I, LV.B, LV.U, LV.S, LV.nil, Nat.reduceEqDiff, Nat.reduceAdd, Nat.reduceMul, Nat.reduceSub, Nat.reduceLeDiff, Nat.reduceBEq, Nat.reduceDiv, Nat.reduceMod, Int.reduceToNat, Int.reduceLT, Int.reduceLE, Int.reduceAdd, Int.reduceSub, Int.reduceMul, Int.reduceEq, Int.reduceNeg, reduceCtorEq, resV, resAll, ARes.ev, LV.flat, ite_true, ite_false, exists_eq_left', exists_eq_left, keyOf, implies_true, fillC, capOf]
        have : f = 8 := by omega
        subst this
        rw [show (a * 3 + b) * 8 + 8 = (a * 3 + (b + 1)) * 8 by omega] at hout f1
        exact ⟨m2 - 1, by omega, b + 1, u, by omega, hpre, hu, hout, f1, f2, eqI (natI _)⟩
end Go.Ab

/- The abstract code of some functions (written by a program of mine from the translation, by way of prepF). -/
namespace Go.Ab.C
open Go.Ab
end Go.Ab.C

/- That the program has this code. -/
namespace Go.Ab.K
open Go Go.Ab
end Go.Ab.K

/- Plain words: what is reached from some cells within a set. -/
namespace Go.Ab

/-- What is reached from the cells of p by way of cells of q, all in the box. -/
inductive Reach (x y z : Int) (p q : Cell → Bool) : Cell → Prop
  | base {c : Cell} : c.inBox x y z → p c = true → Reach x y z p q c
  | step {c d : Cell} : Reach x y z p q c → apart c d = 1 → d.inBox x y z → q d = true → Reach x y z p q d
noncomputable def reach (x y z : Int) (p q : Cell → Bool) : Cell → Bool := fun c => @decide (Reach x y z p q c) (Classical.propDecidable _)
theorem reach_iff {x y z : Int} {p q : Cell → Bool} {c : Cell} : reach x y z p q c = true ↔ Reach x y z p q c := by
  unfold reach; exact @decide_eq_true_iff _ (Classical.propDecidable _)
theorem Reach.inBox {x y z : Int} {p q : Cell → Bool} {c : Cell} (h : Reach x y z p q c) : c.inBox x y z := by
  cases h <;> assumption
theorem Reach.mono {x y z : Int} {p q p' q' : Cell → Bool} (hp : ∀ c, c.inBox x y z → p c = true → Reach x y z p' q' c) (hq : ∀ c, c.inBox x y z → q c = true → q' c = true) {c : Cell} (h : Reach x y z p q c) : Reach x y z p' q' c := by
  induction h with
  | base h1 h2 => exact hp _ h1 h2
  | step _ h2 h3 h4 ih => exact .step ih h2 h3 (hq _ h3 h4)
/-- What holds of the beginning and is carried on holds of all that is reached. -/
theorem Reach.ind {x y z : Int} {p q : Cell → Bool} {P : Cell → Prop} (h0 : ∀ c, c.inBox x y z → p c = true → P c) (h1 : ∀ c d, P c → apart c d = 1 → d.inBox x y z → q d = true → P d) {c : Cell} (h : Reach x y z p q c) : P c := by
  induction h with
  | base h2 h3 => exact h0 _ h2 h3
  | step _ h2 h3 h4 ih => exact h1 _ _ ih h2 h3 h4
theorem apart_comm (c d : Cell) : apart c d = apart d c := by unfold apart; omega

/-- One round of growing: only of the first k cells. -/
noncomputable def growK (y z : Int) (p q : Cell → Bool) (k : Nat) : Cell → Bool := by
  classical
  exact fun c => p c || (q c && decide (∃ j, j < k ∧ p (cellAt y z j) = true ∧ apart (cellAt y z j) c = 1))
theorem growK_iff {y z : Int} {p q : Cell → Bool} {k : Nat} {c : Cell} : growK y z p q k c = true ↔ p c = true ∨ (q c = true ∧ ∃ j, j < k ∧ p (cellAt y z j) = true ∧ apart (cellAt y z j) c = 1) := by
  unfold growK
  simp only [Bool.or_eq_true, Bool.and_eq_true, decide_eq_true_eq]
theorem growK_zero {y z : Int} {p q : Cell → Bool} : growK y z p q 0 = p := by
  funext c
  have := growK_iff (y := y) (z := z) (p := p) (q := q) (k := 0) (c := c)
  cases hp : p c <;> simp_all
theorem growK_succ {y z : Int} {p q : Cell → Bool} {k : Nat} (c : Cell) : growK y z p q (k + 1) c = if p (cellAt y z k) then (growK y z p q k c || (decide (apart (cellAt y z k) c = 1) && q c)) else growK y z p q k c := by
  have h1 := growK_iff (y := y) (z := z) (p := p) (q := q) (k := k) (c := c)
  have h2 := growK_iff (y := y) (z := z) (p := p) (q := q) (k := k + 1) (c := c)
  split
  · rename_i hp
    rw [Bool.eq_iff_iff, h2, Bool.or_eq_true, h1, Bool.and_eq_true, decide_eq_true_eq]
    constructor
    · rintro (h | ⟨hq, j, hj, h3, h4⟩)
      · exact .inl (.inl h)
      · rcases Nat.lt_or_ge j k with h5 | h5
        · exact .inl (.inr ⟨hq, j, h5, h3, h4⟩)
        · rw [show j = k by omega] at h4; exact .inr ⟨h4, hq⟩
    · rintro ((h | ⟨hq, j, hj, h3, h4⟩) | ⟨h4, hq⟩)
      · exact .inl h
      · exact .inr ⟨hq, j, by omega, h3, h4⟩
      · exact .inr ⟨hq, k, by omega, hp, h4⟩
  · rename_i hp
    rw [Bool.eq_iff_iff, h2, h1]
    constructor
    · rintro (h | ⟨hq, j, hj, h3, h4⟩)
      · exact .inl h
      · rcases Nat.lt_or_ge j k with h5 | h5
        · exact .inr ⟨hq, j, h5, h3, h4⟩
        · rw [show j = k by omega] at h3; exact absurd h3 hp
    · rintro (h | ⟨hq, j, hj, h3, h4⟩)
      · exact .inl h
      · exact .inr ⟨hq, j, by omega, h3, h4⟩

section
variable {x y z : Int} (hS : Sides x y z)
include hS
theorem grow_iff {p q : Cell → Bool} {c : Cell} : growK y z p q (vol x y z) c = true ↔ p c = true ∨ (q c = true ∧ ∃ d, d.inBox x y z ∧ p d = true ∧ apart d c = 1) := by
  have hv := vol_cast hS
  rw [growK_iff]
  constructor
  · rintro (h | ⟨h1, j, h2, h3, h4⟩)
    · exact .inl h
    · exact .inr ⟨h1, _, (cellAt_in hS (by omega) (by omega)).1, h3, h4⟩
  · rintro (h | ⟨h1, d, h2, h3, h4⟩)
    · exact .inl h
    · obtain ⟨k1, k2, k3⟩ := idx_in hS h2
      refine .inr ⟨h1, (idx y z d).toNat, by omega, ?_, ?_⟩
      · rw [Int.toNat_of_nonneg k1, k3]; exact h3
      · rw [Int.toNat_of_nonneg k1, k3]; exact h4
/-- How many cells of the box are not in the set. -/
def rest (x y z : Int) (p : Cell → Bool) : Nat := (pick x y z fun c => !p c).length
theorem filter_lt {α : Type} {l : List α} {p q : α → Bool} (h : ∀ a ∈ l, p a = true → q a = true) (hx : ∃ a ∈ l, q a = true ∧ p a = false) : (l.filter p).length < (l.filter q).length := by
  induction l with
  | nil => obtain ⟨a, ha, _⟩ := hx; cases ha
  | cons a l ih =>
    have hle : (l.filter p).length ≤ (l.filter q).length := by
      clear ih hx
      induction l with
      | nil => exact Nat.le_refl _
      | cons b l ih =>
        have := ih fun c hc => h c (by simp only [List.mem_cons] at hc ⊢; rcases hc with h | h <;> simp [h])
        by_cases hb : p b = true
        · rw [List.filter_cons_of_pos hb, List.filter_cons_of_pos (h b (by simp) hb)]; simpa using this
        · rw [List.filter_cons_of_neg hb]
          by_cases hq : q b = true
          · rw [List.filter_cons_of_pos hq, List.length_cons]; omega
          · rw [List.filter_cons_of_neg hq]; exact this
    by_cases ha : p a = true
    · have := ih (fun b hb => h b (by simp [hb])) (by
        obtain ⟨b, hb, h1, h2⟩ := hx
        rcases List.mem_cons.1 hb with rfl | hb
        · rw [ha] at h2; cases h2
        · exact ⟨b, hb, h1, h2⟩)
      rw [List.filter_cons_of_pos ha, List.filter_cons_of_pos (h a (by simp) ha), List.length_cons, List.length_cons]; omega
    · rw [List.filter_cons_of_neg ha]
      by_cases hq : q a = true
      · rw [List.filter_cons_of_pos hq, List.length_cons]; omega
      · rw [List.filter_cons_of_neg hq]
        exact ih (fun b hb => h b (by simp [hb])) (by
          obtain ⟨b, hb, h1, h2⟩ := hx
          rcases List.mem_cons.1 hb with rfl | hb
          · exact absurd h1 hq
          · exact ⟨b, hb, h1, h2⟩)
theorem rest_lt {p p' : Cell → Bool} (h : ∀ c, c.inBox x y z → p c = true → p' c = true) (hx : ∃ c, c.inBox x y z ∧ p c = false ∧ p' c = true) : rest x y z p' < rest x y z p := by
  unfold rest pick
  refine filter_lt hS (fun c hc hp => ?_) ?_
  · cases hh : p c with
    | false => rfl
    | true => rw [h c ((mem_cellsOf hS).1 hc) hh] at hp; cases hp
  · obtain ⟨c, h1, h2, h3⟩ := hx
    exact ⟨c, (mem_cellsOf hS).2 h1, by rw [h2]; rfl, by rw [h3]; rfl⟩
theorem rest_le (p : Cell → Bool) : rest x y z p ≤ 64 := pick_len hS _
/-- What does not grow is all that is reached. -/
theorem reach_of_fix {p q r : Cell → Bool} (h0 : ∀ c, c.inBox x y z → p c = true → r c = true) (h1 : ∀ c, c.inBox x y z → r c = true → Reach x y z p q c) (h2 : ∀ c, c.inBox x y z → growK y z r q (vol x y z) c = r c) :
    ∀ c, c.inBox x y z → r c = reach x y z p q c := by
  intro c hc
  rw [Bool.eq_iff_iff, reach_iff]
  refine ⟨h1 c hc, fun h => ?_⟩
  have : r c = true := by
    refine h.ind (P := fun c => c.inBox x y z ∧ r c = true) (fun c h3 h4 => ⟨h3, h0 c h3 h4⟩) (fun c d ⟨h3, h4⟩ h5 h6 h7 => ⟨h6, ?_⟩) |>.2
    rw [← h2 d h6]
    exact (grow_iff hS).2 (.inr ⟨h7, c, h3, h4, h5⟩)
  exact this
end
end Go.Ab

/- Plain words: parts; lists of lists of cells in the abstract memory. -/
namespace Go.Ab
open Go

/-- The parts of a set: what its first cell reaches, then the parts of the rest. -/
noncomputable def parts (x y z : Int) : Nat → (Cell → Bool) → List (List Cell)
  | 0, _ => []
  | f + 1, q => match pick x y z q with
    | [] => []
    | c :: _ => pick x y z (reach x y z (fun d => decide (d = c)) q) :: parts x y z f fun d => q d && !reach x y z (fun d => decide (d = c)) q d

/-- Lists of cells, each in a block of its own, the blocks in rising order. -/
def Css (N : Mem) (lo hi : Nat) : List LV → List (List Cell) → Prop
  | [], [] => True
  | r :: rs, l :: ls => ∃ u, lo ≤ u ∧ u < hi ∧ r = .ref u 0 l.length ∧ Live N u (.row (triL l) true 3) ∧ Css N (u + 1) hi rs ls
  | _, _ => False

theorem Css.len {N : Mem} {hi : Nat} : ∀ {lo : Nat} {rs : List LV} {ls : List (List Cell)}, Css N lo hi rs ls → rs.length = ls.length
  | _, [], [], _ => rfl
  | _, [], _ :: _, h => h.elim
  | _, _ :: _, [], h => h.elim
  | _, r :: rs, l :: ls, ⟨u, _, _, _, _, h⟩ => by simp [Css.len h]
theorem Css.mono {N N' : Mem} {hi hi' : Nat} (hh : hi ≤ hi') : ∀ {lo lo' : Nat} {rs : List LV} {ls : List (List Cell)}, lo' ≤ lo → (∀ u l, lo ≤ u → u < hi → Live N u (.row (triL l) true 3) → Live N' u (.row (triL l) true 3)) → Css N lo hi rs ls → Css N' lo' hi' rs ls
  | _, _, [], [], _, _, _ => trivial
  | _, _, [], _ :: _, _, _, h => h.elim
  | _, _, _ :: _, [], _, _, h => h.elim
  | lo, lo', r :: rs, l :: ls, hl, hk, ⟨u, h1, h2, h3, h4, h5⟩ => ⟨u, by omega, by omega, h3, hk u l h1 h2 h4, h5.mono hh (Nat.le_refl _) fun v l h6 h7 => hk v l (by omega) h7⟩
theorem Css.snoc {N : Mem} {hi hi' u : Nat} {l : List Cell} (hu : hi ≤ u) (hu' : u < hi') (hL : Live N u (.row (triL l) true 3)) : ∀ {lo : Nat} {rs : List LV} {ls : List (List Cell)}, lo ≤ u → Css N lo hi rs ls → Css N lo hi' (rs ++ [.ref u 0 l.length]) (ls ++ [l])
  | _, [], [], hl, _ => ⟨u, hl, hu', rfl, hL, trivial⟩
  | _, [], _ :: _, _, h => h.elim
  | _, _ :: _, [], _, h => h.elim
  | lo, r :: rs, m :: ls, hl, ⟨v, h1, h2, h3, h4, h5⟩ => ⟨v, h1, by omega, h3, h4, h5.snoc hu hu' hL (by omega)⟩
theorem Css.get {N : Mem} {hi : Nat} : ∀ {lo k : Nat} {rs : List LV} {ls : List (List Cell)}, Css N lo hi rs ls → k < ls.length → ∃ u, lo ≤ u ∧ u < hi ∧ rs[k]? = some (.ref u 0 (ls.getD k []).length) ∧ Live N u (.row (triL (ls.getD k [])) true 3)
  | _, k, [], [], _, hk => by simp at hk
  | _, _, [], _ :: _, h, _ => h.elim
  | _, _, _ :: _, [], h, _ => h.elim
  | lo, 0, r :: rs, l :: ls, ⟨u, h1, h2, h3, h4, _⟩, _ => ⟨u, h1, h2, by rw [h3]; rfl, h4⟩
  | lo, k + 1, r :: rs, l :: ls, ⟨u, h1, h2, h3, h4, h5⟩, hk => by
    obtain ⟨v, k1, k2, k3, k4⟩ := h5.get (k := k) (by simpa using hk)
    exact ⟨v, by omega, k2, by simpa using k3, k4⟩
/-- One block has changed that is none of these. -/
theorem Css.keep {M M' : Mem} {lo hi t : Nat} {rs : List LV} {ls : List (List Cell)} (h : Css M lo hi rs ls) (ht : (hi ≤ t ∨ t < lo) ∨ ∃ cs w e, Live M t (.row cs w e) ∧ e ≠ 3) (hu : ∀ u, u ≠ t → u < M.length → M'[u]? = M[u]?) : Css M' lo hi rs ls :=
  h.mono (Nat.le_refl _) (Nat.le_refl _) fun u l h1 h2 hL => by
    refine live_step hL (fun e => ?_) hu
    subst e
    rcases ht with h3 | ⟨cs, w, e, h3, h4⟩
    · omega
    · unfold Live at hL h3; rw [hL] at h3; cases h3; exact h4 rfl
theorem Css.pre {M N : Mem} {lo hi : Nat} {rs : List LV} {ls : List (List Cell)} (h : Css M lo hi rs ls) (hp : Pre M N) : Css N lo hi rs ls := h.mono (Nat.le_refl _) (Nat.le_refl _) fun _ _ _ _ hL => hL.pre hp

theorem pick_take_step {x y z : Int} (hS : Sides x y z) {cs : List Cell} {k : Nat} (hk : k < cs.length) : pick x y z (fun d => decide (d ∈ pick x y z fun d => decide (d ∈ cs.take k)) || decide (d = cs.getD k default)) = pick x y z fun d => decide (d ∈ cs.take (k + 1)) :=
  pick_congr hS fun d hd => by
    rw [← take_dec hk]
    congr 1
    exact decide_eq_decide.2 ⟨fun h => by simpa using ((mem_pick hS).1 h).2, fun h => (mem_pick hS).2 ⟨hd, by simpa using h⟩⟩
theorem filter_pick {x y z : Int} (p q : Cell → Bool) : (pick x y z p).filter q = pick x y z fun d => p d && q d := by
  unfold pick; rw [List.filter_filter]
  congr 1; funext d; rw [Bool.and_comm]
theorem nodup_len {x y z : Int} (hS : Sides x y z) {l : List Cell} (hn : l.Nodup) (hb : ∀ c ∈ l, c.inBox x y z) : l.length ≤ 64 := by
  have h1 : l.Nodup := hn
  have h2 : ∀ {l m : List Cell}, l.Nodup → (∀ c ∈ l, c ∈ m) → l.length ≤ m.length := by
    intro l
    induction l with
    | nil => intro m _ _; simp
    | cons c l ih =>
      intro m hn hm
      rw [List.nodup_cons] at hn
      have hc := hm c (by simp)
      have := ih (m := m.erase c) hn.2 fun d hd => (List.mem_erase_of_ne (fun e => hn.1 (by rw [← e]; exact hd))).2 (hm d (by simp [hd]))
      rw [List.length_erase_of_mem hc] at this
      have h0 : 0 < m.length := List.length_pos_of_mem hc
      simp only [List.length_cons]
      omega
  have := h2 h1 fun c hc => (mem_cellsOf hS).2 (hb c hc)
  have h3 : (cellsOf x y z).length = vol x y z := by simp [cellsOf]
  have := vol_cast hS
  omega
theorem Live.ne_esz {M : Mem} {t t' e e' : Nat} {cs cs' : List LV} {w w' : Bool} (h : Live M t (.row cs w e)) (h' : Live M t' (.row cs' w' e')) (he : e ≠ e') : t ≠ t' := fun et => by
  subst et
  unfold Live at h h'; rw [h] at h'; cases h'; exact he rfl
end Go.Ab

/- Contracts: the reference's parts. -/
namespace Go.Ab
open Go
set_option linter.unusedSimpArgs false
set_option linter.unusedVariables false

theorem memK_box {M : Mem} {t e : Nat} {old vs : List LV} {A : Mem → Prop} (ht : Live M t (.row old true e)) (hl : vs.length = old.length)
    (hA : ∀ M', M'.length = M.length → Live M' t (.row vs true e) → (∀ u, u ≠ t → u < M.length → M'[u]? = M[u]?) → A M') : memK (setCells M t 0 vs) A := by
  rw [ht.setC, if_pos (by omega)]
  have : splice old 0 vs = vs := by simp [splice, hl]
  rw [this]
  exact hA _ (by simp) ht.set_eq fun u hu _ => List.getElem?_set_ne (fun e => hu e.symm)

/-- What is found by and by: the queue of a search in the set q from c. -/
structure Que (x y z : Int) (q : Cell → Bool) (c : Cell) (n : Nat) (l : List Cell) : Prop where
  nodup : l.Nodup
  mem : ∀ d ∈ l, d.inBox x y z ∧ q d = true ∧ Reach x y z (fun d => decide (d = c)) q d
  start : c ∈ l
  done : ∀ i, i < n → i < l.length → ∀ e, e.inBox x y z → q e = true → apart (l.getD i default) e = 1 → e ∈ l

theorem Que.reach {x y z : Int} {q : Cell → Bool} {c : Cell} {n : Nat} {l : List Cell} (h : Que x y z q c n l) (hn : l.length ≤ n) {d : Cell} : d ∈ l ↔ reach x y z (fun d => decide (d = c)) q d = true := by
  rw [reach_iff]
  refine ⟨fun hd => (h.mem d hd).2.2, fun hd => ?_⟩
  refine hd.ind (P := fun d => d ∈ l) (fun e _ he => ?_) fun a b ha hab hb hq => ?_
  · rw [of_decide_eq_true he]; exact h.start
  · obtain ⟨i, hi, rfl⟩ := List.getElem_of_mem ha
    exact h.done i (by omega) hi b hb hq (by simpa [hi] using hab)

theorem Que.next {x y z : Int} {q : Cell → Bool} {c : Cell} {n : Nat} {l : List Cell} (hS : Sides x y z) (h : Que x y z q c n l) (hn : n < l.length) :
    Que x y z q c (n + 1) (l ++ pick x y z fun d => (q d && !decide (d ∈ l)) && decide (apart d (l.getD n default) = 1)) := by
  have hm := fun d => mem_pick hS (p := fun d => (q d && !decide (d ∈ l)) && decide (apart d (l.getD n default) = 1)) (c := d)
  simp only [Bool.and_eq_true, Bool.not_eq_true', decide_eq_false_iff_not, decide_eq_true_eq] at hm
  have hln := h.mem _ (getD_mem' (d := default) hn)
  refine ⟨?_, fun d hd => ?_, by simp [h.start], fun i hi hil e he hq ha => ?_⟩
  · rw [List.nodup_append]
    refine ⟨h.nodup, (pick_ok hS _).nodup, fun a ha b hb e => ?_⟩
    subst e
    exact ((hm a).1 hb).2.1.2 ha
  · rcases List.mem_append.1 hd with hd | hd
    · exact h.mem d hd
    · obtain ⟨h1, ⟨h2, h3⟩, h4⟩ := (hm d).1 hd
      exact ⟨h1, h2, .step hln.2.2 (by rw [apart_comm]; exact h4) h1 h2⟩
  · have hg : ∀ {j}, j < l.length → (l ++ pick x y z fun d => (q d && !decide (d ∈ l)) && decide (apart d (l.getD n default) = 1)).getD j default = l.getD j default := fun {j} hj => by
      simp only [List.getD_eq_getElem?_getD]; rw [List.getElem?_append_left hj]
    rw [List.mem_append]
    rcases Nat.lt_or_ge i n with h1 | h1
    · rw [hg (by omega)] at ha
      exact .inl (h.done i h1 (by omega) e he hq ha)
    · have hin : i = n := by omega
      subst hin
      rw [hg hn] at ha
      by_cases hel : e ∈ l
      · exact .inl hel
      · exact .inr ((hm e).2 ⟨he, ⟨hq, hel⟩, by rw [apart_comm]; exact ha⟩)

end Go.Ab

/- Contracts: the reference's turned heaps. -/
namespace Go.Ab
open Go
set_option linter.unusedSimpArgs false
set_option linter.unusedVariables false

theorem Tri.gets_at {M : Mem} {t o k : Nat} {cs : List Cell} {s : Int} (h : Tri M t o cs) (hk : k < cs.length) (hs : Dir s) : getCell M t (o + k * 3 + s.toNat) = some (.I ((cs.getD k default).at s)) := by
  rcases hs with rfl | rfl | rfl
  · exact Tri.get_a h hk
  · exact Tri.get_b h hk
  · exact Tri.get_c h hk

theorem memK_at {M : Mem} {t j e : Nat} {old : List LV} {v : LV} {A : Mem → Prop} (ht : Live M t (.row old true e)) (hj : j < old.length)
    (hA : ∀ M', M'.length = M.length → Live M' t (.row (old.set j v) true e) → (∀ u, u ≠ t → u < M.length → M'[u]? = M[u]?) → A M') : memK (setCells M t j [v]) A := by
  rw [ht.setC, if_pos (by simp; omega), splice_1 hj]
  exact hA _ (by simp) ht.set_eq fun u hu _ => List.getElem?_set_ne (fun e => hu e.symm)
/-- A cell of which the first d coordinates are there. -/
def partC (c : Cell) (d : Nat) : Cell := ⟨if 0 < d then c.a else 0, if 1 < d then c.b else 0, if 2 < d then c.c else 0⟩
theorem partC_set {c : Cell} {d : Nat} (hd : d < 3) : (partC c d).row.set d (.I (c.at d)) = (partC c (d + 1)).row := by
  rcases (show d = 0 ∨ d = 1 ∨ d = 2 by omega) with rfl | rfl | rfl <;> simp [partC, Cell.row, Cell.at]
theorem Turn.row_fr {T : Turn} {d : Nat} (hd : d < 3) : T.row[d]? = some (.I (T.fr.at d)) := by
  rcases (show d = 0 ∨ d = 1 ∨ d = 2 by omega) with rfl | rfl | rfl <;> rfl
theorem Turn.row_fl {T : Turn} {d : Nat} (hd : d < 3) : T.row[3 + d]? = some (.I (T.fl.at d)) := by
  rcases (show d = 0 ∨ d = 1 ∨ d = 2 by omega) with rfl | rfl | rfl <;> rfl
theorem OkT.dir {T : Turn} (h : OkT T) {d : Nat} (hd : d < 3) : Dir (T.fr.at d) := by
  rcases (show d = 0 ∨ d = 1 ∨ d = 2 by omega) with rfl | rfl | rfl
  · exact h.1
  · exact h.2.1
  · exact h.2.2
theorem mapT_at {x y z : Int} {T : Turn} {c : Cell} {d : Nat} (hd : d < 3) : (mapT x y z T c).at d = turnC x y z c (T.fr.at d) (T.fl.at d) := by
  rcases (show d = 0 ∨ d = 1 ∨ d = 2 by omega) with rfl | rfl | rfl <;> rfl

theorem h_l8Made {x y z : Int} {t : Nat} {w : Bool} {cs : List Cell} {T : Turn} {M : Mem} (h : Live M t (.row (triL cs) w 3)) (hH : HeapOK x y z cs) (hT : OkT T) :
    CallsTo PG F.spec_l8Made [.agg [.I x, .I y, .I z, .ref t 0 cs.length], .agg [.I T.fr.a, .I T.fr.b, .I T.fr.c, .I T.fl.a, .I T.fl.b, .I T.fl.c]] M
      (.agg [.I (turnHp x y z T cs).x, .I (turnHp x y z T cs).y, .I (turnHp x y z T cs).z, .ref M.length 0 (turnHp x y z T cs).cs.length]) (M ++ [some (.row (triL (turnHp x y z T cs).cs) true 3)]) := by
  have hS := hH.1
  have hlen := hH.len
  have hS' := turnSides hS T
  obtain ⟨t1, t2, t3⟩ := hT
  have ht := h.lt
  refine calls_run K.spec_l8Made rfl ?_
  simp (disch := omega) only [C.spec_l8Made, ↓SXd, SXu, slBounds, ↓sop, ↓aop, ↓reduceIte, LV.cells, AOp.dst, LV.I, LV.B, LV.U, LV.S, LV.nil, Nat.reduceEqDiff, Nat.reduceAdd, Nat.reduceMul, Nat.reduceSub, Nat.reduceLeDiff, Nat.reduceBEq, Nat.reduceDiv, Nat.reduceMod, Int.reduceToNat, Int.reduceLT, Int.reduceLE, Int.reduceAdd, Int.reduceSub, Int.reduceMul, Int.reduceEq, Int.reduceNeg, reduceCtorEq, resV, resAll, ARes.ev, LV.flat, ite_true, ite_false, exists_eq_left', exists_eq_left, keyOf, implies_true, fillC, capOf]
  refine callK_of (h_l2Long t1) ?_
  simp (disch := omega) only [↓SXd, SXu, slBounds, ↓sop, ↓aop, ↓reduceIte, LV.cells, AOp.dst, LV.I, LV.B, LV.U, LV.S, LV.nil, Nat.reduceEqDiff, Nat.reduceAdd, Nat.reduceMul, Nat.reduceSub, Nat.reduceLeDiff, Nat.reduceBEq, Nat.reduceDiv, Nat.reduceMod, Int.reduceToNat, Int.reduceLT, Int.reduceLE, Int.reduceAdd, Int.reduceSub, Int.reduceMul, Int.reduceEq, Int.reduceNeg, reduceCtorEq, resV, resAll, ARes.ev, LV.flat, ite_true, ite_false, exists_eq_left', exists_eq_left, keyOf, implies_true, fillC, capOf]
  refine callK_of (h_l2Long t2) ?_
  simp (disch := omega) only [↓SXd, SXu, slBounds, ↓sop, ↓aop, ↓reduceIte, LV.cells, AOp.dst, LV.I, LV.B, LV.U, LV.S, LV.nil, Nat.reduceEqDiff, Nat.reduceAdd, Nat.reduceMul, Nat.reduceSub, Nat.reduceLeDiff, Nat.reduceBEq, Nat.reduceDiv, Nat.reduceMod, Int.reduceToNat, Int.reduceLT, Int.reduceLE, Int.reduceAdd, Int.reduceSub, Int.reduceMul, Int.reduceEq, Int.reduceNeg, reduceCtorEq, resV, resAll, ARes.ev, LV.flat, ite_true, ite_false, exists_eq_left', exists_eq_left, keyOf, implies_true, fillC, capOf]
  refine callK_of (h_l2Long t3) ?_
  simp (disch := omega) only [↓SXd, SXu, slBounds, ↓sop, ↓aop, ↓reduceIte, LV.cells, AOp.dst, LV.I, LV.B, LV.U, LV.S, LV.nil, Nat.reduceEqDiff, Nat.reduceAdd, Nat.reduceMul, Nat.reduceSub, Nat.reduceLeDiff, Nat.reduceBEq, Nat.reduceDiv, Nat.reduceMod, Int.reduceToNat, Int.reduceLT, Int.reduceLE, Int.reduceAdd, Int.reduceSub, Int.reduceMul, Int.reduceEq, Int.reduceNeg, reduceCtorEq, resV, resAll, ARes.ev, LV.flat, ite_true, ite_false, exists_eq_left', exists_eq_left, keyOf, implies_true, fillC, capOf]
  refine callK_of (h_l2Empty) ?_
  simp (disch := omega) only [splice, ↓SXd, SXu, slBounds, ↓sop, ↓aop, ↓reduceIte, LV.cells, AOp.dst, LV.I, LV.B, LV.U, LV.S, LV.nil, Nat.reduceEqDiff, Nat.reduceAdd, Nat.reduceMul, Nat.reduceSub, Nat.reduceLeDiff, Nat.reduceBEq, Nat.reduceDiv, Nat.reduceMod, Int.reduceToNat, Int.reduceLT, Int.reduceLE, Int.reduceAdd, Int.reduceSub, Int.reduceMul, Int.reduceEq, Int.reduceNeg, reduceCtorEq, resV, resAll, ARes.ev, LV.flat, ite_true, ite_false, exists_eq_left', exists_eq_left, keyOf, implies_true, fillC, capOf]
  have hXd : (turnHp x y z T cs).x = sideOf x y z T.fr.a := rfl
  have hYd : (turnHp x y z T cs).y = sideOf x y z T.fr.b := rfl
  have hZd : (turnHp x y z T cs).z = sideOf x y z T.fr.c := rfl
  have hCd : (turnHp x y z T cs).cs = pick (sideOf x y z T.fr.a) (sideOf x y z T.fr.b) (sideOf x y z T.fr.c) fun d => decide (d ∈ cs.map (mapT x y z T)) := rfl
  rw [hXd, hYd, hZd, hCd]
  have hLl : (cs.map (mapT x y z T)).length = cs.length := List.length_map ..
  have hLg : ∀ i, i < cs.length → (cs.map (mapT x y z T)).getD i default = mapT x y z T (cs.getD i default) := fun i hi => by simp [hi]
  generalize cs.map (mapT x y z T) = L at hLl hLg ⊢
  have hXYZ : ∀ d, 1 ≤ sideOf x y z d ∧ sideOf x y z d ≤ 4 := fun d => sideOf_in hS d
  refine ev_loop (fun m fr M' => ∃ i u : Nat, i + m = cs.length ∧ Pre M M' ∧ Live M' M.length (.row [.I x, .I y, .I z, .ref t 0 cs.length] true 0) ∧ Live M' (M.length + 1) (.row T.row true 0) ∧ Live M' (M.length + 2) (.row [.I 0, .I 0, .I 0, .nil] true 0) ∧
    Live M' (M.length + 3) (.row [.I (sideOf x y z T.fr.a), .I (sideOf x y z T.fr.b), .I (sideOf x y z T.fr.c), .ref u 0 (pick (sideOf x y z T.fr.a) (sideOf x y z T.fr.b) (sideOf x y z T.fr.c) fun d => decide (d ∈ L.take i)).length] true 0) ∧
    Live M' u (.row (triL (pick (sideOf x y z T.fr.a) (sideOf x y z T.fr.b) (sideOf x y z T.fr.c) fun d => decide (d ∈ L.take i))) true 3) ∧ M.length ≤ u ∧ fr 2 = .ptr M.length 0 ∧ fr 3 = .ptr (M.length + 1) 0 ∧ fr 4 = .ptr (M.length + 2) 0 ∧ fr 5 = .ptr (M.length + 3) 0 ∧ fr 6 = .I i) cs.length
    ⟨0, M.length + 4, by omega, Pre.app _ _, Live.new, Live.newj rfl, Live.newj rfl, ?_, ?_, by omega, rfl, rfl, rfl, rfl, rfl⟩ ?_
  · rw [show (pick (sideOf x y z T.fr.a) (sideOf x y z T.fr.b) (sideOf x y z T.fr.c) fun d => decide (d ∈ L.take 0)) = [] by unfold pick; rw [List.filter_eq_nil_iff]; simp]; exact Live.newj rfl
  · rw [show (pick (sideOf x y z T.fr.a) (sideOf x y z T.fr.b) (sideOf x y z T.fr.c) fun d => decide (d ∈ L.take 0)) = [] by unfold pick; rw [List.filter_eq_nil_iff]; simp]; exact Live.newj rfl
  rintro m fr M' ⟨i, u, hi, hpre, b2, b3, b4, b5, bu, hu, f2, f3, f4, f5, f6⟩
  simp (disch := omega) only [f2, f3, f4, f5, f6, b2.cell, ↓SXd, SXu, slBounds, ↓sop, ↓aop, ↓reduceIte, LV.cells, AOp.dst, LV.I, LV.B, LV.U, LV.S, LV.nil, Nat.reduceEqDiff, Nat.reduceAdd, Nat.reduceMul, Nat.reduceSub, Nat.reduceLeDiff, Nat.reduceBEq, Nat.reduceDiv, Nat.reduceMod, Int.reduceToNat, Int.reduceLT, Int.reduceLE, Int.reduceAdd, Int.reduceSub, Int.reduceMul, Int.reduceEq, Int.reduceNeg, reduceCtorEq, resV, resAll, ARes.ev, LV.flat, ite_true, ite_false, exists_eq_left', exists_eq_left, keyOf, implies_true, fillC, capOf]
  refine condC_dec (fun hlt => ?_) (fun hlt => ?_)
  · have hil : i < cs.length := by omega
    simp (disch := omega) only [f2, f3, f4, f5, f6, splice, ↓SXd, SXu, slBounds, ↓sop, ↓aop, ↓reduceIte, LV.cells, AOp.dst, LV.I, LV.B, LV.U, LV.S, LV.nil, Nat.reduceEqDiff, Nat.reduceAdd, Nat.reduceMul, Nat.reduceSub, Nat.reduceLeDiff, Nat.reduceBEq, Nat.reduceDiv, Nat.reduceMod, Int.reduceToNat, Int.reduceLT, Int.reduceLE, Int.reduceAdd, Int.reduceSub, Int.reduceMul, Int.reduceEq, Int.reduceNeg, reduceCtorEq, resV, resAll, ARes.ev, LV.flat, ite_true, ite_false, exists_eq_left', exists_eq_left, keyOf, implies_true, fillC, capOf]
    have hlb5 := b5.lt
    refine ev_loop (fun m2 fr N => ∃ d : Nat, d + m2 = 3 ∧ Pre M' N ∧ Live N M'.length (.row (partC (mapT x y z T (cs.getD i default)) d).row true 0) ∧
      fr 2 = .ptr M.length 0 ∧ fr 3 = .ptr (M.length + 1) 0 ∧ fr 4 = .ptr (M.length + 2) 0 ∧ fr 5 = .ptr (M.length + 3) 0 ∧ fr 6 = .I i ∧ fr 7 = .ptr M'.length 0 ∧ fr 8 = .I d) 3
      ⟨0, rfl, Pre.app _ _, Live.new, f2, f3, f4, f5, f6, rfl, rfl⟩ ?_
    clear f2 f3 f4 f5 f6
    rintro m2 fr N ⟨d, hd, hp2, b7, f2, f3, f4, f5, f6, f7, f8⟩
    simp (disch := omega) only [f2, f3, f4, f5, f6, f7, f8, ↓SXd, SXu, slBounds, ↓sop, ↓aop, ↓reduceIte, LV.cells, AOp.dst, LV.I, LV.B, LV.U, LV.S, LV.nil, Nat.reduceEqDiff, Nat.reduceAdd, Nat.reduceMul, Nat.reduceSub, Nat.reduceLeDiff, Nat.reduceBEq, Nat.reduceDiv, Nat.reduceMod, Int.reduceToNat, Int.reduceLT, Int.reduceLE, Int.reduceAdd, Int.reduceSub, Int.reduceMul, Int.reduceEq, Int.reduceNeg, reduceCtorEq, resV, resAll, ARes.ev, LV.flat, ite_true, ite_false, exists_eq_left', exists_eq_left, keyOf, implies_true, fillC, capOf]
    refine condC_dec (fun hlt2 => ?_) (fun hlt2 => ?_)
    · have hd3 : d < 3 := by omega
      have c2 := b2.pre hp2
      have c3 := b3.pre hp2
      have hTri : Tri N t 0 cs := (h.pre (hpre.trans hp2)).has
      have hci := (hH.mem (getD_mem' (d := default) hil))
      have hs := OkT.dir ⟨t1, t2, t3⟩ hd3
      have g1 := Tri.gets_at hTri hil hs
      have a1 := at_in hci (T.fr.at d)
      have hma := mapT_at (x := x) (y := y) (z := z) (T := T) (c := cs.getD i default) hd3
      have e1 := c3.cell (o := d)
      rw [Turn.row_fr hd3] at e1
      simp only [Nat.zero_add] at g1
      have hss := hXYZ (T.fr.at d)
      have q2 : 0 ≤ T.fr.at d := by rcases hs with h | h | h <;> omega
      have q3 : T.fr.at d < 3 := by rcases hs with h | h | h <;> omega
      simp (disch := omega) only [f2, f3, f4, f5, f6, f7, f8, c2.cell, e1, g1, q2, q3, Nat.mul_one, Nat.zero_add, ↓SXd, SXu, slBounds, ↓sop, ↓aop, ↓reduceIte, LV.cells, AOp.dst, LV.I, LV.B, LV.U, LV.S, LV.nil, Nat.reduceEqDiff, Nat.reduceAdd, Nat.reduceMul, Nat.reduceSub, Nat.reduceLeDiff, Nat.reduceBEq, Nat.reduceDiv, Nat.reduceMod, Int.reduceToNat, Int.reduceLT, Int.reduceLE, Int.reduceAdd, Int.reduceSub, Int.reduceMul, Int.reduceEq, Int.reduceNeg, reduceCtorEq, resV, resAll, ARes.ev, LV.flat, ite_true, ite_false, exists_eq_left', exists_eq_left, keyOf, implies_true, fillC, capOf]
      refine memK_at b7 (show d < 3 from hd3) fun N1 k1 k2 k3 => ?_
      have hN := hp2.1
      have hl7 := b7.lt
      have d2 := live_step c2 (by omega) k3
      have d3 := live_step c3 (by omega) k3
      have e2 := d3.cell (o := 3 + d)
      have e3 := d3.cell (o := d)
      rw [Turn.row_fl hd3] at e2
      rw [Turn.row_fr hd3] at e3
      have e7 := k2.cell (o := d)
      rw [List.getElem?_set_self (show d < (partC (mapT x y z T (cs.getD i default)) d).row.length from hd3)] at e7
      have hp3 : Pre M' N1 := pre_step hp2 (by omega) (j := 0) k1 k3
      simp (disch := omega) only [f2, f3, f4, f5, f6, f7, f8, e2, Nat.mul_one, ↓SXd, SXu, slBounds, ↓sop, ↓aop, ↓reduceIte, LV.cells, AOp.dst, LV.I, LV.B, LV.U, LV.S, LV.nil, Nat.reduceEqDiff, Nat.reduceAdd, Nat.reduceMul, Nat.reduceSub, Nat.reduceLeDiff, Nat.reduceBEq, Nat.reduceDiv, Nat.reduceMod, Int.reduceToNat, Int.reduceLT, Int.reduceLE, Int.reduceAdd, Int.reduceSub, Int.reduceMul, Int.reduceEq, Int.reduceNeg, reduceCtorEq, resV, resAll, ARes.ev, LV.flat, ite_true, ite_false, exists_eq_left', exists_eq_left, keyOf, implies_true, fillC, capOf]
      refine condC_dec (fun hf => ?_) (fun hf => ?_)
      · simp (disch := omega) only [f2, f3, f4, f5, f6, f7, f8, d2.cells, e3, e7, Nat.mul_one, Nat.zero_add, ↓SXd, SXu, slBounds, ↓sop, ↓aop, ↓reduceIte, LV.cells, AOp.dst, LV.I, LV.B, LV.U, LV.S, LV.nil, Nat.reduceEqDiff, Nat.reduceAdd, Nat.reduceMul, Nat.reduceSub, Nat.reduceLeDiff, Nat.reduceBEq, Nat.reduceDiv, Nat.reduceMod, Int.reduceToNat, Int.reduceLT, Int.reduceLE, Int.reduceAdd, Int.reduceSub, Int.reduceMul, Int.reduceEq, Int.reduceNeg, reduceCtorEq, resV, resAll, ARes.ev, LV.flat, ite_true, ite_false, exists_eq_left', exists_eq_left, keyOf, implies_true, fillC, capOf]
        refine callK_of (h_l2Long hs) ?_
        simp (disch := omega) only [f2, f3, f4, f5, f6, f7, f8, e7, Nat.mul_one, Nat.zero_add, ↓SXd, SXu, slBounds, ↓sop, ↓aop, ↓reduceIte, LV.cells, AOp.dst, LV.I, LV.B, LV.U, LV.S, LV.nil, Nat.reduceEqDiff, Nat.reduceAdd, Nat.reduceMul, Nat.reduceSub, Nat.reduceLeDiff, Nat.reduceBEq, Nat.reduceDiv, Nat.reduceMod, Int.reduceToNat, Int.reduceLT, Int.reduceLE, Int.reduceAdd, Int.reduceSub, Int.reduceMul, Int.reduceEq, Int.reduceNeg, reduceCtorEq, resV, resAll, ARes.ev, LV.flat, ite_true, ite_false, exists_eq_left', exists_eq_left, keyOf, implies_true, fillC, capOf]
        refine memK_at k2 (by rw [List.length_set]; exact hd3) fun N2 l1 l2 l3 => ?_
        simp (disch := omega) only [f2, f3, f4, f5, f6, f7, f8, ↓SXd, SXu, slBounds, ↓sop, ↓aop, ↓reduceIte, LV.cells, AOp.dst, LV.I, LV.B, LV.U, LV.S, LV.nil, Nat.reduceEqDiff, Nat.reduceAdd, Nat.reduceMul, Nat.reduceSub, Nat.reduceLeDiff, Nat.reduceBEq, Nat.reduceDiv, Nat.reduceMod, Int.reduceToNat, Int.reduceLT, Int.reduceLE, Int.reduceAdd, Int.reduceSub, Int.reduceMul, Int.reduceEq, Int.reduceNeg, reduceCtorEq, resV, resAll, ARes.ev, LV.flat, ite_true, ite_false, exists_eq_left', exists_eq_left, keyOf, implies_true, fillC, capOf]
        rw [List.set_set] at l2
        refine ⟨m2 - 1, by omega, d + 1, by omega, pre_step hp3 (by omega) (j := 0) l1 l3, ?_, f2, f3, f4, f5, f6, f7, eqI (natI _)⟩
        rw [← partC_set hd3, hma]
        unfold turnC
        rw [if_pos hf]
        exact l2
      · simp (disch := omega) only [f2, f3, f4, f5, f6, f7, f8, ↓SXd, SXu, slBounds, ↓sop, ↓aop, ↓reduceIte, LV.cells, AOp.dst, LV.I, LV.B, LV.U, LV.S, LV.nil, Nat.reduceEqDiff, Nat.reduceAdd, Nat.reduceMul, Nat.reduceSub, Nat.reduceLeDiff, Nat.reduceBEq, Nat.reduceDiv, Nat.reduceMod, Int.reduceToNat, Int.reduceLT, Int.reduceLE, Int.reduceAdd, Int.reduceSub, Int.reduceMul, Int.reduceEq, Int.reduceNeg, reduceCtorEq, resV, resAll, ARes.ev, LV.flat, ite_true, ite_false, exists_eq_left', exists_eq_left, keyOf, implies_true, fillC, capOf]
        refine ⟨m2 - 1, by omega, d + 1, by omega, hp3, ?_, f2, f3, f4, f5, f6, f7, eqI (natI _)⟩
        rw [← partC_set hd3, hma]
        unfold turnC
        rw [if_neg hf]
        exact k2
    · simp (disch := omega) only [f2, f3, f4, f5, f6, f7, f8, ↓SXd, SXu, slBounds, ↓sop, ↓aop, ↓reduceIte, LV.cells, AOp.dst, LV.I, LV.B, LV.U, LV.S, LV.nil, Nat.reduceEqDiff, Nat.reduceAdd, Nat.reduceMul, Nat.reduceSub, Nat.reduceLeDiff, Nat.reduceBEq, Nat.reduceDiv, Nat.reduceMod, Int.reduceToNat, Int.reduceLT, Int.reduceLE, Int.reduceAdd, Int.reduceSub, Int.reduceMul, Int.reduceEq, Int.reduceNeg, reduceCtorEq, resV, resAll, ARes.ev, LV.flat, ite_true, ite_false, exists_eq_left', exists_eq_left, keyOf, implies_true, fillC, capOf]
      have : d = 3 := by omega
      subst this
      have c2 := b2.pre hp2
      have c3 := b3.pre hp2
      have c4 := b4.pre hp2
      have c5 := b5.pre hp2
      have cu := bu.pre hp2
      have e7 : (partC (mapT x y z T (cs.getD i default)) 3) = L.getD i default := (hLg i hil).symm
      rw [e7] at b7
      have hci := mapT_in (hH.mem (getD_mem' (d := default) hil)) T
      rw [← hLg i hil] at hci
      simp (disch := omega) only [f2, f3, f4, f5, f6, f7, f8, c5.cells, b7.cells, Cell.row, ↓SXd, SXu, slBounds, ↓sop, ↓aop, ↓reduceIte, LV.cells, AOp.dst, LV.I, LV.B, LV.U, LV.S, LV.nil, Nat.reduceEqDiff, Nat.reduceAdd, Nat.reduceMul, Nat.reduceSub, Nat.reduceLeDiff, Nat.reduceBEq, Nat.reduceDiv, Nat.reduceMod, Int.reduceToNat, Int.reduceLT, Int.reduceLE, Int.reduceAdd, Int.reduceSub, Int.reduceMul, Int.reduceEq, Int.reduceNeg, reduceCtorEq, resV, resAll, ARes.ev, LV.flat, ite_true, ite_false, exists_eq_left', exists_eq_left, keyOf, implies_true, fillC, capOf]
      refine callH_of (h_l2With (c := L.getD i default) cu (pick_ok hS' _) hci) ?_
      intro sn N2 hsn hp3 hsr
      rw [pick_take_step hS' (by omega)] at hsr ⊢
      have hN := hp2.1
      have hN2 := hp3.1
      simp (disch := omega) only [f2, f3, f4, f5, f6, f7, f8, ↓SXd, SXu, slBounds, ↓sop, ↓aop, ↓reduceIte, LV.cells, AOp.dst, LV.I, LV.B, LV.U, LV.S, LV.nil, Nat.reduceEqDiff, Nat.reduceAdd, Nat.reduceMul, Nat.reduceSub, Nat.reduceLeDiff, Nat.reduceBEq, Nat.reduceDiv, Nat.reduceMod, Int.reduceToNat, Int.reduceLT, Int.reduceLE, Int.reduceAdd, Int.reduceSub, Int.reduceMul, Int.reduceEq, Int.reduceNeg, reduceCtorEq, resV, resAll, ARes.ev, LV.flat, ite_true, ite_false, exists_eq_left', exists_eq_left, keyOf, implies_true, fillC, capOf]
      refine memK_box (c5.pre hp3) (by simp) fun N3 k1 k2 k3 => ?_
      simp (disch := omega) only [f2, f3, f4, f5, f6, f7, f8, ↓SXd, SXu, slBounds, ↓sop, ↓aop, ↓reduceIte, LV.cells, AOp.dst, LV.I, LV.B, LV.U, LV.S, LV.nil, Nat.reduceEqDiff, Nat.reduceAdd, Nat.reduceMul, Nat.reduceSub, Nat.reduceLeDiff, Nat.reduceBEq, Nat.reduceDiv, Nat.reduceMod, Int.reduceToNat, Int.reduceLT, Int.reduceLE, Int.reduceAdd, Int.reduceSub, Int.reduceMul, Int.reduceEq, Int.reduceNeg, reduceCtorEq, resV, resAll, ARes.ev, LV.flat, ite_true, ite_false, exists_eq_left', exists_eq_left, keyOf, implies_true, fillC, capOf]
      exact ⟨m - 1, by omega, i + 1, sn, by omega, pre_step ((hpre.trans hp2).trans hp3) (by omega) (j := 0) k1 k3, live_step (c2.pre hp3) (by omega) k3, live_step (c3.pre hp3) (by omega) k3, live_step (c4.pre hp3) (by omega) k3, k2, live_step hsr (by omega) k3, by have := hpre.1; omega, f2, f3, f4, f5, eqI (natI _)⟩
  · have : i = cs.length := by omega
    subst this
    rw [← hLl, List.take_length] at b5 bu
    simp (disch := omega) only [f2, f3, f4, f5, f6, b5.cells, ↓SXd, SXu, slBounds, ↓sop, ↓aop, ↓reduceIte, LV.cells, AOp.dst, LV.I, LV.B, LV.U, LV.S, LV.nil, Nat.reduceEqDiff, Nat.reduceAdd, Nat.reduceMul, Nat.reduceSub, Nat.reduceLeDiff, Nat.reduceBEq, Nat.reduceDiv, Nat.reduceMod, Int.reduceToNat, Int.reduceLT, Int.reduceLE, Int.reduceAdd, Int.reduceSub, Int.reduceMul, Int.reduceEq, Int.reduceNeg, reduceCtorEq, resV, resAll, ARes.ev, LV.flat, ite_true, ite_false, exists_eq_left', exists_eq_left, keyOf, implies_true, fillC, capOf]
    refine memK_box b4 (by simp) fun N3 k1 k2 k3 => ?_
    simp (disch := omega) only [f2, f3, f4, f5, f6, k2.cells, ↓SXd, SXu, slBounds, ↓sop, ↓aop, ↓reduceIte, LV.cells, AOp.dst, LV.I, LV.B, LV.U, LV.S, LV.nil, Nat.reduceEqDiff, Nat.reduceAdd, Nat.reduceMul, Nat.reduceSub, Nat.reduceLeDiff, Nat.reduceBEq, Nat.reduceDiv, Nat.reduceMod, Int.reduceToNat, Int.reduceLT, Int.reduceLE, Int.reduceAdd, Int.reduceSub, Int.reduceMul, Int.reduceEq, Int.reduceNeg, reduceCtorEq, resV, resAll, ARes.ev, LV.flat, ite_true, ite_false, exists_eq_left', exists_eq_left, keyOf, implies_true, fillC, capOf]
    exact cmp_keepL (pre_step hpre (by omega) (j := 0) k1 k3) hu (live_step bu (bu.ne_esz b4 (by decide)) k3) (triL_lo _) (by simp [rn, rn0, rn1])
end Go.Ab

/- Contracts: views, the reference's side. -/
namespace Go.Ab
open Go
set_option linter.unusedSimpArgs false
set_option linter.unusedVariables false
set_option maxRecDepth 20000

theorem h_l2Others {d : Nat} {M : Mem} (hd : d < 3) : CallsTo PG F.spec_l2Others [.I d] M (.tup [.I (if d = 0 then 1 else 0), .I (if d = 2 then 1 else 2)]) M := by
  refine calls_run K.spec_l2Others rfl ?_
  rcases (show d = 0 ∨ d = 1 ∨ d = 2 by omega) with rfl | rfl | rfl
  all_goals
    simp (disch := omega) only [C.spec_l2Others, ↓SXd, SXu, slBounds, ↓sop, ↓aop, ↓reduceIte, LV.cells, AOp.dst, LV.I, LV.B, LV.U, LV.S, LV.nil, Nat.reduceEqDiff, Nat.reduceAdd, Nat.reduceMul, Nat.reduceSub, Nat.reduceLeDiff, Nat.reduceBEq, Nat.reduceDiv, Nat.reduceMod, Int.reduceToNat, Int.reduceLT, Int.reduceLE, Int.reduceAdd, Int.reduceSub, Int.reduceMul, Int.reduceEq, Int.reduceNeg, reduceCtorEq, resV, resAll, ARes.ev, LV.flat, ite_true, ite_false, exists_eq_left', exists_eq_left, keyOf, implies_true, fillC, capOf]
    exact cmp_drop0 rfl
theorem h_l2View {x y z : Int} {d t o : Nat} {cs : List Cell} {M : Mem} (h : Tri M t o cs) (hH : HeapOK x y z cs) (hd : d < 3) : CallsTo PG F.spec_l2View [.agg [.I x, .I y, .I z, .ref t o cs.length], .I d] M (.ref M.length 0 (viewL x y z d cs).length) (M ++ [some (.row (intL (viewL x y z d cs)) true 1)]) := by
  have hS := hH.1
  have hlp : 1 ≤ linesOf x y z d ∧ linesOf x y z d ≤ 16 := by
    have := prod_le hS
    rcases (show d = 0 ∨ d = 1 ∨ d = 2 by omega) with rfl | rfl | rfl
    · exact this.2.2
    · exact this.2.1
    · exact this.1
  have hlen := hH.len
  have ht := h.lt
  have hz : ∀ j, 0 ≤ (List.replicate (linesOf x y z d).toNat (0 : Int)).getD j 0 ∧ (List.replicate (linesOf x y z d).toNat (0 : Int)).getD j 0 ≤ 0 := fun j => by
    rw [List.getD_eq_getElem?_getD, List.getElem?_replicate]; split <;> simp
  have hvl := viewL_len (x := x) (y := y) (z := z) (d := d) (cs := cs)
  have hda : Dir (if d = 0 then 1 else 0) := by unfold Dir; split <;> omega
  have hdb : Dir (if d = 2 then 1 else 2) := by unfold Dir; split <;> omega
  have hprod : sideOf x y z (if d = 0 then 1 else 0) * sideOf x y z (if d = 2 then 1 else 2) = linesOf x y z d := by
    rcases (show d = 0 ∨ d = 1 ∨ d = 2 by omega) with rfl | rfl | rfl <;> rfl
  have hline : ∀ c : Cell, c.at (if d = 0 then 1 else 0) * sideOf x y z (if d = 2 then 1 else 2) + c.at (if d = 2 then 1 else 2) = lineOf y z c d := fun c => by
    rcases (show d = 0 ∨ d = 1 ∨ d = 2 by omega) with rfl | rfl | rfl <;> rfl
  have hrA : 0 ≤ (if d = 0 then (1 : Int) else 0) ∧ (if d = 0 then (1 : Int) else 0) < 3 := by split <;> omega
  have hrB : 0 ≤ (if d = 2 then (1 : Int) else 2) ∧ (if d = 2 then (1 : Int) else 2) < 3 := by split <;> omega
  refine calls_run K.spec_l2View rfl ?_
  simp (disch := omega) only [C.spec_l2View, ↓SXd, SXu, slBounds, ↓sop, ↓aop, ↓reduceIte, LV.cells, AOp.dst, LV.I, LV.B, LV.U, LV.S, LV.nil, Nat.reduceEqDiff, Nat.reduceAdd, Nat.reduceMul, Nat.reduceSub, Nat.reduceLeDiff, Nat.reduceBEq, Nat.reduceDiv, Nat.reduceMod, Int.reduceToNat, Int.reduceLT, Int.reduceLE, Int.reduceAdd, Int.reduceSub, Int.reduceMul, Int.reduceEq, Int.reduceNeg, reduceCtorEq, resV, resAll, ARes.ev, LV.flat, ite_true, ite_false, exists_eq_left', exists_eq_left, keyOf, implies_true, fillC, capOf]
  refine callK_of (h_l2Others hd) ?_
  simp (disch := omega) only [↓SXd, SXu, slBounds, ↓sop, ↓aop, ↓reduceIte, LV.cells, AOp.dst, LV.I, LV.B, LV.U, LV.S, LV.nil, Nat.reduceEqDiff, Nat.reduceAdd, Nat.reduceMul, Nat.reduceSub, Nat.reduceLeDiff, Nat.reduceBEq, Nat.reduceDiv, Nat.reduceMod, Int.reduceToNat, Int.reduceLT, Int.reduceLE, Int.reduceAdd, Int.reduceSub, Int.reduceMul, Int.reduceEq, Int.reduceNeg, reduceCtorEq, resV, resAll, ARes.ev, LV.flat, ite_true, ite_false, exists_eq_left', exists_eq_left, keyOf, implies_true, fillC, capOf]
  generalize (if d = 0 then (1 : Int) else 0) = A at hda hprod hline hrA ⊢
  generalize (if d = 2 then (1 : Int) else 2) = B at hdb hprod hline hrB ⊢
  obtain ⟨rA1, rA2⟩ := hrA
  obtain ⟨rB1, rB2⟩ := hrB
  refine callK_of (h_l2Long hda) ?_
  simp (disch := omega) only [↓SXd, SXu, slBounds, ↓sop, ↓aop, ↓reduceIte, LV.cells, AOp.dst, LV.I, LV.B, LV.U, LV.S, LV.nil, Nat.reduceEqDiff, Nat.reduceAdd, Nat.reduceMul, Nat.reduceSub, Nat.reduceLeDiff, Nat.reduceBEq, Nat.reduceDiv, Nat.reduceMod, Int.reduceToNat, Int.reduceLT, Int.reduceLE, Int.reduceAdd, Int.reduceSub, Int.reduceMul, Int.reduceEq, Int.reduceNeg, reduceCtorEq, resV, resAll, ARes.ev, LV.flat, ite_true, ite_false, exists_eq_left', exists_eq_left, keyOf, implies_true, fillC, capOf]
  refine callK_of (h_l2Long hdb) ?_
  simp (disch := omega) only [hprod, made_int, ↓SXd, SXu, slBounds, ↓sop, ↓aop, ↓reduceIte, LV.cells, AOp.dst, LV.I, LV.B, LV.U, LV.S, LV.nil, Nat.reduceEqDiff, Nat.reduceAdd, Nat.reduceMul, Nat.reduceSub, Nat.reduceLeDiff, Nat.reduceBEq, Nat.reduceDiv, Nat.reduceMod, Int.reduceToNat, Int.reduceLT, Int.reduceLE, Int.reduceAdd, Int.reduceSub, Int.reduceMul, Int.reduceEq, Int.reduceNeg, reduceCtorEq, resV, resAll, ARes.ev, LV.flat, ite_true, ite_false, exists_eq_left', exists_eq_left, keyOf, implies_true, fillC, capOf]
  refine ev_loop (fun m fr M' => ∃ i : Nat, i + m = cs.length ∧ Pre M M' ∧ Live M' M.length (.row [.I x, .I y, .I z, .ref t o cs.length] true 0) ∧ Live M' (M.length + 1) (.row (intL ((cs.take i).foldl (viewStep y z d) (List.replicate (linesOf x y z d).toNat 0))) true 1) ∧
    fr 2 = .ptr M.length 0 ∧ fr 5 = .I A ∧ fr 6 = .I B ∧ fr 7 = .ref (M.length + 1) 0 (linesOf x y z d).toNat ∧ fr 8 = .I i) cs.length
    ⟨0, by omega, Pre.app _ _, Live.new, Live.newj rfl, rfl, rfl, rfl, rfl, rfl⟩ ?_
  rintro m fr M' ⟨i, hi, hpre, b2, bo, f2, f5, f6, f7, f8⟩
  simp (disch := omega) only [f2, f5, f6, f7, f8, b2.cell, ↓SXd, SXu, slBounds, ↓sop, ↓aop, ↓reduceIte, LV.cells, AOp.dst, LV.I, LV.B, LV.U, LV.S, LV.nil, Nat.reduceEqDiff, Nat.reduceAdd, Nat.reduceMul, Nat.reduceSub, Nat.reduceLeDiff, Nat.reduceBEq, Nat.reduceDiv, Nat.reduceMod, Int.reduceToNat, Int.reduceLT, Int.reduceLE, Int.reduceAdd, Int.reduceSub, Int.reduceMul, Int.reduceEq, Int.reduceNeg, reduceCtorEq, resV, resAll, ARes.ev, LV.flat, ite_true, ite_false, exists_eq_left', exists_eq_left, keyOf, implies_true, fillC, capOf]
  refine condC_dec (fun hlt => ?_) (fun hlt => ?_)
  · have hil : i < cs.length := by omega
    have hc := hH.mem (getD_mem' (d := default) hil)
    have gA := Tri.gets_at (h.pre hpre) hil hda
    have gB := Tri.gets_at (h.pre hpre) hil hdb
    have htf := take_foldl (y := y) (z := z) (d := d) (v := List.replicate (linesOf x y z d).toNat 0) hil
    have hbd := fold_bound (y := y) (z := z) (d := d) (cs := cs.take i) hz
    have hfl := foldl_len (y := y) (z := z) (d := d) (cs := cs.take i) (v := List.replicate (linesOf x y z d).toNat 0)
    have htl := List.length_take_le i cs
    rw [List.length_replicate] at hfl
    generalize cs.getD i default = c at gA gB hc htf
    generalize (cs.take i).foldl (viewStep y z d) (List.replicate (linesOf x y z d).toNat 0) = v at bo htf hbd hfl
    obtain ⟨l1, l2⟩ := lineOf_in hS hc hd
    obtain ⟨v1, v2⟩ := hbd (lineOf y z c d).toNat
    have hlt2 : (lineOf y z c d).toNat < v.length := by omega
    have hlc := hline c
    have aA := at_in hc A
    have aB := at_in hc B
    have sB := sideOf_in hS B
    have sA := sideOf_in hS A
    have hmul : 0 ≤ c.at A * sideOf x y z B ∧ c.at A * sideOf x y z B ≤ 16 := by
      rcases (show sideOf x y z B = 1 ∨ sideOf x y z B = 2 ∨ sideOf x y z B = 3 ∨ sideOf x y z B = 4 by omega) with e | e | e | e <;> rw [e] <;> omega
    have hcell := bo.cell (o := (lineOf y z c d).toNat)
    rw [intL_get hlt2] at hcell
    simp (disch := omega) only [f2, f5, f6, f7, f8, b2.cell, b2.cells, gA, gB, Nat.mul_one, Nat.zero_add, ↓SXd, SXu, slBounds, ↓sop, ↓aop, ↓reduceIte, LV.cells, AOp.dst, LV.I, LV.B, LV.U, LV.S, LV.nil, Nat.reduceEqDiff, Nat.reduceAdd, Nat.reduceMul, Nat.reduceSub, Nat.reduceLeDiff, Nat.reduceBEq, Nat.reduceDiv, Nat.reduceMod, Int.reduceToNat, Int.reduceLT, Int.reduceLE, Int.reduceAdd, Int.reduceSub, Int.reduceMul, Int.reduceEq, Int.reduceNeg, reduceCtorEq, resV, resAll, ARes.ev, LV.flat, ite_true, ite_false, exists_eq_left', exists_eq_left, keyOf, implies_true, fillC, capOf]
    refine callK_of (h_l2Long hdb) ?_
    simp (disch := omega) only [f2, f5, f6, f7, f8, hlc, hcell, Nat.mul_one, Nat.zero_add, ↓SXd, SXu, slBounds, ↓sop, ↓aop, ↓reduceIte, LV.cells, AOp.dst, LV.I, LV.B, LV.U, LV.S, LV.nil, Nat.reduceEqDiff, Nat.reduceAdd, Nat.reduceMul, Nat.reduceSub, Nat.reduceLeDiff, Nat.reduceBEq, Nat.reduceDiv, Nat.reduceMod, Int.reduceToNat, Int.reduceLT, Int.reduceLE, Int.reduceAdd, Int.reduceSub, Int.reduceMul, Int.reduceEq, Int.reduceNeg, reduceCtorEq, resV, resAll, ARes.ev, LV.flat, ite_true, ite_false, exists_eq_left', exists_eq_left, keyOf, implies_true, fillC, capOf]
    refine memK_int bo hlt2 fun N k1 k2 k3 => ?_
    simp (disch := omega) only [f2, f5, f6, f7, f8, ↓SXd, SXu, slBounds, ↓sop, ↓aop, ↓reduceIte, LV.cells, AOp.dst, LV.I, LV.B, LV.U, LV.S, LV.nil, Nat.reduceEqDiff, Nat.reduceAdd, Nat.reduceMul, Nat.reduceSub, Nat.reduceLeDiff, Nat.reduceBEq, Nat.reduceDiv, Nat.reduceMod, Int.reduceToNat, Int.reduceLT, Int.reduceLE, Int.reduceAdd, Int.reduceSub, Int.reduceMul, Int.reduceEq, Int.reduceNeg, reduceCtorEq, resV, resAll, ARes.ev, LV.flat, ite_true, ite_false, exists_eq_left', exists_eq_left, keyOf, implies_true, fillC, capOf]
    rw [show v.set (lineOf y z c d).toNat (v.getD (lineOf y z c d).toNat 0 + 1) = viewStep y z d v c from rfl, ← htf] at k2
    exact ⟨m - 1, by omega, i + 1, by omega, pre_step hpre (by omega) (j := 0) k1 k3, live_step b2 (by omega) k3, k2, f2, f5, f6, f7, eqI (natI _)⟩
  · simp (disch := omega) only [f2, f5, f6, f7, f8, ↓SXd, SXu, slBounds, ↓sop, ↓aop, ↓reduceIte, LV.cells, AOp.dst, LV.I, LV.B, LV.U, LV.S, LV.nil, Nat.reduceEqDiff, Nat.reduceAdd, Nat.reduceMul, Nat.reduceSub, Nat.reduceLeDiff, Nat.reduceBEq, Nat.reduceDiv, Nat.reduceMod, Int.reduceToNat, Int.reduceLT, Int.reduceLE, Int.reduceAdd, Int.reduceSub, Int.reduceMul, Int.reduceEq, Int.reduceNeg, reduceCtorEq, resV, resAll, ARes.ev, LV.flat, ite_true, ite_false, exists_eq_left', exists_eq_left, keyOf, implies_true, fillC, capOf]
    have : i = cs.length := by omega
    subst this
    rw [List.take_length] at bo
    change Live M' (M.length + 1) (.row (intL (viewL x y z d cs)) true 1) at bo
    exact cmp_keepL hpre (by omega) bo (intL_lo _) (by simp [rn, rn0, rn1, hvl])
end Go.Ab

/- The abstract code of some functions (written by a program of mine from the translation, by way of prepF). -/
namespace Go.Ab.C
open Go.Ab
def spec_l1Least : AFn :=
  ⟨2, 10, [.tmp 4],
    .seq (.ops [(none, .mv 4 (.c (.I 0)))])
    (.seq (.seq (.ops [(none, .mv 5 (.t 0)),
         (none, .mv 6 (.t 1)),
         (none, .bin 7 .lss (.t 5) (.t 6))])
      (.cond (.t 7) (.seq (.ops [(none, .mv 8 (.t 0)),
           (none, .mv 4 (.t 8))])
        (.ret))
       (.skip)))
     (.seq (.ops [(none, .mv 9 (.t 1)),
         (none, .mv 4 (.t 9))])
      (.ret)))⟩
def spec_l2Moved : AFn :=
  ⟨2, 41, [.tmp 4],
    .seq (.ops [(none, .box 2 (.t 0)),
       (none, .box 3 (.t 1)),
       (none, .mv 4 (.c .nil))])
    (.seq (.ops [(none, .buildSl 8 0 3 [] []),
        (none, .mv 5 (.t 8))])
     (.seq (.seq (.ops [(none, .mv 6 (.c (.I 0)))])
       (.block 0 (.loop (.seq (.seq (.ops [(none, .mv 9 (.t 6)),
              (none, .fieldAddr 10 (.t 2) 3),
              (none, .load1 11 (.t 10)),
              (none, .len 12 (.t 11)),
              (none, .bin 13 .lss (.t 9) (.t 12))])
           (.cond (.t 13) (.skip)
            (.exit 0)))
          (.seq (.block 1 (.seq (.ops [(none, .fieldAddr 16 (.t 2) 3),
                (none, .load1 17 (.t 16)),
                (none, .mv 18 (.t 6)),
                (none, .idxS 19 3 (.t 17) (.t 18)),
                (none, .loadN 20 3 (.t 19)),
                (none, .alloc 7 [(.I 0), (.I 0), (.I 0)]),
                (none, .store 3 (.t 7) (.t 20))])
             (.ops [(none, .mv 21 (.t 5)),
                (none, .idxA 22 3 1 (.t 7) (.c (.I 0))),
                (none, .load1 23 (.t 22)),
                (none, .idxA 24 3 1 (.t 3) (.c (.I 0))),
                (none, .load1 25 (.t 24)),
                (none, .bin 26 .add (.t 23) (.t 25)),
                (none, .idxA 27 3 1 (.t 7) (.c (.I 1))),
                (none, .load1 28 (.t 27)),
                (none, .idxA 29 3 1 (.t 3) (.c (.I 1))),
                (none, .load1 30 (.t 29)),
                (none, .bin 31 .add (.t 28) (.t 30)),
                (none, .idxA 32 3 1 (.t 7) (.c (.I 2))),
                (none, .load1 33 (.t 32)),
                (none, .idxA 34 3 1 (.t 3) (.c (.I 2))),
                (none, .load1 35 (.t 34)),
                (none, .bin 36 .add (.t 33) (.t 35)),
                (none, .build 37 [(.I 0), (.I 0), (.I 0)] [(0, 1, (.t 26)), (1, 1, (.t 31)), (2, 1, (.t 36))]),
                (none, .buildSl 38 1 3 [(.I 0), (.I 0), (.I 0)] [(0, 3, (.t 37))]),
                (none, .append 39 3 24 (.t 21) (.t 38)),
                (none, .mv 5 (.t 39))])))
           (.ops [(none, .mv 14 (.t 6)),
              (none, .bin 15 .add (.t 14) (.c (.I 1))),
              (none, .mv 6 (.t 15))]))))))
      (.seq (.ops [(none, .mv 40 (.t 5)),
          (none, .mv 4 (.t 40))])
       (.ret))))⟩
def spec_l2Cropped : AFn :=
  ⟨1, 86, [.cellN 2 4],
    .seq (.ops [(none, .box 1 (.t 0)),
       (none, .alloc 2 [(.I 0), (.I 0), (.I 0), .nil])])
    (.seq (.draw [⟨(none, .fieldAddr 8 (.t 1) 3), [], []⟩,
        ⟨(none, .load1 9 (.t 8)), [], []⟩,
        ⟨(none, .idxS 10 3 (.t 9) (.c (.I 0))), [], []⟩,
        ⟨(none, .loadN 11 3 (.t 10)), [], []⟩,
        ⟨(none, .fieldAddr 12 (.t 1) 3), [], []⟩,
        ⟨(none, .load1 13 (.t 12)), [], []⟩,
        ⟨(none, .idxS 14 3 (.t 13) (.c (.I 0))), [], []⟩,
        ⟨(none, .loadN 15 3 (.t 14)), [], []⟩,
        ⟨(none, .alloc 3 [(.I 0), (.I 0), (.I 0)]), [], []⟩,
        ⟨(none, .alloc 4 [(.I 0), (.I 0), (.I 0)]), [], []⟩,
        ⟨(none, .store 3 (.t 3) (.t 11)), [], [4, 5, 6, 7]⟩,
        ⟨(none, .store 3 (.t 4) (.t 15)), [], []⟩])
     (.seq (.seq (.ops [(none, .mv 5 (.c (.I 0)))])
       (.block 0 (.loop (.seq (.seq (.ops [(none, .mv 16 (.t 5)),
              (none, .fieldAddr 17 (.t 1) 3),
              (none, .load1 18 (.t 17)),
              (none, .len 19 (.t 18)),
              (none, .bin 20 .lss (.t 16) (.t 19))])
           (.cond (.t 20) (.skip)
            (.exit 0)))
          (.seq (.block 1 (.seq (.ops [(none, .mv 6 (.c (.I 0)))])
             (.block 2 (.loop (.seq (.seq (.ops [(none, .mv 23 (.t 6)),
                    (none, .bin 24 .lss (.t 23) (.c (.I 3)))])
                 (.cond (.t 24) (.skip)
                  (.exit 2)))
                (.seq (.block 3 (.seq (.draw [⟨(none, .mv 27 (.t 6)), [], []⟩,
                      ⟨(none, .mv 28 (.t 6)), [], []⟩,
                      ⟨(none, .idxA 29 3 1 (.t 3) (.t 28)), [], []⟩,
                      ⟨(none, .load1 30 (.t 29)), [], []⟩,
                      ⟨(none, .fieldAddr 31 (.t 1) 3), [], []⟩,
                      ⟨(none, .load1 32 (.t 31)), [], []⟩,
                      ⟨(none, .mv 33 (.t 5)), [], []⟩,
                      ⟨(none, .mv 34 (.t 6)), [], []⟩,
                      ⟨(none, .idxS 35 3 (.t 32) (.t 33)), [], []⟩,
                      ⟨(none, .idxA 36 3 1 (.t 35) (.t 34)), [], []⟩,
                      ⟨(none, .load1 37 (.t 36)), [], []⟩,
                      ⟨(none, .call (some 38) F.spec_l1Least [(.t 30), (.t 37)]), [], [0]⟩,
                      ⟨(none, .idxA 39 3 1 (.t 3) (.t 27)), [], []⟩,
                      ⟨(none, .store 1 (.t 39) (.t 38)), [], []⟩])
                   (.draw [⟨(none, .mv 40 (.t 6)), [], []⟩,
                      ⟨(none, .mv 41 (.t 6)), [], []⟩,
                      ⟨(none, .idxA 42 3 1 (.t 4) (.t 41)), [], []⟩,
                      ⟨(none, .load1 43 (.t 42)), [], []⟩,
                      ⟨(none, .fieldAddr 44 (.t 1) 3), [], []⟩,
                      ⟨(none, .load1 45 (.t 44)), [], []⟩,
                      ⟨(none, .mv 46 (.t 5)), [], []⟩,
                      ⟨(none, .mv 47 (.t 6)), [], []⟩,
                      ⟨(none, .idxS 48 3 (.t 45) (.t 46)), [], []⟩,
                      ⟨(none, .idxA 49 3 1 (.t 48) (.t 47)), [], []⟩,
                      ⟨(none, .load1 50 (.t 49)), [], []⟩,
                      ⟨(none, .call (some 51) F.spec_l1Most [(.t 43), (.t 50)]), [], [0]⟩,
                      ⟨(none, .idxA 52 3 1 (.t 4) (.t 40)), [], []⟩,
                      ⟨(none, .store 1 (.t 52) (.t 51)), [], []⟩])))
                 (.ops [(none, .mv 25 (.t 6)),
                    (none, .bin 26 .add (.t 25) (.c (.I 1))),
                    (none, .mv 6 (.t 26))])))))))
           (.ops [(none, .mv 21 (.t 5)),
              (none, .bin 22 .add (.t 21) (.c (.I 1))),
              (none, .mv 5 (.t 22))]))))))
      (.seq (.ops [(none, .idxA 53 3 1 (.t 4) (.c (.I 0))),
          (none, .load1 54 (.t 53)),
          (none, .idxA 55 3 1 (.t 3) (.c (.I 0))),
          (none, .load1 56 (.t 55)),
          (none, .bin 57 .sub (.t 54) (.t 56)),
          (none, .bin 58 .add (.t 57) (.c (.I 1))),
          (none, .idxA 59 3 1 (.t 4) (.c (.I 1))),
          (none, .load1 60 (.t 59)),
          (none, .idxA 61 3 1 (.t 3) (.c (.I 1))),
          (none, .load1 62 (.t 61)),
          (none, .bin 63 .sub (.t 60) (.t 62)),
          (none, .bin 64 .add (.t 63) (.c (.I 1))),
          (none, .idxA 65 3 1 (.t 4) (.c (.I 2))),
          (none, .load1 66 (.t 65)),
          (none, .idxA 67 3 1 (.t 3) (.c (.I 2))),
          (none, .load1 68 (.t 67)),
          (none, .bin 69 .sub (.t 66) (.t 68)),
          (none, .bin 70 .add (.t 69) (.c (.I 1))),
          (none, .call (some 71) F.spec_l2Empty [(.t 58), (.t 64), (.t 70)]),
          (none, .alloc 7 [(.I 0), (.I 0), (.I 0), .nil]),
          (none, .store 4 (.t 7) (.t 71))])
       (.seq (.ops [(none, .loadN 72 4 (.t 1)),
           (none, .idxA 73 3 1 (.t 3) (.c (.I 0))),
           (none, .load1 74 (.t 73)),
           (none, .un 75 .neg (.t 74)),
           (none, .idxA 76 3 1 (.t 3) (.c (.I 1))),
           (none, .load1 77 (.t 76)),
           (none, .un 78 .neg (.t 77)),
           (none, .idxA 79 3 1 (.t 3) (.c (.I 2))),
           (none, .load1 80 (.t 79)),
           (none, .un 81 .neg (.t 80)),
           (none, .build 82 [(.I 0), (.I 0), (.I 0)] [(0, 1, (.t 75)), (1, 1, (.t 78)), (2, 1, (.t 81))]),
           (none, .call (some 83) F.spec_l2Moved [(.t 72), (.t 82)]),
           (none, .fieldAddr 84 (.t 7) 3),
           (none, .store 1 (.t 84) (.t 83))])
        (.seq (.ops [(none, .loadN 85 4 (.t 7)),
            (none, .store 4 (.t 2) (.t 85))])
         (.ret))))))⟩
end Go.Ab.C

/- That the program has this code. -/
namespace Go.Ab.K
open Go Go.Ab
theorem spec_l1Least : prepF Go.Proofs.Try.prog F.spec_l1Least = some C.spec_l1Least := by kernel_rfl
theorem spec_l2Moved : prepF Go.Proofs.Try.prog F.spec_l2Moved = some C.spec_l2Moved := by kernel_rfl
theorem spec_l2Cropped : prepF Go.Proofs.Try.prog F.spec_l2Cropped = some C.spec_l2Cropped := by kernel_rfl
end Go.Ab.K

/- Contracts: the reference's least boxes. -/
namespace Go.Ab
open Go
set_option linter.unusedSimpArgs false
set_option linter.unusedVariables false

def Small (c : Cell) : Prop := (-100 ≤ c.a ∧ c.a ≤ 100) ∧ (-100 ≤ c.b ∧ c.b ≤ 100) ∧ (-100 ≤ c.c ∧ c.c ≤ 100)
def shift (p c : Cell) : Cell := ⟨c.a + p.a, c.b + p.b, c.c + p.c⟩
def loC (c d : Cell) : Cell := ⟨min c.a d.a, min c.b d.b, min c.c d.c⟩
def hiC (c d : Cell) : Cell := ⟨max c.a d.a, max c.b d.b, max c.c d.c⟩
def lowOf (cs : List Cell) : Cell := cs.foldl loC (cs.getD 0 default)
def highOf (cs : List Cell) : Cell := cs.foldl hiC (cs.getD 0 default)
def cropHp (cs : List Cell) : Hp := ⟨(highOf cs).a - (lowOf cs).a + 1, (highOf cs).b - (lowOf cs).b + 1, (highOf cs).c - (lowOf cs).c + 1, cs.map (shift ⟨0 - (lowOf cs).a, 0 - (lowOf cs).b, 0 - (lowOf cs).c⟩)⟩
/-- The first d coordinates of one cell, the others of another one. -/
def mixC (c e : Cell) (d : Nat) : Cell := ⟨if 0 < d then e.a else c.a, if 1 < d then e.b else c.b, if 2 < d then e.c else c.c⟩
theorem mixC_set {c e : Cell} {d : Nat} (hd : d < 3) : (mixC c e d).row.set d (.I (e.at d)) = (mixC c e (d + 1)).row := by
  rcases (show d = 0 ∨ d = 1 ∨ d = 2 by omega) with rfl | rfl | rfl <;> simp [mixC, Cell.row, Cell.at]
theorem mixC_at {c e : Cell} {d : Nat} (hd : d < 3) : (mixC c e d).at d = c.at d := by
  rcases (show d = 0 ∨ d = 1 ∨ d = 2 by omega) with rfl | rfl | rfl <;> simp [mixC, Cell.at]
theorem loC_at {c e : Cell} {d : Nat} (hd : d < 3) : (loC c e).at d = min (c.at d) (e.at d) := by
  rcases (show d = 0 ∨ d = 1 ∨ d = 2 by omega) with rfl | rfl | rfl <;> rfl
theorem hiC_at {c e : Cell} {d : Nat} (hd : d < 3) : (hiC c e).at d = max (c.at d) (e.at d) := by
  rcases (show d = 0 ∨ d = 1 ∨ d = 2 by omega) with rfl | rfl | rfl <;> rfl
theorem fold_small {f : Cell → Cell → Cell} (hf : ∀ c d, Small c → Small d → Small (f c d)) : ∀ {l : List Cell} {c : Cell}, Small c → (∀ d ∈ l, Small d) → Small (l.foldl f c)
  | [], _, h, _ => h
  | d :: l, c, h, hl => by rw [List.foldl_cons]; exact fold_small hf (hf c d h (hl d (by simp))) fun e he => hl e (by simp [he])
theorem loC_small (c d : Cell) (h : Small c) (k : Small d) : Small (loC c d) := by
  obtain ⟨⟨_, _⟩, ⟨_, _⟩, ⟨_, _⟩⟩ := h
  obtain ⟨⟨_, _⟩, ⟨_, _⟩, ⟨_, _⟩⟩ := k
  unfold loC Small; simp only; omega
theorem hiC_small (c d : Cell) (h : Small c) (k : Small d) : Small (hiC c d) := by
  obtain ⟨⟨_, _⟩, ⟨_, _⟩, ⟨_, _⟩⟩ := h
  obtain ⟨⟨_, _⟩, ⟨_, _⟩, ⟨_, _⟩⟩ := k
  unfold hiC Small; simp only; omega

theorem h_l1Least {a b : Int} {M : Mem} : CallsTo PG F.spec_l1Least [.I a, .I b] M (.I (min a b)) M := by
  refine calls_run K.spec_l1Least rfl ?_
  simp (disch := omega) only [C.spec_l1Least, ↓SXd, SXu, slBounds, ↓sop, ↓aop, ↓reduceIte, LV.cells, AOp.dst, LV.I, LV.B, LV.U, LV.S, LV.nil, Nat.reduceEqDiff, Nat.reduceAdd, Nat.reduceMul, Nat.reduceSub, Nat.reduceLeDiff, Nat.reduceBEq, Nat.reduceDiv, Nat.reduceMod, Int.reduceToNat, Int.reduceLT, Int.reduceLE, Int.reduceAdd, Int.reduceSub, Int.reduceMul, Int.reduceEq, Int.reduceNeg, reduceCtorEq, resV, resAll, ARes.ev, LV.flat, ite_true, ite_false, exists_eq_left', exists_eq_left, keyOf, implies_true, fillC, capOf]
  refine condC_dec (fun h => ?_) (fun h => ?_)
  all_goals
    simp (disch := omega) only [↓SXd, SXu, slBounds, ↓sop, ↓aop, ↓reduceIte, LV.cells, AOp.dst, LV.I, LV.B, LV.U, LV.S, LV.nil, Nat.reduceEqDiff, Nat.reduceAdd, Nat.reduceMul, Nat.reduceSub, Nat.reduceLeDiff, Nat.reduceBEq, Nat.reduceDiv, Nat.reduceMod, Int.reduceToNat, Int.reduceLT, Int.reduceLE, Int.reduceAdd, Int.reduceSub, Int.reduceMul, Int.reduceEq, Int.reduceNeg, reduceCtorEq, resV, resAll, ARes.ev, LV.flat, ite_true, ite_false, exists_eq_left', exists_eq_left, keyOf, implies_true, fillC, capOf]
  · rw [show min a b = a by omega]; exact cmp_drop0 rfl
  · rw [show min a b = b by omega]; exact cmp_drop0 rfl

theorem appendK_cellL {M L : Mem} {t : Nat} {acc : List Cell} {x y z : Int} {A : LV → Mem → Prop} (ht : Live (M ++ L) t (.row (triL acc) true 3)) (hl : acc.length ≤ 1000000000)
    (hA : ∀ M', M'.length = M.length + L.length + 2 → Live M' (M.length + L.length + 1) (.row (triL (acc ++ [⟨x, y, z⟩])) true 3) → (∀ u, u ≠ t → u < M.length + L.length → M'[u]? = (M ++ L)[u]?) → A (.ref (M.length + L.length + 1) 0 (acc ++ [(⟨x, y, z⟩ : Cell)]).length) M') :
    appendK 3 24 (.ref t 0 acc.length) (.ref (M.length + L.length) 0 1) (M ++ (L ++ [some (.row [LV.val (.int .i64 x), LV.val (.int .i64 y), LV.val (.int .i64 z)] true 3)])) A := by
  rw [← List.append_assoc, ← List.length_append]
  refine appendK_cell ht hl ?_
  rw [List.length_append]
  exact hA

theorem h_l2Moved {x y z : Int} {p : Cell} {t o : Nat} {cs : List Cell} {M : Mem} (h : Tri M t o cs) (hn : cs.length ≤ 1000000) (hp : Small p) (hc : ∀ c ∈ cs, Small c) :
    CallsTo PG F.spec_l2Moved [.agg [.I x, .I y, .I z, .ref t o cs.length], .agg [.I p.a, .I p.b, .I p.c]] M (.ref M.length 0 (cs.map (shift p)).length) (M ++ [some (.row (triL (cs.map (shift p))) true 3)]) := by
  obtain ⟨⟨_, _⟩, ⟨_, _⟩, ⟨_, _⟩⟩ := hp
  have ht := h.lt
  refine calls_run K.spec_l2Moved rfl ?_
  simp (disch := omega) only [C.spec_l2Moved, ↓SXd, SXu, slBounds, ↓sop, ↓aop, ↓reduceIte, LV.cells, AOp.dst, LV.I, LV.B, LV.U, LV.S, LV.nil, Nat.reduceEqDiff, Nat.reduceAdd, Nat.reduceMul, Nat.reduceSub, Nat.reduceLeDiff, Nat.reduceBEq, Nat.reduceDiv, Nat.reduceMod, Int.reduceToNat, Int.reduceLT, Int.reduceLE, Int.reduceAdd, Int.reduceSub, Int.reduceMul, Int.reduceEq, Int.reduceNeg, reduceCtorEq, resV, resAll, ARes.ev, LV.flat, ite_true, ite_false, exists_eq_left', exists_eq_left, keyOf, implies_true, fillC, capOf]
  refine ev_loop (fun m fr M' => ∃ i u : Nat, i + m = cs.length ∧ Pre M M' ∧ Live M' M.length (.row [.I x, .I y, .I z, .ref t o cs.length] true 0) ∧ Live M' (M.length + 1) (.row [.I p.a, .I p.b, .I p.c] true 0) ∧ Live M' u (.row (triL ((cs.map (shift p)).take i)) true 3) ∧ M.length + 2 ≤ u ∧
    fr 2 = .ptr M.length 0 ∧ fr 3 = .ptr (M.length + 1) 0 ∧ fr 5 = .ref u 0 ((cs.map (shift p)).take i).length ∧ fr 6 = .I i) cs.length
    ⟨0, M.length + 2, by omega, Pre.app _ _, Live.new, Live.newj rfl, Live.newj rfl, by omega, rfl, rfl, rfl, rfl⟩ ?_
  rintro m fr M' ⟨i, u, hi, hpre, b2, b3, bu, hu, f2, f3, f5, f6⟩
  simp (disch := omega) only [f2, f3, f5, f6, b2.cell, ↓SXd, SXu, slBounds, ↓sop, ↓aop, ↓reduceIte, LV.cells, AOp.dst, LV.I, LV.B, LV.U, LV.S, LV.nil, Nat.reduceEqDiff, Nat.reduceAdd, Nat.reduceMul, Nat.reduceSub, Nat.reduceLeDiff, Nat.reduceBEq, Nat.reduceDiv, Nat.reduceMod, Int.reduceToNat, Int.reduceLT, Int.reduceLE, Int.reduceAdd, Int.reduceSub, Int.reduceMul, Int.reduceEq, Int.reduceNeg, reduceCtorEq, resV, resAll, ARes.ev, LV.flat, ite_true, ite_false, exists_eq_left', exists_eq_left, keyOf, implies_true, fillC, capOf]
  refine condC_dec (fun hlt => ?_) (fun hlt => ?_)
  · have hil : i < cs.length := by omega
    have hg := Tri.get (h.pre hpre) hil
    have hcc := hc _ (getD_mem' (d := default) hil)
    have hts : (cs.map (shift p)).take (i + 1) = (cs.map (shift p)).take i ++ [shift p (cs.getD i default)] := by
      rw [List.take_succ, List.getElem?_eq_getElem (by simpa using hil)]; simp [hil]
    have htl := List.length_take_le i (cs.map (shift p))
    have hml : (cs.map (shift p)).length = cs.length := List.length_map ..
    generalize cs.getD i default = c at hg hts hcc
    obtain ⟨⟨_, _⟩, ⟨_, _⟩, ⟨_, _⟩⟩ := hcc
    have hl3 := b3.lt
    have hlu := bu.lt
    simp (disch := omega) only [f2, f3, f5, f6, b2.cell, hg, Cell.row, splice, b3.app.cell, ↓SXd, SXu, slBounds, ↓sop, ↓aop, ↓reduceIte, LV.cells, AOp.dst, LV.I, LV.B, LV.U, LV.S, LV.nil, Nat.reduceEqDiff, Nat.reduceAdd, Nat.reduceMul, Nat.reduceSub, Nat.reduceLeDiff, Nat.reduceBEq, Nat.reduceDiv, Nat.reduceMod, Int.reduceToNat, Int.reduceLT, Int.reduceLE, Int.reduceAdd, Int.reduceSub, Int.reduceMul, Int.reduceEq, Int.reduceNeg, reduceCtorEq, resV, resAll, ARes.ev, LV.flat, ite_true, ite_false, exists_eq_left', exists_eq_left, keyOf, implies_true, fillC, capOf]
    refine appendK_cellL (L := [some (.row [.I c.a, .I c.b, .I c.c] true 0)]) bu.app (by omega) fun N' l1 l2 l3 => ?_
    rw [List.length_singleton] at l1 l2 l3
    rw [show (⟨c.a + p.a, c.b + p.b, c.c + p.c⟩ : Cell) = shift p c from rfl, ← hts] at l2 ⊢
    rw [List.length_singleton]
    simp (disch := omega) only [f2, f3, f5, f6, ↓SXd, SXu, slBounds, ↓sop, ↓aop, ↓reduceIte, LV.cells, AOp.dst, LV.I, LV.B, LV.U, LV.S, LV.nil, Nat.reduceEqDiff, Nat.reduceAdd, Nat.reduceMul, Nat.reduceSub, Nat.reduceLeDiff, Nat.reduceBEq, Nat.reduceDiv, Nat.reduceMod, Int.reduceToNat, Int.reduceLT, Int.reduceLE, Int.reduceAdd, Int.reduceSub, Int.reduceMul, Int.reduceEq, Int.reduceNeg, reduceCtorEq, resV, resAll, ARes.ev, LV.flat, ite_true, ite_false, exists_eq_left', exists_eq_left, keyOf, implies_true, fillC, capOf]
    have hk3 : ∀ v, v ≠ u → v < (M' ++ [some (Blk.row [.I c.a, .I c.b, .I c.c] true 0)]).length → N'[v]? = (M' ++ [some (Blk.row [.I c.a, .I c.b, .I c.c] true 0)])[v]? := by rw [List.length_append, List.length_singleton]; exact l3
    have hk1 : N'.length = (M' ++ [some (Blk.row [.I c.a, .I c.b, .I c.c] true 0)]).length + 2 := by rw [List.length_append, List.length_singleton]; exact l1
    exact ⟨m - 1, by omega, i + 1, M'.length + 1 + 1, by omega, pre_step (hpre.trans (Pre.app _ _)) (by omega) hk1 hk3, live_step b2.app (by omega) hk3, live_step b3.app (by omega) hk3, l2, by omega, f2, f3, rfl, eqI (natI _)⟩
  · simp (disch := omega) only [f2, f3, f5, f6, ↓SXd, SXu, slBounds, ↓sop, ↓aop, ↓reduceIte, LV.cells, AOp.dst, LV.I, LV.B, LV.U, LV.S, LV.nil, Nat.reduceEqDiff, Nat.reduceAdd, Nat.reduceMul, Nat.reduceSub, Nat.reduceLeDiff, Nat.reduceBEq, Nat.reduceDiv, Nat.reduceMod, Int.reduceToNat, Int.reduceLT, Int.reduceLE, Int.reduceAdd, Int.reduceSub, Int.reduceMul, Int.reduceEq, Int.reduceNeg, reduceCtorEq, resV, resAll, ARes.ev, LV.flat, ite_true, ite_false, exists_eq_left', exists_eq_left, keyOf, implies_true, fillC, capOf]
    have : i = cs.length := by omega
    subst this
    rw [show (cs.map (shift p)).take cs.length = cs.map (shift p) from List.take_of_length_le (by simp)] at *
    exact cmp_keepL hpre (by omega) bu (triL_lo _) (by simp [rn, rn0, rn1])

theorem h_l2Cropped {x y z : Int} {t o : Nat} {cs : List Cell} {M : Mem} (h : Tri M t o cs) (hn : cs.length ≤ 1000000) (h0 : 0 < cs.length) (hc : ∀ c ∈ cs, Small c) :
    CallsTo PG F.spec_l2Cropped [.agg [.I x, .I y, .I z, .ref t o cs.length]] M (.agg [.I (cropHp cs).x, .I (cropHp cs).y, .I (cropHp cs).z, .ref M.length 0 (cropHp cs).cs.length]) (M ++ [some (.row (triL (cropHp cs).cs) true 3)]) := by
  have ht := h.lt
  have hg0 := Tri.get h (k := 0) h0
  refine calls_run K.spec_l2Cropped rfl ?_
  rw [Nat.zero_mul, Nat.add_zero] at hg0
  simp (disch := omega) only [C.spec_l2Cropped, h0, (getCells_app ht), hg0, Nat.zero_mul, Nat.add_zero, Cell.row, splice, List.getElem?_append_left, ↓SXd, SXu, slBounds, ↓sop, ↓aop, ↓reduceIte, LV.cells, AOp.dst, LV.I, LV.B, LV.U, LV.S, LV.nil, Nat.reduceEqDiff, Nat.reduceAdd, Nat.reduceMul, Nat.reduceSub, Nat.reduceLeDiff, Nat.reduceBEq, Nat.reduceDiv, Nat.reduceMod, Int.reduceToNat, Int.reduceLT, Int.reduceLE, Int.reduceAdd, Int.reduceSub, Int.reduceMul, Int.reduceEq, Int.reduceNeg, reduceCtorEq, resV, resAll, ARes.ev, LV.flat, ite_true, ite_false, exists_eq_left', exists_eq_left, keyOf, implies_true, fillC, capOf]
  have hsm : ∀ i, Small ((cs.take i).foldl loC (cs.getD 0 default)) ∧ Small ((cs.take i).foldl hiC (cs.getD 0 default)) := fun i => by
    have h1 := hc _ (getD_mem' (d := default) h0)
    exact ⟨fold_small loC_small h1 fun d hd => hc d (List.mem_of_mem_take hd), fold_small hiC_small h1 fun d hd => hc d (List.mem_of_mem_take hd)⟩
  have hstep : ∀ i, i < cs.length → (cs.take (i + 1)).foldl loC (cs.getD 0 default) = loC ((cs.take i).foldl loC (cs.getD 0 default)) (cs.getD i default) ∧ (cs.take (i + 1)).foldl hiC (cs.getD 0 default) = hiC ((cs.take i).foldl hiC (cs.getD 0 default)) (cs.getD i default) := fun i hi => by
    have e : cs.getD i default = cs[i] := by simp [hi]
    rw [e, List.take_succ, List.getElem?_eq_getElem hi, Option.toList_some, List.foldl_append, List.foldl_append]
    exact ⟨rfl, rfl⟩
  refine ev_loop (fun m fr M' => ∃ i : Nat, i + m = cs.length ∧ Pre M M' ∧ Live M' M.length (.row [.I x, .I y, .I z, .ref t o cs.length] true 0) ∧ Live M' (M.length + 1) (.row [.I 0, .I 0, .I 0, .nil] true 0) ∧
    Live M' (M.length + 2) (.row ((cs.take i).foldl loC (cs.getD 0 default)).row true 0) ∧ Live M' (M.length + 3) (.row ((cs.take i).foldl hiC (cs.getD 0 default)).row true 0) ∧
    fr 1 = .ptr M.length 0 ∧ fr 2 = .ptr (M.length + 1) 0 ∧ fr 3 = .ptr (M.length + 2) 0 ∧ fr 4 = .ptr (M.length + 3) 0 ∧ fr 5 = .I i) cs.length
    ⟨0, by omega, Pre.app _ _, Live.new, Live.newj rfl, Live.newj rfl, Live.newj rfl, rfl, rfl, rfl, rfl, rfl⟩ ?_
  rintro m fr M' ⟨i, hi, hpre, b1, b2, b3, b4, f1, f2, f3, f4, f5⟩
  have hlM := b4.lt
  simp (disch := omega) only [f1, f2, f3, f4, f5, b1.cell, ↓SXd, SXu, slBounds, ↓sop, ↓aop, ↓reduceIte, LV.cells, AOp.dst, LV.I, LV.B, LV.U, LV.S, LV.nil, Nat.reduceEqDiff, Nat.reduceAdd, Nat.reduceMul, Nat.reduceSub, Nat.reduceLeDiff, Nat.reduceBEq, Nat.reduceDiv, Nat.reduceMod, Int.reduceToNat, Int.reduceLT, Int.reduceLE, Int.reduceAdd, Int.reduceSub, Int.reduceMul, Int.reduceEq, Int.reduceNeg, reduceCtorEq, resV, resAll, ARes.ev, LV.flat, ite_true, ite_false, exists_eq_left', exists_eq_left, keyOf, implies_true, fillC, capOf]
  refine condC_dec (fun hlt => ?_) (fun hlt => ?_)
  · have hil : i < cs.length := by omega
    simp (disch := omega) only [f1, f2, f3, f4, f5, ↓SXd, SXu, slBounds, ↓sop, ↓aop, ↓reduceIte, LV.cells, AOp.dst, LV.I, LV.B, LV.U, LV.S, LV.nil, Nat.reduceEqDiff, Nat.reduceAdd, Nat.reduceMul, Nat.reduceSub, Nat.reduceLeDiff, Nat.reduceBEq, Nat.reduceDiv, Nat.reduceMod, Int.reduceToNat, Int.reduceLT, Int.reduceLE, Int.reduceAdd, Int.reduceSub, Int.reduceMul, Int.reduceEq, Int.reduceNeg, reduceCtorEq, resV, resAll, ARes.ev, LV.flat, ite_true, ite_false, exists_eq_left', exists_eq_left, keyOf, implies_true, fillC, capOf]
    refine ev_loop (fun m2 fr N => ∃ d : Nat, d + m2 = 3 ∧ Pre M N ∧ Live N M.length (.row [.I x, .I y, .I z, .ref t o cs.length] true 0) ∧ Live N (M.length + 1) (.row [.I 0, .I 0, .I 0, .nil] true 0) ∧
      Live N (M.length + 2) (.row (mixC ((cs.take i).foldl loC (cs.getD 0 default)) ((cs.take (i + 1)).foldl loC (cs.getD 0 default)) d).row true 0) ∧ Live N (M.length + 3) (.row (mixC ((cs.take i).foldl hiC (cs.getD 0 default)) ((cs.take (i + 1)).foldl hiC (cs.getD 0 default)) d).row true 0) ∧
      fr 1 = .ptr M.length 0 ∧ fr 2 = .ptr (M.length + 1) 0 ∧ fr 3 = .ptr (M.length + 2) 0 ∧ fr 4 = .ptr (M.length + 3) 0 ∧ fr 5 = .I i ∧ fr 6 = .I d) 3
      ⟨0, rfl, hpre, b1, b2, b3, b4, f1, f2, f3, f4, f5, rfl⟩ ?_
    clear f1 f2 f3 f4 f5 hpre b1 b2 b3 b4 hlM
    rintro m2 fr N ⟨d, hd, hpre, b1, b2, b3, b4, f1, f2, f3, f4, f5, f6⟩
    have hlM := b4.lt
    obtain ⟨s1, s2⟩ := hstep i hil
    simp (disch := omega) only [f1, f2, f3, f4, f5, f6, ↓SXd, SXu, slBounds, ↓sop, ↓aop, ↓reduceIte, LV.cells, AOp.dst, LV.I, LV.B, LV.U, LV.S, LV.nil, Nat.reduceEqDiff, Nat.reduceAdd, Nat.reduceMul, Nat.reduceSub, Nat.reduceLeDiff, Nat.reduceBEq, Nat.reduceDiv, Nat.reduceMod, Int.reduceToNat, Int.reduceLT, Int.reduceLE, Int.reduceAdd, Int.reduceSub, Int.reduceMul, Int.reduceEq, Int.reduceNeg, reduceCtorEq, resV, resAll, ARes.ev, LV.flat, ite_true, ite_false, exists_eq_left', exists_eq_left, keyOf, implies_true, fillC, capOf]
    refine condC_dec (fun hlt2 => ?_) (fun hlt2 => ?_)
    · have hd3 : d < 3 := by omega
      have hdd : Dir (d : Int) := by unfold Dir; omega
      have hTri := h.pre hpre
      have g1 := Tri.gets_at hTri hil hdd
      rw [Int.toNat_natCast] at g1
      have e3 := b3.cell (o := d)
      have e4 := b4.cell (o := d)
      rw [Cell.row_at hd3, mixC_at hd3] at e3 e4
      simp (disch := omega) only [f1, f2, f3, f4, f5, f6, b1.cell, g1, e3, Nat.mul_one, Nat.zero_add, ↓SXd, SXu, slBounds, ↓sop, ↓aop, ↓reduceIte, LV.cells, AOp.dst, LV.I, LV.B, LV.U, LV.S, LV.nil, Nat.reduceEqDiff, Nat.reduceAdd, Nat.reduceMul, Nat.reduceSub, Nat.reduceLeDiff, Nat.reduceBEq, Nat.reduceDiv, Nat.reduceMod, Int.reduceToNat, Int.reduceLT, Int.reduceLE, Int.reduceAdd, Int.reduceSub, Int.reduceMul, Int.reduceEq, Int.reduceNeg, reduceCtorEq, resV, resAll, ARes.ev, LV.flat, ite_true, ite_false, exists_eq_left', exists_eq_left, keyOf, implies_true, fillC, capOf]
      refine callK_of (h_l1Least) ?_
      simp (disch := omega) only [f1, f2, f3, f4, f5, f6, Nat.mul_one, Nat.zero_add, ↓SXd, SXu, slBounds, ↓sop, ↓aop, ↓reduceIte, LV.cells, AOp.dst, LV.I, LV.B, LV.U, LV.S, LV.nil, Nat.reduceEqDiff, Nat.reduceAdd, Nat.reduceMul, Nat.reduceSub, Nat.reduceLeDiff, Nat.reduceBEq, Nat.reduceDiv, Nat.reduceMod, Int.reduceToNat, Int.reduceLT, Int.reduceLE, Int.reduceAdd, Int.reduceSub, Int.reduceMul, Int.reduceEq, Int.reduceNeg, reduceCtorEq, resV, resAll, ARes.ev, LV.flat, ite_true, ite_false, exists_eq_left', exists_eq_left, keyOf, implies_true, fillC, capOf]
      refine memK_at b3 hd3 fun N1 k1 k2 k3 => ?_
      have c1 := live_step b1 (by omega) k3
      have c2 := live_step b2 (by omega) k3
      have c4 := live_step b4 (by omega) k3
      have hp1 := pre_step hpre (by omega) (j := 0) k1 k3
      have e4 := c4.cell (o := d)
      rw [Cell.row_at hd3, mixC_at hd3] at e4
      have g1 := Tri.gets_at (h.pre hp1) hil hdd
      rw [Int.toNat_natCast] at g1
      simp (disch := omega) only [f1, f2, f3, f4, f5, f6, c1.cell, g1, e4, Nat.mul_one, Nat.zero_add, ↓SXd, SXu, slBounds, ↓sop, ↓aop, ↓reduceIte, LV.cells, AOp.dst, LV.I, LV.B, LV.U, LV.S, LV.nil, Nat.reduceEqDiff, Nat.reduceAdd, Nat.reduceMul, Nat.reduceSub, Nat.reduceLeDiff, Nat.reduceBEq, Nat.reduceDiv, Nat.reduceMod, Int.reduceToNat, Int.reduceLT, Int.reduceLE, Int.reduceAdd, Int.reduceSub, Int.reduceMul, Int.reduceEq, Int.reduceNeg, reduceCtorEq, resV, resAll, ARes.ev, LV.flat, ite_true, ite_false, exists_eq_left', exists_eq_left, keyOf, implies_true, fillC, capOf]
      refine callK_of (h_l1Most) ?_
      simp (disch := omega) only [f1, f2, f3, f4, f5, f6, Nat.mul_one, Nat.zero_add, ↓SXd, SXu, slBounds, ↓sop, ↓aop, ↓reduceIte, LV.cells, AOp.dst, LV.I, LV.B, LV.U, LV.S, LV.nil, Nat.reduceEqDiff, Nat.reduceAdd, Nat.reduceMul, Nat.reduceSub, Nat.reduceLeDiff, Nat.reduceBEq, Nat.reduceDiv, Nat.reduceMod, Int.reduceToNat, Int.reduceLT, Int.reduceLE, Int.reduceAdd, Int.reduceSub, Int.reduceMul, Int.reduceEq, Int.reduceNeg, reduceCtorEq, resV, resAll, ARes.ev, LV.flat, ite_true, ite_false, exists_eq_left', exists_eq_left, keyOf, implies_true, fillC, capOf]
      refine memK_at c4 hd3 fun N2 l1 l2 l3 => ?_
      simp (disch := omega) only [f1, f2, f3, f4, f5, f6, ↓SXd, SXu, slBounds, ↓sop, ↓aop, ↓reduceIte, LV.cells, AOp.dst, LV.I, LV.B, LV.U, LV.S, LV.nil, Nat.reduceEqDiff, Nat.reduceAdd, Nat.reduceMul, Nat.reduceSub, Nat.reduceLeDiff, Nat.reduceBEq, Nat.reduceDiv, Nat.reduceMod, Int.reduceToNat, Int.reduceLT, Int.reduceLE, Int.reduceAdd, Int.reduceSub, Int.reduceMul, Int.reduceEq, Int.reduceNeg, reduceCtorEq, resV, resAll, ARes.ev, LV.flat, ite_true, ite_false, exists_eq_left', exists_eq_left, keyOf, implies_true, fillC, capOf]
      have hk : ∀ f : Cell → Cell → Cell, f = f := fun _ => rfl
      refine ⟨m2 - 1, by omega, d + 1, by omega, pre_step hp1 (by omega) (j := 0) l1 l3, live_step c1 (by omega) l3, live_step c2 (by omega) l3, live_step (t := M.length + 3) (u := M.length + 2) ?_ (by omega) l3, ?_, f1, f2, f3, f4, f5, eqI (natI _)⟩
      · rw [← mixC_set hd3, s1, loC_at hd3, ← s1]; exact k2
      · rw [← mixC_set hd3, s2, hiC_at hd3, ← s2]; exact l2
    · simp (disch := omega) only [f1, f2, f3, f4, f5, f6, ↓SXd, SXu, slBounds, ↓sop, ↓aop, ↓reduceIte, LV.cells, AOp.dst, LV.I, LV.B, LV.U, LV.S, LV.nil, Nat.reduceEqDiff, Nat.reduceAdd, Nat.reduceMul, Nat.reduceSub, Nat.reduceLeDiff, Nat.reduceBEq, Nat.reduceDiv, Nat.reduceMod, Int.reduceToNat, Int.reduceLT, Int.reduceLE, Int.reduceAdd, Int.reduceSub, Int.reduceMul, Int.reduceEq, Int.reduceNeg, reduceCtorEq, resV, resAll, ARes.ev, LV.flat, ite_true, ite_false, exists_eq_left', exists_eq_left, keyOf, implies_true, fillC, capOf]
      have : d = 3 := by omega
      subst this
      exact ⟨m - 1, by omega, i + 1, by omega, hpre, b1, b2, b3, b4, f1, f2, f3, f4, eqI (natI _)⟩
  · have : i = cs.length := by omega
    subst this
    rw [List.take_length] at b3 b4
    have hsm := hsm cs.length
    rw [List.take_length] at hsm
    change Live M' (M.length + 2) (.row (lowOf cs).row true 0) at b3
    change Live M' (M.length + 3) (.row (highOf cs).row true 0) at b4
    change Small (lowOf cs) ∧ Small (highOf cs) at hsm
    have hX : (cropHp cs).x = (highOf cs).a - (lowOf cs).a + 1 := rfl
    have hY : (cropHp cs).y = (highOf cs).b - (lowOf cs).b + 1 := rfl
    have hZ : (cropHp cs).z = (highOf cs).c - (lowOf cs).c + 1 := rfl
    have hC : (cropHp cs).cs = cs.map (shift ⟨0 - (lowOf cs).a, 0 - (lowOf cs).b, 0 - (lowOf cs).c⟩) := rfl
    rw [hX, hY, hZ, hC]
    generalize lowOf cs = lo at *
    generalize highOf cs = hi at *
    obtain ⟨⟨⟨_, _⟩, ⟨_, _⟩, ⟨_, _⟩⟩, ⟨⟨_, _⟩, ⟨_, _⟩, ⟨_, _⟩⟩⟩ := hsm
    simp (disch := omega) only [f1, f2, f3, f4, f5, b3.cell, b4.cell, Cell.row, ↓SXd, SXu, slBounds, ↓sop, ↓aop, ↓reduceIte, LV.cells, AOp.dst, LV.I, LV.B, LV.U, LV.S, LV.nil, Nat.reduceEqDiff, Nat.reduceAdd, Nat.reduceMul, Nat.reduceSub, Nat.reduceLeDiff, Nat.reduceBEq, Nat.reduceDiv, Nat.reduceMod, Int.reduceToNat, Int.reduceLT, Int.reduceLE, Int.reduceAdd, Int.reduceSub, Int.reduceMul, Int.reduceEq, Int.reduceNeg, reduceCtorEq, resV, resAll, ARes.ev, LV.flat, ite_true, ite_false, exists_eq_left', exists_eq_left, keyOf, implies_true, fillC, capOf]
    refine callK_of (h_l2Empty) ?_
    simp (disch := omega) only [f1, f2, f3, f4, f5, splice, b1.app.cells, b3.app.cell, Cell.row, ↓SXd, SXu, slBounds, ↓sop, ↓aop, ↓reduceIte, LV.cells, AOp.dst, LV.I, LV.B, LV.U, LV.S, LV.nil, Nat.reduceEqDiff, Nat.reduceAdd, Nat.reduceMul, Nat.reduceSub, Nat.reduceLeDiff, Nat.reduceBEq, Nat.reduceDiv, Nat.reduceMod, Int.reduceToNat, Int.reduceLT, Int.reduceLE, Int.reduceAdd, Int.reduceSub, Int.reduceMul, Int.reduceEq, Int.reduceNeg, reduceCtorEq, resV, resAll, ARes.ev, LV.flat, ite_true, ite_false, exists_eq_left', exists_eq_left, keyOf, implies_true, fillC, capOf]
    refine callK_of (h_l2Moved (p := ⟨0 - lo.a, 0 - lo.b, 0 - lo.c⟩) (h.pre (hpre.trans (Pre.app _ _))) hn ⟨⟨by simp only; omega, by simp only; omega⟩, ⟨by simp only; omega, by simp only; omega⟩, ⟨by simp only; omega, by simp only; omega⟩⟩ hc) ?_
    simp (disch := omega) only [f1, f2, f3, f4, f5, splice, ↓SXd, SXu, slBounds, ↓sop, ↓aop, ↓reduceIte, LV.cells, AOp.dst, LV.I, LV.B, LV.U, LV.S, LV.nil, Nat.reduceEqDiff, Nat.reduceAdd, Nat.reduceMul, Nat.reduceSub, Nat.reduceLeDiff, Nat.reduceBEq, Nat.reduceDiv, Nat.reduceMod, Int.reduceToNat, Int.reduceLT, Int.reduceLE, Int.reduceAdd, Int.reduceSub, Int.reduceMul, Int.reduceEq, Int.reduceNeg, reduceCtorEq, resV, resAll, ARes.ev, LV.flat, ite_true, ite_false, exists_eq_left', exists_eq_left, keyOf, implies_true, fillC, capOf]
    refine memK_box b2.app (by simp) fun N3 k1 k2 k3 => ?_
    simp (disch := omega) only [f1, f2, f3, f4, f5, k2.cells, ↓SXd, SXu, slBounds, ↓sop, ↓aop, ↓reduceIte, LV.cells, AOp.dst, LV.I, LV.B, LV.U, LV.S, LV.nil, Nat.reduceEqDiff, Nat.reduceAdd, Nat.reduceMul, Nat.reduceSub, Nat.reduceLeDiff, Nat.reduceBEq, Nat.reduceDiv, Nat.reduceMod, Int.reduceToNat, Int.reduceLT, Int.reduceLE, Int.reduceAdd, Int.reduceSub, Int.reduceMul, Int.reduceEq, Int.reduceNeg, reduceCtorEq, resV, resAll, ARes.ev, LV.flat, ite_true, ite_false, exists_eq_left', exists_eq_left, keyOf, implies_true, fillC, capOf]
    have hml := hlM
    refine cmp_keepL (pre_step (hpre.trans (Pre.app _ _)) (by omega) (j := 0) k1 k3) (t := M'.length + 2) (by omega) (live_step (Live.newj (j := 2) rfl) (by omega) k3) (triL_lo _) (by simp [rn, rn0, rn1])
end Go.Ab

/- Contracts: lists of numbers that are the same; shadows of heaps, the reference's side. -/
namespace Go.Ab
open Go
set_option linter.unusedSimpArgs false
set_option linter.unusedVariables false

theorem h_l1Same {l m : List Int} {t o t' o' : Nat} {M : Mem} (hg : Ints M t o l) (hh : Ints M t' o' m) (hn : l.length ≤ 1000000000) (hn' : m.length ≤ 1000000000) :
    CallsTo PG F.spec_l1Same [.ref t o l.length, .ref t' o' m.length] M (.B (decide (l = m))) M := by
  refine calls_run K.spec_l1Same rfl ?_
  simp (disch := omega) only [C.spec_l1Same, ↓SXd, SXu, slBounds, ↓sop, ↓aop, ↓reduceIte, LV.cells, AOp.dst, LV.I, LV.B, LV.U, LV.S, LV.nil, Nat.reduceEqDiff, Nat.reduceAdd, Nat.reduceMul, Nat.reduceSub, Nat.reduceLeDiff, Nat.reduceBEq, Nat.reduceDiv, Nat.reduceMod, Int.reduceToNat, Int.reduceLT, Int.reduceLE, Int.reduceAdd, Int.reduceSub, Int.reduceMul, Int.reduceEq, Int.reduceNeg, reduceCtorEq, resV, resAll, ARes.ev, LV.flat, ite_true, ite_false, exists_eq_left', exists_eq_left, keyOf, implies_true, fillC, capOf]
  by_cases hl : (l.length : Int) = m.length
  · simp (disch := omega) only [hl, ↓SXd, SXu, slBounds, ↓sop, ↓aop, ↓reduceIte, LV.cells, AOp.dst, LV.I, LV.B, LV.U, LV.S, LV.nil, Nat.reduceEqDiff, Nat.reduceAdd, Nat.reduceMul, Nat.reduceSub, Nat.reduceLeDiff, Nat.reduceBEq, Nat.reduceDiv, Nat.reduceMod, Int.reduceToNat, Int.reduceLT, Int.reduceLE, Int.reduceAdd, Int.reduceSub, Int.reduceMul, Int.reduceEq, Int.reduceNeg, reduceCtorEq, resV, resAll, ARes.ev, LV.flat, ite_true, ite_false, exists_eq_left', exists_eq_left, keyOf, implies_true, fillC, capOf]
    have hl' : l.length = m.length := by omega
    refine ev_loop (fun n fr M' => ∃ k : Nat, k + n = l.length ∧ M' = M ∧ (∀ j, j < k → l.getD j 0 = m.getD j 0) ∧ fr 0 = .ref t o l.length ∧ fr 1 = .ref t' o' m.length ∧ fr 5 = .I k) l.length
      ⟨0, by omega, rfl, by omega, rfl, rfl, rfl⟩ ?_
    rintro n fr M' ⟨k, hk, rfl, hj, f0, f1, f5⟩
    simp (disch := omega) only [f0, f1, f5, ↓SXd, SXu, slBounds, ↓sop, ↓aop, ↓reduceIte, LV.cells, AOp.dst, LV.I, LV.B, LV.U, LV.S, LV.nil, Nat.reduceEqDiff, Nat.reduceAdd, Nat.reduceMul, Nat.reduceSub, Nat.reduceLeDiff, Nat.reduceBEq, Nat.reduceDiv, Nat.reduceMod, Int.reduceToNat, Int.reduceLT, Int.reduceLE, Int.reduceAdd, Int.reduceSub, Int.reduceMul, Int.reduceEq, Int.reduceNeg, reduceCtorEq, resV, resAll, ARes.ev, LV.flat, ite_true, ite_false, exists_eq_left', exists_eq_left, keyOf, implies_true, fillC, capOf]
    refine condC_dec (fun h1 => ?_) (fun h1 => ?_)
    · have hk1 : k < l.length := by omega
      have g1 := Ints.get hg hk1
      have g2 := Ints.get hh (show k < m.length by omega)
      simp (disch := omega) only [f0, f1, f5, g1, g2, Nat.mul_one, ↓SXd, SXu, slBounds, ↓sop, ↓aop, ↓reduceIte, LV.cells, AOp.dst, LV.I, LV.B, LV.U, LV.S, LV.nil, Nat.reduceEqDiff, Nat.reduceAdd, Nat.reduceMul, Nat.reduceSub, Nat.reduceLeDiff, Nat.reduceBEq, Nat.reduceDiv, Nat.reduceMod, Int.reduceToNat, Int.reduceLT, Int.reduceLE, Int.reduceAdd, Int.reduceSub, Int.reduceMul, Int.reduceEq, Int.reduceNeg, reduceCtorEq, resV, resAll, ARes.ev, LV.flat, ite_true, ite_false, exists_eq_left', exists_eq_left, keyOf, implies_true, fillC, capOf]
      by_cases he : l.getD k 0 = m.getD k 0
      · simp (disch := omega) only [f0, f1, f5, he, ↓SXd, SXu, slBounds, ↓sop, ↓aop, ↓reduceIte, LV.cells, AOp.dst, LV.I, LV.B, LV.U, LV.S, LV.nil, Nat.reduceEqDiff, Nat.reduceAdd, Nat.reduceMul, Nat.reduceSub, Nat.reduceLeDiff, Nat.reduceBEq, Nat.reduceDiv, Nat.reduceMod, Int.reduceToNat, Int.reduceLT, Int.reduceLE, Int.reduceAdd, Int.reduceSub, Int.reduceMul, Int.reduceEq, Int.reduceNeg, reduceCtorEq, resV, resAll, ARes.ev, LV.flat, ite_true, ite_false, exists_eq_left', exists_eq_left, keyOf, implies_true, fillC, capOf]
        exact ⟨n - 1, by omega, k + 1, by omega, rfl, fun j hj' => by
          rcases Nat.lt_or_ge j k with h2 | h2
          · exact hj j h2
          · rw [show j = k by omega]; exact he, f0, f1, eqI (natI _)⟩
      · simp (disch := omega) only [f0, f1, f5, he, ↓SXd, SXu, slBounds, ↓sop, ↓aop, ↓reduceIte, LV.cells, AOp.dst, LV.I, LV.B, LV.U, LV.S, LV.nil, Nat.reduceEqDiff, Nat.reduceAdd, Nat.reduceMul, Nat.reduceSub, Nat.reduceLeDiff, Nat.reduceBEq, Nat.reduceDiv, Nat.reduceMod, Int.reduceToNat, Int.reduceLT, Int.reduceLE, Int.reduceAdd, Int.reduceSub, Int.reduceMul, Int.reduceEq, Int.reduceNeg, reduceCtorEq, resV, resAll, ARes.ev, LV.flat, ite_true, ite_false, exists_eq_left', exists_eq_left, keyOf, implies_true, fillC, capOf]
        rw [decide_eq_false (fun e => he (by rw [e]))]
        exact cmp_drop0 rfl
    · simp (disch := omega) only [f0, f1, f5, ↓SXd, SXu, slBounds, ↓sop, ↓aop, ↓reduceIte, LV.cells, AOp.dst, LV.I, LV.B, LV.U, LV.S, LV.nil, Nat.reduceEqDiff, Nat.reduceAdd, Nat.reduceMul, Nat.reduceSub, Nat.reduceLeDiff, Nat.reduceBEq, Nat.reduceDiv, Nat.reduceMod, Int.reduceToNat, Int.reduceLT, Int.reduceLE, Int.reduceAdd, Int.reduceSub, Int.reduceMul, Int.reduceEq, Int.reduceNeg, reduceCtorEq, resV, resAll, ARes.ev, LV.flat, ite_true, ite_false, exists_eq_left', exists_eq_left, keyOf, implies_true, fillC, capOf]
      rw [decide_eq_true (by
        apply List.ext_getElem hl'
        intro i h2 h3
        have := hj i (by omega)
        simpa [h2, h3] using this)]
      exact cmp_drop0 rfl
  · simp (disch := omega) only [hl, ↓SXd, SXu, slBounds, ↓sop, ↓aop, ↓reduceIte, LV.cells, AOp.dst, LV.I, LV.B, LV.U, LV.S, LV.nil, Nat.reduceEqDiff, Nat.reduceAdd, Nat.reduceMul, Nat.reduceSub, Nat.reduceLeDiff, Nat.reduceBEq, Nat.reduceDiv, Nat.reduceMod, Int.reduceToNat, Int.reduceLT, Int.reduceLE, Int.reduceAdd, Int.reduceSub, Int.reduceMul, Int.reduceEq, Int.reduceNeg, reduceCtorEq, resV, resAll, ARes.ev, LV.flat, ite_true, ite_false, exists_eq_left', exists_eq_left, keyOf, implies_true, fillC, capOf]
    rw [decide_eq_false (fun e => hl (by rw [e]))]
    exact cmp_drop0 rfl
theorem g_equalI {l m : List Int} {t o t' o' : Nat} {M : Mem} (hg : Ints M t o l) (hh : Ints M t' o' m) (hn : l.length ≤ 1000000000) (hn' : m.length ≤ 1000000000) :
    CallsTo PG F.slices_Equal_Sint_int [.ref t o l.length, .ref t' o' m.length] M (.B (decide (l = m))) M := by
  refine calls_run K.slices_Equal_Sint_int rfl ?_
  simp (disch := omega) only [C.slices_Equal_Sint_int, ↓SXd, SXu, slBounds, ↓sop, ↓aop, ↓reduceIte, LV.cells, AOp.dst, LV.I, LV.B, LV.U, LV.S, LV.nil, Nat.reduceEqDiff, Nat.reduceAdd, Nat.reduceMul, Nat.reduceSub, Nat.reduceLeDiff, Nat.reduceBEq, Nat.reduceDiv, Nat.reduceMod, Int.reduceToNat, Int.reduceLT, Int.reduceLE, Int.reduceAdd, Int.reduceSub, Int.reduceMul, Int.reduceEq, Int.reduceNeg, reduceCtorEq, resV, resAll, ARes.ev, LV.flat, ite_true, ite_false, exists_eq_left', exists_eq_left, keyOf, implies_true, fillC, capOf]
  by_cases hl : (l.length : Int) = m.length
  · simp (disch := omega) only [hl, ↓SXd, SXu, slBounds, ↓sop, ↓aop, ↓reduceIte, LV.cells, AOp.dst, LV.I, LV.B, LV.U, LV.S, LV.nil, Nat.reduceEqDiff, Nat.reduceAdd, Nat.reduceMul, Nat.reduceSub, Nat.reduceLeDiff, Nat.reduceBEq, Nat.reduceDiv, Nat.reduceMod, Int.reduceToNat, Int.reduceLT, Int.reduceLE, Int.reduceAdd, Int.reduceSub, Int.reduceMul, Int.reduceEq, Int.reduceNeg, reduceCtorEq, resV, resAll, ARes.ev, LV.flat, ite_true, ite_false, exists_eq_left', exists_eq_left, keyOf, implies_true, fillC, capOf]
    have hl' : l.length = m.length := by omega
    refine ev_loop (fun n fr M' => ∃ k : Nat, k + n = l.length ∧ M' = M ∧ (∀ j, j < k → l.getD j 0 = m.getD j 0) ∧ fr 0 = .ref t o l.length ∧ fr 1 = .ref t' o' m.length ∧ fr 12 = .I l.length ∧ fr 13 = .I k) l.length
      ⟨0, by omega, rfl, by omega, rfl, rfl, by rw [hl']; rfl, rfl⟩ ?_
    rintro n fr M' ⟨k, hk, rfl, hj, f0, f1, f12, f13⟩
    simp (disch := omega) only [f0, f1, f12, f13, ↓SXd, SXu, slBounds, ↓sop, ↓aop, ↓reduceIte, LV.cells, AOp.dst, LV.I, LV.B, LV.U, LV.S, LV.nil, Nat.reduceEqDiff, Nat.reduceAdd, Nat.reduceMul, Nat.reduceSub, Nat.reduceLeDiff, Nat.reduceBEq, Nat.reduceDiv, Nat.reduceMod, Int.reduceToNat, Int.reduceLT, Int.reduceLE, Int.reduceAdd, Int.reduceSub, Int.reduceMul, Int.reduceEq, Int.reduceNeg, reduceCtorEq, resV, resAll, ARes.ev, LV.flat, ite_true, ite_false, exists_eq_left', exists_eq_left, keyOf, implies_true, fillC, capOf]
    refine condC_dec (fun h1 => ?_) (fun h1 => ?_)
    · have hk1 : k < l.length := by omega
      have g1 := Ints.get hg hk1
      have g2 := Ints.get hh (show k < m.length by omega)
      simp (disch := omega) only [f0, f1, f12, f13, g1, g2, Nat.mul_one, ↓SXd, SXu, slBounds, ↓sop, ↓aop, ↓reduceIte, LV.cells, AOp.dst, LV.I, LV.B, LV.U, LV.S, LV.nil, Nat.reduceEqDiff, Nat.reduceAdd, Nat.reduceMul, Nat.reduceSub, Nat.reduceLeDiff, Nat.reduceBEq, Nat.reduceDiv, Nat.reduceMod, Int.reduceToNat, Int.reduceLT, Int.reduceLE, Int.reduceAdd, Int.reduceSub, Int.reduceMul, Int.reduceEq, Int.reduceNeg, reduceCtorEq, resV, resAll, ARes.ev, LV.flat, ite_true, ite_false, exists_eq_left', exists_eq_left, keyOf, implies_true, fillC, capOf]
      by_cases he : l.getD k 0 = m.getD k 0
      · simp (disch := omega) only [f0, f1, f12, f13, he, ↓SXd, SXu, slBounds, ↓sop, ↓aop, ↓reduceIte, LV.cells, AOp.dst, LV.I, LV.B, LV.U, LV.S, LV.nil, Nat.reduceEqDiff, Nat.reduceAdd, Nat.reduceMul, Nat.reduceSub, Nat.reduceLeDiff, Nat.reduceBEq, Nat.reduceDiv, Nat.reduceMod, Int.reduceToNat, Int.reduceLT, Int.reduceLE, Int.reduceAdd, Int.reduceSub, Int.reduceMul, Int.reduceEq, Int.reduceNeg, reduceCtorEq, resV, resAll, ARes.ev, LV.flat, ite_true, ite_false, exists_eq_left', exists_eq_left, keyOf, implies_true, fillC, capOf]
        exact ⟨n - 1, by omega, k + 1, by omega, rfl, fun j hj' => by
          rcases Nat.lt_or_ge j k with h2 | h2
          · exact hj j h2
          · rw [show j = k by omega]; exact he, f0, f1, f12, eqI (natI _)⟩
      · simp (disch := omega) only [f0, f1, f12, f13, he, ↓SXd, SXu, slBounds, ↓sop, ↓aop, ↓reduceIte, LV.cells, AOp.dst, LV.I, LV.B, LV.U, LV.S, LV.nil, Nat.reduceEqDiff, Nat.reduceAdd, Nat.reduceMul, Nat.reduceSub, Nat.reduceLeDiff, Nat.reduceBEq, Nat.reduceDiv, Nat.reduceMod, Int.reduceToNat, Int.reduceLT, Int.reduceLE, Int.reduceAdd, Int.reduceSub, Int.reduceMul, Int.reduceEq, Int.reduceNeg, reduceCtorEq, resV, resAll, ARes.ev, LV.flat, ite_true, ite_false, exists_eq_left', exists_eq_left, keyOf, implies_true, fillC, capOf]
        rw [decide_eq_false (fun e => he (by rw [e]))]
        exact cmp_drop0 rfl
    · simp (disch := omega) only [f0, f1, f12, f13, ↓SXd, SXu, slBounds, ↓sop, ↓aop, ↓reduceIte, LV.cells, AOp.dst, LV.I, LV.B, LV.U, LV.S, LV.nil, Nat.reduceEqDiff, Nat.reduceAdd, Nat.reduceMul, Nat.reduceSub, Nat.reduceLeDiff, Nat.reduceBEq, Nat.reduceDiv, Nat.reduceMod, Int.reduceToNat, Int.reduceLT, Int.reduceLE, Int.reduceAdd, Int.reduceSub, Int.reduceMul, Int.reduceEq, Int.reduceNeg, reduceCtorEq, resV, resAll, ARes.ev, LV.flat, ite_true, ite_false, exists_eq_left', exists_eq_left, keyOf, implies_true, fillC, capOf]
      rw [decide_eq_true (by
        apply List.ext_getElem hl'
        intro i h2 h3
        have := hj i (by omega)
        simpa [h2, h3] using this)]
      exact cmp_drop0 rfl
  · simp (disch := omega) only [hl, ↓SXd, SXu, slBounds, ↓sop, ↓aop, ↓reduceIte, LV.cells, AOp.dst, LV.I, LV.B, LV.U, LV.S, LV.nil, Nat.reduceEqDiff, Nat.reduceAdd, Nat.reduceMul, Nat.reduceSub, Nat.reduceLeDiff, Nat.reduceBEq, Nat.reduceDiv, Nat.reduceMod, Int.reduceToNat, Int.reduceLT, Int.reduceLE, Int.reduceAdd, Int.reduceSub, Int.reduceMul, Int.reduceEq, Int.reduceNeg, reduceCtorEq, resV, resAll, ARes.ev, LV.flat, ite_true, ite_false, exists_eq_left', exists_eq_left, keyOf, implies_true, fillC, capOf]
    rw [decide_eq_false (fun e => hl (by rw [e]))]
    exact cmp_drop0 rfl
end Go.Ab

/- Contracts: shadows of heaps, the reference's side. -/
namespace Go.Ab
open Go
set_option linter.unusedSimpArgs false
set_option linter.unusedVariables false

def onesL (v : List Int) : List Int := v.map fun n => min n 1
theorem onesL_len (v : List Int) : (onesL v).length = v.length := List.length_map ..
def shdOf (x y z : Int) (d : Nat) (cs : List Cell) : List Int := onesL (viewL x y z d cs)
theorem shdOf_len {x y z : Int} {d : Nat} {cs : List Cell} : (shdOf x y z d cs).length = (linesOf x y z d).toNat := by unfold shdOf; rw [onesL_len, viewL_len]
theorem h_l2Ones {v : List Int} {t o : Nat} {M : Mem} (h : Ints M t o v) (hn : v.length ≤ 1000000) : CallsTo PG F.spec_l2Ones [.ref t o v.length] M (.ref M.length 0 (onesL v).length) (M ++ [some (.row (intL (onesL v)) true 1)]) := by
  have ht := h.lt
  have hol := onesL_len v
  refine calls_run K.spec_l2Ones rfl ?_
  simp (disch := omega) only [C.spec_l2Ones, ↓SXd, SXu, slBounds, ↓sop, ↓aop, ↓reduceIte, LV.cells, AOp.dst, LV.I, LV.B, LV.U, LV.S, LV.nil, Nat.reduceEqDiff, Nat.reduceAdd, Nat.reduceMul, Nat.reduceSub, Nat.reduceLeDiff, Nat.reduceBEq, Nat.reduceDiv, Nat.reduceMod, Int.reduceToNat, Int.reduceLT, Int.reduceLE, Int.reduceAdd, Int.reduceSub, Int.reduceMul, Int.reduceEq, Int.reduceNeg, reduceCtorEq, resV, resAll, ARes.ev, LV.flat, ite_true, ite_false, exists_eq_left', exists_eq_left, keyOf, implies_true, fillC, capOf]
  refine ev_loop (fun m fr M' => ∃ i u : Nat, i + m = v.length ∧ Pre M M' ∧ M.length ≤ u ∧ Live M' u (.row (intL ((onesL v).take i)) true 1) ∧ fr 0 = .ref t o v.length ∧ fr 3 = .ref u 0 ((onesL v).take i).length ∧ fr 4 = .I i) v.length
    ⟨0, M.length, by omega, Pre.app _ _, by omega, Live.new, rfl, rfl, rfl⟩ ?_
  rintro m fr M' ⟨i, u, hi, hpre, hu, bu, f0, f3, f4⟩
  simp (disch := omega) only [f0, f3, f4, ↓SXd, SXu, slBounds, ↓sop, ↓aop, ↓reduceIte, LV.cells, AOp.dst, LV.I, LV.B, LV.U, LV.S, LV.nil, Nat.reduceEqDiff, Nat.reduceAdd, Nat.reduceMul, Nat.reduceSub, Nat.reduceLeDiff, Nat.reduceBEq, Nat.reduceDiv, Nat.reduceMod, Int.reduceToNat, Int.reduceLT, Int.reduceLE, Int.reduceAdd, Int.reduceSub, Int.reduceMul, Int.reduceEq, Int.reduceNeg, reduceCtorEq, resV, resAll, ARes.ev, LV.flat, ite_true, ite_false, exists_eq_left', exists_eq_left, keyOf, implies_true, fillC, capOf]
  refine condC_dec (fun hlt => ?_) (fun hlt => ?_)
  · have hil : i < v.length := by omega
    have hg := Ints.get (h.pre hpre) hil
    have htl := List.length_take_le i (onesL v)
    have hts : (onesL v).take (i + 1) = (onesL v).take i ++ [min (v.getD i 0) 1] := by
      rw [List.take_succ, List.getElem?_eq_getElem (by omega)]; simp [onesL, hil]
    simp (disch := omega) only [f0, f3, f4, hg, Nat.mul_one, ↓SXd, SXu, slBounds, ↓sop, ↓aop, ↓reduceIte, LV.cells, AOp.dst, LV.I, LV.B, LV.U, LV.S, LV.nil, Nat.reduceEqDiff, Nat.reduceAdd, Nat.reduceMul, Nat.reduceSub, Nat.reduceLeDiff, Nat.reduceBEq, Nat.reduceDiv, Nat.reduceMod, Int.reduceToNat, Int.reduceLT, Int.reduceLE, Int.reduceAdd, Int.reduceSub, Int.reduceMul, Int.reduceEq, Int.reduceNeg, reduceCtorEq, resV, resAll, ARes.ev, LV.flat, ite_true, ite_false, exists_eq_left', exists_eq_left, keyOf, implies_true, fillC, capOf]
    refine callK_of (h_l1Least) ?_
    simp (disch := omega) only [f0, f3, f4, ↓SXd, SXu, slBounds, ↓sop, ↓aop, ↓reduceIte, LV.cells, AOp.dst, LV.I, LV.B, LV.U, LV.S, LV.nil, Nat.reduceEqDiff, Nat.reduceAdd, Nat.reduceMul, Nat.reduceSub, Nat.reduceLeDiff, Nat.reduceBEq, Nat.reduceDiv, Nat.reduceMod, Int.reduceToNat, Int.reduceLT, Int.reduceLE, Int.reduceAdd, Int.reduceSub, Int.reduceMul, Int.reduceEq, Int.reduceNeg, reduceCtorEq, resV, resAll, ARes.ev, LV.flat, ite_true, ite_false, exists_eq_left', exists_eq_left, keyOf, implies_true, fillC, capOf]
    refine appendK_int bu (by omega) fun N k1 k2 k3 => ?_
    simp (disch := omega) only [f0, f3, f4, ↓SXd, SXu, slBounds, ↓sop, ↓aop, ↓reduceIte, LV.cells, AOp.dst, LV.I, LV.B, LV.U, LV.S, LV.nil, Nat.reduceEqDiff, Nat.reduceAdd, Nat.reduceMul, Nat.reduceSub, Nat.reduceLeDiff, Nat.reduceBEq, Nat.reduceDiv, Nat.reduceMod, Int.reduceToNat, Int.reduceLT, Int.reduceLE, Int.reduceAdd, Int.reduceSub, Int.reduceMul, Int.reduceEq, Int.reduceNeg, reduceCtorEq, resV, resAll, ARes.ev, LV.flat, ite_true, ite_false, exists_eq_left', exists_eq_left, keyOf, implies_true, fillC, capOf]
    rw [← hts] at k2 ⊢
    exact ⟨m - 1, by omega, i + 1, M'.length + 1, by omega, pre_step hpre (by omega) k1 k3, by have := hpre.1; omega, k2, f0, rfl, eqI (natI _)⟩
  · simp (disch := omega) only [f0, f3, f4, ↓SXd, SXu, slBounds, ↓sop, ↓aop, ↓reduceIte, LV.cells, AOp.dst, LV.I, LV.B, LV.U, LV.S, LV.nil, Nat.reduceEqDiff, Nat.reduceAdd, Nat.reduceMul, Nat.reduceSub, Nat.reduceLeDiff, Nat.reduceBEq, Nat.reduceDiv, Nat.reduceMod, Int.reduceToNat, Int.reduceLT, Int.reduceLE, Int.reduceAdd, Int.reduceSub, Int.reduceMul, Int.reduceEq, Int.reduceNeg, reduceCtorEq, resV, resAll, ARes.ev, LV.flat, ite_true, ite_false, exists_eq_left', exists_eq_left, keyOf, implies_true, fillC, capOf]
    have : i = v.length := by omega
    subst this
    rw [List.take_of_length_le (by omega)] at bu f3
    exact cmp_keepL hpre hu bu (intL_lo _) (by simp [rn, rn0, rn1, List.take_of_length_le (Nat.le_of_eq hol)])
end Go.Ab

/- The abstract code of some functions (written by a program of mine from the translation, by way of prepF). -/
namespace Go.Ab.C
open Go.Ab
def spec_l3Allowed : AFn :=
  ⟨1, 86, [.cellN 2 4],
    .seq (.ops [(none, .box 1 (.t 0)),
       (none, .alloc 2 [(.I 0), (.I 0), (.I 0), .nil])])
    (.seq (.ops [(none, .fieldAddr 9 (.t 1) 0),
        (none, .load1 10 (.t 9)),
        (none, .fieldAddr 11 (.t 1) 1),
        (none, .load1 12 (.t 11)),
        (none, .fieldAddr 13 (.t 1) 2),
        (none, .load1 14 (.t 13)),
        (none, .call (some 15) F.spec_l2Empty [(.t 10), (.t 12), (.t 14)]),
        (none, .alloc 3 [(.I 0), (.I 0), (.I 0), .nil]),
        (none, .store 4 (.t 3) (.t 15))])
     (.seq (.ops [(none, .loadN 16 4 (.t 3)),
         (none, .call (some 17) F.spec_l2All [(.t 16)]),
         (none, .mv 4 (.t 17))])
      (.seq (.seq (.ops [(none, .mv 5 (.c (.I 0)))])
        (.block 0 (.loop (.seq (.seq (.ops [(none, .mv 18 (.t 5)),
               (none, .mv 19 (.t 4)),
               (none, .len 20 (.t 19)),
               (none, .bin 21 .lss (.t 18) (.t 20))])
            (.cond (.t 21) (.skip)
             (.exit 0)))
           (.seq (.block 1 (.seq (.draw [⟨(none, .mv 24 (.t 4)), [], []⟩,
                 ⟨(none, .mv 25 (.t 5)), [], []⟩,
                 ⟨(none, .idxS 26 3 (.t 24) (.t 25)), [], []⟩,
                 ⟨(none, .idxA 27 3 1 (.t 26) (.c (.I 0))), [], []⟩,
                 ⟨(none, .load1 28 (.t 27)), [], []⟩,
                 ⟨(none, .mv 29 (.t 4)), [], []⟩,
                 ⟨(none, .mv 30 (.t 5)), [], []⟩,
                 ⟨(none, .idxS 31 3 (.t 29) (.t 30)), [], []⟩,
                 ⟨(none, .idxA 32 3 1 (.t 31) (.c (.I 1))), [], []⟩,
                 ⟨(none, .load1 33 (.t 32)), [], []⟩,
                 ⟨(none, .mv 34 (.t 4)), [], []⟩,
                 ⟨(none, .mv 35 (.t 5)), [], []⟩,
                 ⟨(none, .idxS 36 3 (.t 34) (.t 35)), [], []⟩,
                 ⟨(none, .idxA 37 3 1 (.t 36) (.c (.I 2))), [], []⟩,
                 ⟨(none, .load1 38 (.t 37)), [], []⟩,
                 ⟨(none, .mv 6 (.t 28)), [], []⟩,
                 ⟨(none, .mv 7 (.t 33)), [], []⟩,
                 ⟨(none, .mv 8 (.t 38)), [], []⟩])
              (.seq (.ops [(none, .fieldAddr 39 (.t 1) 3),
                  (none, .load1 40 (.t 39)),
                  (none, .mv 41 (.t 6)),
                  (none, .fieldAddr 42 (.t 1) 1),
                  (none, .load1 43 (.t 42)),
                  (none, .bin 44 .mul (.t 41) (.t 43)),
                  (none, .mv 45 (.t 7)),
                  (none, .bin 46 .add (.t 44) (.t 45)),
                  (none, .idxS 47 1 (.t 40) (.t 46)),
                  (none, .load1 48 (.t 47)),
                  (none, .bin 49 .eql (.t 48) (.c (.I 1))),
                  (none, .mv 50 (.t 49)),
                  (some (50, true), .fieldAddr 51 (.t 1) 4),
                  (some (50, true), .load1 52 (.t 51)),
                  (some (50, true), .mv 53 (.t 6)),
                  (some (50, true), .fieldAddr 54 (.t 1) 2),
                  (some (50, true), .load1 55 (.t 54)),
                  (some (50, true), .bin 56 .mul (.t 53) (.t 55)),
                  (some (50, true), .mv 57 (.t 8)),
                  (some (50, true), .bin 58 .add (.t 56) (.t 57)),
                  (some (50, true), .idxS 59 1 (.t 52) (.t 58)),
                  (some (50, true), .load1 60 (.t 59)),
                  (some (50, true), .bin 61 .eql (.t 60) (.c (.I 1))),
                  (none, .pick 62 (.t 50) (.t 61) (.c (.B false))),
                  (none, .mv 63 (.t 62)),
                  (some (63, true), .fieldAddr 64 (.t 1) 5),
                  (some (63, true), .load1 65 (.t 64)),
                  (some (63, true), .mv 66 (.t 7)),
                  (some (63, true), .fieldAddr 67 (.t 1) 2),
                  (some (63, true), .load1 68 (.t 67)),
                  (some (63, true), .bin 69 .mul (.t 66) (.t 68)),
                  (some (63, true), .mv 70 (.t 8)),
                  (some (63, true), .bin 71 .add (.t 69) (.t 70)),
                  (some (63, true), .idxS 72 1 (.t 65) (.t 71)),
                  (some (63, true), .load1 73 (.t 72)),
                  (some (63, true), .bin 74 .eql (.t 73) (.c (.I 1))),
                  (none, .pick 75 (.t 63) (.t 74) (.c (.B false)))])
               (.cond (.t 75) (.draw [⟨(none, .fieldAddr 76 (.t 3) 3), [], []⟩,
                   ⟨(none, .load1 77 (.t 76)), [], []⟩,
                   ⟨(none, .mv 78 (.t 4)), [], []⟩,
                   ⟨(none, .mv 79 (.t 5)), [], []⟩,
                   ⟨(none, .idxS 80 3 (.t 78) (.t 79)), [], []⟩,
                   ⟨(none, .loadN 81 3 (.t 80)), [], []⟩,
                   ⟨(none, .buildSl 82 1 3 [(.I 0), (.I 0), (.I 0)] [(0, 3, (.t 81))]), [], []⟩,
                   ⟨(none, .append 83 3 24 (.t 77) (.t 82)), [], []⟩,
                   ⟨(none, .fieldAddr 84 (.t 3) 3), [], []⟩,
                   ⟨(none, .store 1 (.t 84) (.t 83)), [], []⟩])
                (.skip)))))
            (.ops [(none, .mv 22 (.t 5)),
               (none, .bin 23 .add (.t 22) (.c (.I 1))),
               (none, .mv 5 (.t 23))]))))))
       (.seq (.ops [(none, .loadN 85 4 (.t 3)),
           (none, .store 4 (.t 2) (.t 85))])
        (.ret)))))⟩
end Go.Ab.C

/- That the program has this code. -/
namespace Go.Ab.K
open Go Go.Ab
theorem spec_l3Allowed : prepF Go.Proofs.Try.prog F.spec_l3Allowed = some C.spec_l3Allowed := by kernel_rfl
end Go.Ab.K
