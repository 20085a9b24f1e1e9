/- Parts of the proof of FnExactRankStairSaid: Ke C_Xe K_Xe Xd Xe Kf LRankStair. -/
import Derived.Test.YtggnfklcgopflaaA4
import Derived.Test.YtggnfklcgopflaaA8
import Derived.Test.YtggnfklcgopflaaA7
import Derived.Test.YtggnfklcgopflaaA3
import Derived.Test.YtggnfklcgopflaaProg
import Derived.KernelRfl
import Derived.Test.YtggnfklcgopflaaA6
import Derived.Test.YtggnfklcgopflaaA5
set_option linter.all false
/- The rank of a staircase: plain, reference, program. -/
namespace Go.Ab
open Go
set_option linter.unusedSimpArgs false
set_option linter.unusedVariables false
set_option maxRecDepth 20000

section
variable {x y z : Int} {cs : List Cell} (hV : HeapOK x y z cs ∧ StairP x y z fun c => decide (c ∈ cs))
include hV
theorem stair_filled : Filled1 x y z fun c => decide (c ∈ cs) := fun c hc hp h0 => hV.2 c hc hp _ (down_in hV.1.1 hc h0) (by unfold down undC; simp only; omega)
theorem stair_stack : pick x y z (stackP y (viewL x y z 2 cs)) = cs := by
  conv => rhs; rw [hV.1.pick]
  refine pick_congr hV.1.1 fun c hc => ?_
  have := filled_stack hV.1.1 (stair_filled hV) hc
  rwa [← hV.1.pick] at this
theorem stair_stk : StkOK x y z (viewL x y z 2 cs) := by
  have hS := hV.1.1
  refine ⟨hS, view_bound hV.1, fun i hi => ?_⟩
  rw [viewL_len] at hi
  have h1 := view_get (x := x) (y := y) (z := z) (p := fun c => decide (c ∈ cs)) hi
  rw [← hV.1.pick] at h1
  have h2 := col_le hS (p := fun c => decide (c ∈ cs)) hi
  rw [h1]
  omega
theorem stair_tops : topsOf x y cs = viewL x y z 2 cs := by
  have := tops_stackH (stair_stk hV)
  rwa [stair_stack hV] at this
/-- A cell of the staircase by the heights. -/
theorem stair_cell {c : Cell} (hc : c.inBox x y z) : c ∈ cs ↔ c.c < (viewL x y z 2 cs).getD (c.a * y + c.b).toNat 0 := by
  have := filled_stack hV.1.1 (stair_filled hV) hc
  rw [← hV.1.pick] at this
  unfold stackP at this
  rw [Bool.eq_iff_iff, decide_eq_true_iff, decide_eq_true_iff] at this
  exact this.symm
end
theorem mostS_iff {y : Nat} {z : Int} {l : List Int} {h : Int} : h ≤ mostS y z l ↔ h ≤ z ∧ (y ≤ l.length → h ≤ l.getD (l.length - y) 0) ∧ (0 < l.length % y → h ≤ l.getD (l.length - 1) 0) := by
  unfold mostS
  by_cases h1 : 0 < l.length % y
  · rw [if_pos h1]
    by_cases h2 : y ≤ l.length
    · rw [if_pos h2]
      constructor
      · intro h; exact ⟨by omega, fun _ => by omega, fun _ => by omega⟩
      · rintro ⟨k1, k2, k3⟩; have := k2 h2; have := k3 h1; omega
    · rw [if_neg h2]
      constructor
      · intro h; exact ⟨by omega, fun e => absurd e h2, fun _ => by omega⟩
      · rintro ⟨k1, k2, k3⟩; have := k3 h1; omega
  · rw [if_neg h1]
    by_cases h2 : y ≤ l.length
    · rw [if_pos h2]
      constructor
      · intro h; exact ⟨by omega, fun _ => by omega, fun e => absurd e h1⟩
      · rintro ⟨k1, k2, k3⟩; have := k2 h2; omega
    · rw [if_neg h2]
      exact ⟨fun h => ⟨h, fun e => absurd e h2, fun e => absurd e h1⟩, fun h => h.1⟩
/-- Heights that do not rise, row by row and column by column. -/
def MonS (y : Nat) (z : Int) (n : Nat) (hs : List Int) : Prop := hs.length = n ∧ ∀ i, i < n → (0 ≤ hs.getD i 0 ∧ hs.getD i 0 ≤ z) ∧ (y ≤ i → hs.getD i 0 ≤ hs.getD (i - y) 0) ∧ (0 < i % y → hs.getD i 0 ≤ hs.getD (i - 1) 0)
theorem take_getD' {l : List Int} {i j : Nat} (h : j < i) : (l.take i).getD j 0 = l.getD j 0 := by
  simp only [List.getD_eq_getElem?_getD]; rw [List.getElem?_take, if_pos h]
theorem mem_allS {y : Nat} {z : Int} (hy : 0 < y) {n : Nat} {hs : List Int} : hs ∈ allS y z n [] ↔ MonS y z n hs := by
  rw [allS_mem]
  have key : ∀ {s : List Int} {i : Nat}, s.length = n → i < n → (s.getD i 0 ≤ mostS y z ([] ++ s.take i) ↔ s.getD i 0 ≤ z ∧ (y ≤ i → s.getD i 0 ≤ s.getD (i - y) 0) ∧ (0 < i % y → s.getD i 0 ≤ s.getD (i - 1) 0)) := fun {s i} hl hi => by
    have htl : (s.take i).length = i := by simp; omega
    rw [List.nil_append, mostS_iff, htl]
    constructor
    · rintro ⟨h1, h2, h3⟩
      refine ⟨h1, fun h => ?_, fun h => ?_⟩
      · have := h2 h; rwa [take_getD' (by omega)] at this
      · have h0 : 0 < i := by
          rcases Nat.eq_zero_or_pos i with e | e
          · subst e; rw [Nat.zero_mod] at h; omega
          · exact e
        have := h3 h; rwa [take_getD' (by omega)] at this
    · rintro ⟨h1, h2, h3⟩
      refine ⟨h1, fun h => ?_, fun h => ?_⟩
      · rw [take_getD' (by omega)]; exact h2 h
      · have h0 : 0 < i := by
          rcases Nat.eq_zero_or_pos i with e | e
          · subst e; rw [Nat.zero_mod] at h; omega
          · exact e
        rw [take_getD' (by omega)]; exact h3 h
  constructor
  · rintro ⟨s, h1, h2, h3⟩
    rw [List.nil_append] at h1
    subst h1
    refine ⟨h2, fun i hi => ?_⟩
    obtain ⟨q1, q2⟩ := h3 i hi
    obtain ⟨q3, q4⟩ := (key h2 hi).1 q2
    exact ⟨⟨q1, q3⟩, q4⟩
  · rintro ⟨h1, h2⟩
    refine ⟨hs, rfl, h1, fun i hi => ?_⟩
    obtain ⟨q1, q2⟩ := h2 i hi
    exact ⟨q1.1, (key h1 hi).2 ⟨q1.2, q2⟩⟩
theorem cell_of {x y z : Int} (hS : Sides x y z) {i : Nat} (hi : i < x.toNat * y.toNat) {k : Int} (hk : 0 ≤ k ∧ k < z) : (⟨(i / y.toNat : Nat), (i % y.toNat : Nat), k⟩ : Cell).inBox x y z ∧ (((i / y.toNat : Nat) : Int) * y + ((i % y.toNat : Nat) : Int)).toNat = i := by
  obtain ⟨e1, e2, e3, h1, h2, h3⟩ := sidesN hS
  have hy : 0 < y.toNat := by omega
  generalize y.toNat = Y at *
  have hm := Nat.mod_lt i hy
  have hd : i / Y < x.toNat := Nat.div_lt_of_lt_mul (by rw [Nat.mul_comm]; exact hi)
  have he := Nat.div_add_mod i Y
  generalize i / Y = q at *
  generalize i % Y = r at *
  subst e2
  refine ⟨⟨⟨by simp only; omega, by simp only; omega⟩, ⟨by simp only; omega, by simp only; omega⟩, by simp only; omega, by simp only; omega⟩, ?_⟩
  rw [← Int.natCast_mul, ← Int.natCast_add, Int.toNat_natCast, Nat.mul_comm]
  exact he
theorem stair_mem {x y z : Int} {cs : List Cell} (hV : HeapOK x y z cs ∧ StairP x y z fun c => decide (c ∈ cs)) : viewL x y z 2 cs ∈ stairsOf x y z := by
  have hS := hV.1.1
  obtain ⟨e1, e2, e3, h1, h2, h3⟩ := sidesN hS
  have hl := view_bound hV.1
  have hk := stair_stk hV
  have hn : (viewL x y z 2 cs).length = x.toNat * y.toNat := by
    have : ((x.toNat * y.toNat : Nat) : Int) = x * y := by rw [Int.natCast_mul, e1, e2]
    omega
  unfold stairsOf
  rw [mem_allS (by omega)]
  refine ⟨hn, fun i hi => ?_⟩
  have hb := hk.2.2 i (by omega)
  generalize hH : viewL x y z 2 cs = H at hn hb
  have hcell := fun (c : Cell) (hc : c.inBox x y z) => stair_cell hV hc
  rw [hH] at hcell
  refine ⟨hb, fun hyi => ?_, fun hm => ?_⟩
  · apply Int.not_lt.1
    intro hlt
    have hb2 := hk.2.2 (i - y.toNat) (by rw [viewL_len, show (linesOf x y z 2).toNat = (x * y).toNat from rfl]; have := viewL_len (x := x) (y := y) (z := z) (d := 2) (cs := cs); rw [hH, show (linesOf x y z 2).toNat = (x * y).toNat from rfl] at this; omega)
    rw [hH] at hb2
    obtain ⟨c1, c2⟩ := cell_of hS hi (k := H.getD (i - y.toNat) 0) (by omega)
    obtain ⟨d1, d2⟩ := cell_of hS (i := i - y.toNat) (by omega) (k := H.getD (i - y.toNat) 0) (by omega)
    have m1 := (hcell _ c1).2 (by simp only; rw [c2]; exact hlt)
    have hdv : (i - y.toNat) / y.toNat ≤ i / y.toNat := Nat.div_le_div_right (by omega)
    have hmo : (i - y.toNat) % y.toNat = i % y.toNat := by
      conv => rhs; rw [show i = (i - y.toNat) + y.toNat by omega, Nat.add_mod_right]
    have m2 := hV.2 _ c1 (decide_eq_true m1) _ d1 ⟨by simp only; omega, by simp only; omega, by simp only; omega⟩
    have := (hcell _ d1).1 (of_decide_eq_true m2)
    simp only at this
    rw [d2] at this
    omega
  · have h0 : 0 < i := by
      rcases Nat.eq_zero_or_pos i with e | e
      · subst e; rw [Nat.zero_mod] at hm; omega
      · exact e
    apply Int.not_lt.1
    intro hlt
    have hb2 := hk.2.2 (i - 1) (by have := hn; rw [← hH] at this; omega)
    rw [hH] at hb2
    obtain ⟨c1, c2⟩ := cell_of hS hi (k := H.getD (i - 1) 0) (by omega)
    obtain ⟨d1, d2⟩ := cell_of hS (i := i - 1) (by omega) (k := H.getD (i - 1) 0) (by omega)
    have m1 := (hcell _ c1).2 (by simp only; rw [c2]; exact hlt)
    have hdm : (i - 1) / y.toNat ≤ i / y.toNat := Nat.div_le_div_right (by omega)
    have hmo : (i - 1) % y.toNat ≤ i % y.toNat := by
      have q1 := Nat.div_add_mod i y.toNat
      have q2 : i - 1 = y.toNat * (i / y.toNat) + (i % y.toNat - 1) := by omega
      have q3 := Nat.mod_lt i (show 0 < y.toNat by omega)
      rw [q2, Nat.mul_add_mod, Nat.mod_eq_of_lt (by omega)]
      omega
    have m2 := hV.2 _ c1 (decide_eq_true m1) _ d1 ⟨by simp only; omega, by simp only; omega, by simp only; omega⟩
    have := (hcell _ d1).1 (of_decide_eq_true m2)
    simp only at this
    rw [d2] at this
    omega
end Go.Ab

/- The abstract code of some functions (written by a program of mine from the translation, by way of prepF). -/
namespace Go.Ab.C
open Go.Ab
def spec_l5Stair : AFn :=
 ⟨1, 37, [.tmp 2],
 .seq (.ops [(none, .box 1 (.t 0)),
 (none, .mv 2 (.c (.B false)))])
 (.seq (.seq (.ops [(none, .mv 3 (.c (.I 0)))])
 (.block 0 (.loop (.seq (.seq (.ops [(none, .mv 6 (.t 3)),
 (none, .fieldAddr 7 (.t 1) 3),
 (none, .load1 8 (.t 7)),
 (none, .len 9 (.t 8)),
 (none, .bin 10 .lss (.t 6) (.t 9))])
 (.cond (.t 10) (.skip)
 (.exit 0)))
 (.seq (.block 1 (.seq (.ops [(none, .mv 4 (.c (.I 0)))])
 (.block 2 (.loop (.seq (.seq (.ops [(none, .mv 13 (.t 4)),
 (none, .bin 14 .lss (.t 13) (.c (.I 3)))])
 (.cond (.t 14) (.skip)
 (.exit 2)))
 (.seq (.block 3 (.seq (.ops [(none, .fieldAddr 17 (.t 1) 3),
 (none, .load1 18 (.t 17)),
 (none, .mv 19 (.t 3)),
 (none, .idxS 20 3 (.t 18) (.t 19)),
 (none, .loadN 21 3 (.t 20)),
 (none, .alloc 5 [(.I 0), (.I 0), (.I 0)]),
 (none, .store 3 (.t 5) (.t 21))])
 (.seq (.ops [(none, .mv 22 (.t 4)),
 (none, .idxA 23 3 1 (.t 5) (.t 22)),
 (none, .load1 24 (.t 23)),
 (none, .bin 25 .sub (.t 24) (.c (.I 1))),
 (none, .idxA 26 3 1 (.t 5) (.t 22)),
 (none, .store 1 (.t 26) (.t 25))])
 (.seq (.ops [(none, .mv 27 (.t 4)),
 (none, .idxA 28 3 1 (.t 5) (.t 27)),
 (none, .load1 29 (.t 28)),
 (none, .bin 30 .geq (.t 29) (.c (.I 0))),
 (none, .mv 31 (.t 30)),
 (some (31, true), .loadN 32 4 (.t 1)),
 (some (31, true), .loadN 33 3 (.t 5)),
 (some (31, true), .call (some 34) F.spec_l2Has [(.t 32), (.t 33)]),
 (some (31, true), .un 35 .not (.t 34)),
 (none, .pick 36 (.t 31) (.t 35) (.c (.B false)))])
 (.cond (.t 36) (.seq (.ops [(none, .mv 2 (.c (.B false)))])
 (.ret))
 (.skip))))))
 (.ops [(none, .mv 15 (.t 4)),
 (none, .bin 16 .add (.t 15) (.c (.I 1))),
 (none, .mv 4 (.t 16))])))))))
 (.ops [(none, .mv 11 (.t 3)),
 (none, .bin 12 .add (.t 11) (.c (.I 1))),
 (none, .mv 3 (.t 12))]))))))
 (.seq (.ops [(none, .mv 2 (.c (.B true)))])
 (.ret)))⟩
def spec_l5Good : AFn :=
 ⟨1, 9, [.tmp 2],
 .seq (.ops [(none, .box 1 (.t 0)),
 (none, .mv 2 (.c (.B false)))])
 (.seq (.ops [(none, .loadN 3 4 (.t 1)),
 (none, .call (some 4) F.spec_l2Heap [(.t 3)]),
 (none, .mv 5 (.t 4)),
 (some (5, true), .loadN 6 4 (.t 1)),
 (some (5, true), .call (some 7) F.spec_l5Stair [(.t 6)]),
 (none, .pick 8 (.t 5) (.t 7) (.c (.B false))),
 (none, .mv 2 (.t 8))])
 (.ret))⟩
end Go.Ab.C

/- That the program has this code. -/
namespace Go.Ab.K
open Go Go.Ab
theorem spec_l5Stair : prepF Go.Proofs.Try.prog F.spec_l5Stair = some C.spec_l5Stair := by kernel_rfl
theorem spec_l5Good : prepF Go.Proofs.Try.prog F.spec_l5Good = some C.spec_l5Good := by kernel_rfl
end Go.Ab.K

/- Plain words: the least staircase with all cubes of a set, the greatest one within it, hollows. -/
namespace Go.Ab
open Go
set_option linter.unusedSimpArgs false
set_option linter.unusedVariables false

/-- All cells below a cell of a set. -/
noncomputable def dnB (x y z : Int) (p : Cell → Bool) (d : Cell) : Bool := (pick x y z p).any fun c => decide (undC d c)
/-- The cells of a set all of whose cells below are in the set. -/
noncomputable def upB (x y z : Int) (p : Cell → Bool) (c : Cell) : Bool := (cellsOf x y z).all fun d => !decide (undC d c) || p d
/-- A cell with which the set is still a staircase. -/
noncomputable def hollC (x y z : Int) (p : Cell → Bool) (c : Cell) : Bool := !p c && decide (StairP x y z fun d => p d || decide (d = c))
section
variable {x y z : Int} (hS : Sides x y z)
include hS
end
end Go.Ab

/- Contracts: staircases, corners, lines and orders of the reference. -/
namespace Go.Ab
open Go
set_option linter.unusedSimpArgs false
set_option linter.unusedVariables false
set_option maxRecDepth 20000

theorem dec_at {c : Cell} {k : Nat} (hk : k < 3) : (decC c k).at (k : Int) = c.at (k : Int) - 1 := by
  rcases (show k = 0 ∨ k = 1 ∨ k = 2 by omega) with rfl | rfl | rfl <;> rfl
theorem dec_splice {c : Cell} {k : Nat} (hk : k < 3) : splice [LV.I c.a, LV.I c.b, LV.I c.c] k [LV.I (c.at (k : Int) - 1)] = [LV.I (decC c k).a, LV.I (decC c k).b, LV.I (decC c k).c] := by
  rcases (show k = 0 ∨ k = 1 ∨ k = 2 by omega) with rfl | rfl | rfl <;> rfl
theorem row_k (c : Cell) {j : Nat} (h : j < 3) : [LV.I c.a, .I c.b, .I c.c][j]? = some (.I (c.at (j : Int))) := by
  rcases (show j = 0 ∨ j = 1 ∨ j = 2 by omega) with rfl | rfl | rfl <;> rfl
theorem at_box {x y z : Int} {c : Cell} (hS : Sides x y z) (h : c.inBox x y z) {j : Nat} (hj : j < 3) : 0 ≤ c.at (j : Int) ∧ c.at (j : Int) ≤ 3 := by
  obtain ⟨⟨_, _⟩, ⟨_, _⟩, ⟨_, _⟩⟩ := h
  obtain ⟨⟨_, _⟩, ⟨_, _⟩, ⟨_, _⟩⟩ := hS
  rcases (show j = 0 ∨ j = 1 ∨ j = 2 by omega) with rfl | rfl | rfl
  · show 0 ≤ c.a ∧ c.a ≤ 3; omega
  · show 0 ≤ c.b ∧ c.b ≤ 3; omega
  · show 0 ≤ c.c ∧ c.c ≤ 3; omega
theorem stairM {x y z : Int} {cs : List Cell} (hH : HeapOK x y z cs) : (StairP x y z fun d => decide (d ∈ cs)) ↔ ∀ c ∈ cs, ∀ k : Nat, k < 3 → 0 ≤ c.at (k : Int) - 1 → decC c k ∈ cs := by
  rw [stair_step]
  constructor
  · intro h c hc k hk h0
    exact of_decide_eq_true (h c (hH.mem hc) (decide_eq_true hc) k hk (by rw [dec_at hk]; exact h0))
  · intro h c _ hc k hk h0
    exact decide_eq_true (h c (of_decide_eq_true hc) k hk (by rw [dec_at hk] at h0; exact h0))

theorem h_l5Stair {x y z : Int} {t : Nat} {w : Bool} {cs : List Cell} {M : Mem} (h : Live M t (.row (triL cs) w 3)) (hH : HeapOK x y z cs) :
    CallsTo PG F.spec_l5Stair [.agg [.I x, .I y, .I z, .ref t 0 cs.length]] M (.B (decide (StairP x y z fun d => decide (d ∈ cs)))) M := by
  have hlen := hH.len
  have hS := hH.1
  refine calls_run K.spec_l5Stair rfl ?_
  simp (disch := omega) only [C.spec_l5Stair, ↓SXd, SXu, slBounds, ↓sop, ↓aop, ↓reduceIte, LV.cells, AOp.dst, LV.I, LV.B, LV.U, LV.S, LV.nil, Nat.reduceEqDiff, Nat.reduceAdd, Nat.reduceMul, Nat.reduceSub, Nat.reduceLeDiff, Nat.reduceBEq, Nat.reduceDiv, Nat.reduceMod, Int.reduceToNat, Int.reduceLT, Int.reduceLE, Int.reduceAdd, Int.reduceSub, Int.reduceMul, Int.reduceEq, Int.reduceNeg, reduceCtorEq, resV, resAll, ARes.ev, LV.flat, ite_true, ite_false, exists_eq_left', exists_eq_left, keyOf, implies_true, fillC, capOf]
  refine ev_loop (fun m fr M' => ∃ i : Nat, i + m = cs.length ∧ Pre M M' ∧ Live M' M.length (.row [.I x, .I y, .I z, .ref t 0 cs.length] true 0) ∧ (∀ c ∈ cs.take i, ∀ k : Nat, k < 3 → 0 ≤ c.at (k : Int) - 1 → decC c k ∈ cs) ∧ fr 1 = .ptr M.length 0 ∧ fr 3 = .I i) cs.length
    ⟨0, by omega, Pre.app _ _, Live.new, by simp, rfl, rfl⟩ ?_
  rintro m fr M' ⟨i, hi, hpre, b1, hall, f1, f3⟩
  simp (disch := omega) only [f1, f3, b1.cell, ↓SXd, SXu, slBounds, ↓sop, ↓aop, ↓reduceIte, LV.cells, AOp.dst, LV.I, LV.B, LV.U, LV.S, LV.nil, Nat.reduceEqDiff, Nat.reduceAdd, Nat.reduceMul, Nat.reduceSub, Nat.reduceLeDiff, Nat.reduceBEq, Nat.reduceDiv, Nat.reduceMod, Int.reduceToNat, Int.reduceLT, Int.reduceLE, Int.reduceAdd, Int.reduceSub, Int.reduceMul, Int.reduceEq, Int.reduceNeg, reduceCtorEq, resV, resAll, ARes.ev, LV.flat, ite_true, ite_false, exists_eq_left', exists_eq_left, keyOf, implies_true, fillC, capOf]
  refine condC_dec (fun hlt => ?_) (fun hlt => ?_)
  · have hil : i < cs.length := by omega
    have hts : cs.take (i + 1) = cs.take i ++ [cs.getD i default] := take_snoc' hil
    have hcm := getD_mem' (d := default) hil
    have hcg := fun {N : Mem} (hp : Pre M N) => (h.pre hp).tri0 hil
    generalize cs.getD i default = c at hts hcm hcg
    simp (disch := omega) only [f1, f3, ↓SXd, SXu, slBounds, ↓sop, ↓aop, ↓reduceIte, LV.cells, AOp.dst, LV.I, LV.B, LV.U, LV.S, LV.nil, Nat.reduceEqDiff, Nat.reduceAdd, Nat.reduceMul, Nat.reduceSub, Nat.reduceLeDiff, Nat.reduceBEq, Nat.reduceDiv, Nat.reduceMod, Int.reduceToNat, Int.reduceLT, Int.reduceLE, Int.reduceAdd, Int.reduceSub, Int.reduceMul, Int.reduceEq, Int.reduceNeg, reduceCtorEq, resV, resAll, ARes.ev, LV.flat, ite_true, ite_false, exists_eq_left', exists_eq_left, keyOf, implies_true, fillC, capOf]
    refine ev_loop (fun m2 fr N => ∃ k : Nat, k + m2 = 3 ∧ Pre M N ∧ Live N M.length (.row [.I x, .I y, .I z, .ref t 0 cs.length] true 0) ∧ (∀ j : Nat, j < k → 0 ≤ c.at (j : Int) - 1 → decC c j ∈ cs) ∧ fr 1 = .ptr M.length 0 ∧ fr 3 = .I i ∧ fr 4 = .I k) 3
      ⟨0, by omega, hpre, b1, fun j hj => by omega, f1, f3, rfl⟩ ?_
    clear f1 f3 b1 hpre hlt
    rintro m2 fr N ⟨k, hk, hpre, b1, hall2, f1, f3, f4⟩
    simp (disch := omega) only [f1, f3, f4, ↓SXd, SXu, slBounds, ↓sop, ↓aop, ↓reduceIte, LV.cells, AOp.dst, LV.I, LV.B, LV.U, LV.S, LV.nil, Nat.reduceEqDiff, Nat.reduceAdd, Nat.reduceMul, Nat.reduceSub, Nat.reduceLeDiff, Nat.reduceBEq, Nat.reduceDiv, Nat.reduceMod, Int.reduceToNat, Int.reduceLT, Int.reduceLE, Int.reduceAdd, Int.reduceSub, Int.reduceMul, Int.reduceEq, Int.reduceNeg, reduceCtorEq, resV, resAll, ARes.ev, LV.flat, ite_true, ite_false, exists_eq_left', exists_eq_left, keyOf, implies_true, fillC, capOf]
    refine condC_dec (fun hlt => ?_) (fun hlt => ?_)
    · have hk3 : k < 3 := by omega
      have hcb := at_box hS (hH.mem hcm) hk3
      have hck := row_k c hk3
      have hdk := row_k (decC c k) hk3
      rw [dec_at hk3] at hdk
      have hlt1 : k + 1 ≤ 3 := by omega
      have e0 : splice [LV.I 0, LV.I 0, LV.I 0] 0 [LV.I c.a, LV.I c.b, LV.I c.c] = [LV.I c.a, LV.I c.b, LV.I c.c] := rfl
      have e1 := dec_splice (c := c) hk3
      simp (disch := omega) only [f1, f3, f4, b1.cell, (hcg hpre), Cell.row, e0, e1, hck, hdk, hlt1, Nat.mul_one, Nat.zero_add, List.length_cons, List.length_nil, ↓SXd, SXu, slBounds, ↓sop, ↓aop, ↓reduceIte, LV.cells, AOp.dst, LV.I, LV.B, LV.U, LV.S, LV.nil, Nat.reduceEqDiff, Nat.reduceAdd, Nat.reduceMul, Nat.reduceSub, Nat.reduceLeDiff, Nat.reduceBEq, Nat.reduceDiv, Nat.reduceMod, Int.reduceToNat, Int.reduceLT, Int.reduceLE, Int.reduceAdd, Int.reduceSub, Int.reduceMul, Int.reduceEq, Int.reduceNeg, reduceCtorEq, resV, resAll, ARes.ev, LV.flat, ite_true, ite_false, exists_eq_left', exists_eq_left, keyOf, implies_true, fillC, capOf]
      by_cases h0 : 0 ≤ c.at (k : Int) - 1
      · simp (disch := omega) only [f1, f3, f4, h0, b1.app.cells, ↓SXd, SXu, slBounds, ↓sop, ↓aop, ↓reduceIte, LV.cells, AOp.dst, LV.I, LV.B, LV.U, LV.S, LV.nil, Nat.reduceEqDiff, Nat.reduceAdd, Nat.reduceMul, Nat.reduceSub, Nat.reduceLeDiff, Nat.reduceBEq, Nat.reduceDiv, Nat.reduceMod, Int.reduceToNat, Int.reduceLT, Int.reduceLE, Int.reduceAdd, Int.reduceSub, Int.reduceMul, Int.reduceEq, Int.reduceNeg, reduceCtorEq, resV, resAll, ARes.ev, LV.flat, ite_true, ite_false, exists_eq_left', exists_eq_left, keyOf, implies_true, fillC, capOf]
        refine callK_of (h_l2Has ((h.pre hpre).app.has) (by omega)) ?_
        simp (disch := omega) only [f1, f3, f4, ↓SXd, SXu, slBounds, ↓sop, ↓aop, ↓reduceIte, LV.cells, AOp.dst, LV.I, LV.B, LV.U, LV.S, LV.nil, Nat.reduceEqDiff, Nat.reduceAdd, Nat.reduceMul, Nat.reduceSub, Nat.reduceLeDiff, Nat.reduceBEq, Nat.reduceDiv, Nat.reduceMod, Int.reduceToNat, Int.reduceLT, Int.reduceLE, Int.reduceAdd, Int.reduceSub, Int.reduceMul, Int.reduceEq, Int.reduceNeg, reduceCtorEq, resV, resAll, ARes.ev, LV.flat, ite_true, ite_false, exists_eq_left', exists_eq_left, keyOf, implies_true, fillC, capOf]
        rw [cell_eta]
        by_cases hm : decC c k ∈ cs
        · simp (disch := omega) only [f1, f3, f4, hm, ↓SXd, SXu, slBounds, ↓sop, ↓aop, ↓reduceIte, LV.cells, AOp.dst, LV.I, LV.B, LV.U, LV.S, LV.nil, Nat.reduceEqDiff, Nat.reduceAdd, Nat.reduceMul, Nat.reduceSub, Nat.reduceLeDiff, Nat.reduceBEq, Nat.reduceDiv, Nat.reduceMod, Int.reduceToNat, Int.reduceLT, Int.reduceLE, Int.reduceAdd, Int.reduceSub, Int.reduceMul, Int.reduceEq, Int.reduceNeg, reduceCtorEq, resV, resAll, ARes.ev, LV.flat, ite_true, ite_false, exists_eq_left', exists_eq_left, keyOf, implies_true, fillC, capOf]
          refine ⟨m2 - 1, by omega, k + 1, by omega, hpre.app', b1.app, fun j hj => ?_, f1, f3, eqI (natI _)⟩
          rcases Nat.lt_or_ge j k with hjk | hjk
          · exact hall2 j hjk
          · rw [show j = k by omega]; exact fun _ => hm
        · have hno : ¬ StairP x y z fun d => decide (d ∈ cs) := fun hst => hm ((stairM hH).1 hst c hcm k hk3 h0)
          rw [decide_eq_false hno]
          simp (disch := omega) only [f1, f3, f4, hm, ↓SXd, SXu, slBounds, ↓sop, ↓aop, ↓reduceIte, LV.cells, AOp.dst, LV.I, LV.B, LV.U, LV.S, LV.nil, Nat.reduceEqDiff, Nat.reduceAdd, Nat.reduceMul, Nat.reduceSub, Nat.reduceLeDiff, Nat.reduceBEq, Nat.reduceDiv, Nat.reduceMod, Int.reduceToNat, Int.reduceLT, Int.reduceLE, Int.reduceAdd, Int.reduceSub, Int.reduceMul, Int.reduceEq, Int.reduceNeg, reduceCtorEq, resV, resAll, ARes.ev, LV.flat, ite_true, ite_false, exists_eq_left', exists_eq_left, keyOf, implies_true, fillC, capOf]
          exact cmp_pre hpre.app' rfl
      · simp (disch := omega) only [f1, f3, f4, h0, ↓SXd, SXu, slBounds, ↓sop, ↓aop, ↓reduceIte, LV.cells, AOp.dst, LV.I, LV.B, LV.U, LV.S, LV.nil, Nat.reduceEqDiff, Nat.reduceAdd, Nat.reduceMul, Nat.reduceSub, Nat.reduceLeDiff, Nat.reduceBEq, Nat.reduceDiv, Nat.reduceMod, Int.reduceToNat, Int.reduceLT, Int.reduceLE, Int.reduceAdd, Int.reduceSub, Int.reduceMul, Int.reduceEq, Int.reduceNeg, reduceCtorEq, resV, resAll, ARes.ev, LV.flat, ite_true, ite_false, exists_eq_left', exists_eq_left, keyOf, implies_true, fillC, capOf]
        refine ⟨m2 - 1, by omega, k + 1, by omega, hpre.app', b1.app, fun j hj => ?_, f1, f3, eqI (natI _)⟩
        rcases Nat.lt_or_ge j k with hjk | hjk
        · exact hall2 j hjk
        · rw [show j = k by omega]; exact fun hh => absurd hh h0
    · have : k = 3 := by omega
      subst this
      simp (disch := omega) only [f1, f3, f4, ↓SXd, SXu, slBounds, ↓sop, ↓aop, ↓reduceIte, LV.cells, AOp.dst, LV.I, LV.B, LV.U, LV.S, LV.nil, Nat.reduceEqDiff, Nat.reduceAdd, Nat.reduceMul, Nat.reduceSub, Nat.reduceLeDiff, Nat.reduceBEq, Nat.reduceDiv, Nat.reduceMod, Int.reduceToNat, Int.reduceLT, Int.reduceLE, Int.reduceAdd, Int.reduceSub, Int.reduceMul, Int.reduceEq, Int.reduceNeg, reduceCtorEq, resV, resAll, ARes.ev, LV.flat, ite_true, ite_false, exists_eq_left', exists_eq_left, keyOf, implies_true, fillC, capOf]
      refine ⟨m - 1, by omega, i + 1, by omega, hpre, b1, fun d hd => ?_, f1, eqI (natI _)⟩
      rw [hts] at hd
      rcases List.mem_append.1 hd with hd | hd
      · exact hall d hd
      · rw [List.mem_singleton.1 hd]; exact hall2
  · have : i = cs.length := by omega
    subst this
    rw [List.take_length] at hall
    rw [decide_eq_true ((stairM hH).2 hall)]
    simp (disch := omega) only [f1, f3, ↓SXd, SXu, slBounds, ↓sop, ↓aop, ↓reduceIte, LV.cells, AOp.dst, LV.I, LV.B, LV.U, LV.S, LV.nil, Nat.reduceEqDiff, Nat.reduceAdd, Nat.reduceMul, Nat.reduceSub, Nat.reduceLeDiff, Nat.reduceBEq, Nat.reduceDiv, Nat.reduceMod, Int.reduceToNat, Int.reduceLT, Int.reduceLE, Int.reduceAdd, Int.reduceSub, Int.reduceMul, Int.reduceEq, Int.reduceNeg, reduceCtorEq, resV, resAll, ARes.ev, LV.flat, ite_true, ite_false, exists_eq_left', exists_eq_left, keyOf, implies_true, fillC, capOf]
    exact cmp_pre hpre rfl
theorem h_l5Good {x y z : Int} {t : Nat} {w : Bool} {cs : List Cell} {M : Mem} (h : Live M t (.row (triL cs) w 3)) (hn : cs.length ≤ 1000000000) :
    CallsTo PG F.spec_l5Good [.agg [.I x, .I y, .I z, .ref t 0 cs.length]] M (.B (strB x y z cs)) M := by
  refine calls_run K.spec_l5Good rfl ?_
  simp (disch := omega) only [C.spec_l5Good, ↓SXd, SXu, slBounds, ↓sop, ↓aop, ↓reduceIte, LV.cells, AOp.dst, LV.I, LV.B, LV.U, LV.S, LV.nil, Nat.reduceEqDiff, Nat.reduceAdd, Nat.reduceMul, Nat.reduceSub, Nat.reduceLeDiff, Nat.reduceBEq, Nat.reduceDiv, Nat.reduceMod, Int.reduceToNat, Int.reduceLT, Int.reduceLE, Int.reduceAdd, Int.reduceSub, Int.reduceMul, Int.reduceEq, Int.reduceNeg, reduceCtorEq, resV, resAll, ARes.ev, LV.flat, ite_true, ite_false, exists_eq_left', exists_eq_left, keyOf, implies_true, fillC, capOf]
  refine callK_of (h_l2Heap h.app.has hn) ?_
  simp (disch := omega) only [↓SXd, SXu, slBounds, ↓sop, ↓aop, ↓reduceIte, LV.cells, AOp.dst, LV.I, LV.B, LV.U, LV.S, LV.nil, Nat.reduceEqDiff, Nat.reduceAdd, Nat.reduceMul, Nat.reduceSub, Nat.reduceLeDiff, Nat.reduceBEq, Nat.reduceDiv, Nat.reduceMod, Int.reduceToNat, Int.reduceLT, Int.reduceLE, Int.reduceAdd, Int.reduceSub, Int.reduceMul, Int.reduceEq, Int.reduceNeg, reduceCtorEq, resV, resAll, ARes.ev, LV.flat, ite_true, ite_false, exists_eq_left', exists_eq_left, keyOf, implies_true, fillC, capOf]
  by_cases hH : HeapOK x y z cs
  · have e : strB x y z cs = decide (StairP x y z fun c => decide (c ∈ cs)) := by
      rw [Bool.eq_iff_iff, strB_iff, decide_eq_true_iff]
      exact ⟨fun h => h.2, fun h => ⟨hH, h⟩⟩
    rw [e]
    simp (disch := omega) only [hH, ↓SXd, SXu, slBounds, ↓sop, ↓aop, ↓reduceIte, LV.cells, AOp.dst, LV.I, LV.B, LV.U, LV.S, LV.nil, Nat.reduceEqDiff, Nat.reduceAdd, Nat.reduceMul, Nat.reduceSub, Nat.reduceLeDiff, Nat.reduceBEq, Nat.reduceDiv, Nat.reduceMod, Int.reduceToNat, Int.reduceLT, Int.reduceLE, Int.reduceAdd, Int.reduceSub, Int.reduceMul, Int.reduceEq, Int.reduceNeg, reduceCtorEq, resV, resAll, ARes.ev, LV.flat, ite_true, ite_false, exists_eq_left', exists_eq_left, keyOf, implies_true, fillC, capOf]
    refine callK_of (h_l5Stair h.app hH) ?_
    simp (disch := omega) only [↓SXd, SXu, slBounds, ↓sop, ↓aop, ↓reduceIte, LV.cells, AOp.dst, LV.I, LV.B, LV.U, LV.S, LV.nil, Nat.reduceEqDiff, Nat.reduceAdd, Nat.reduceMul, Nat.reduceSub, Nat.reduceLeDiff, Nat.reduceBEq, Nat.reduceDiv, Nat.reduceMod, Int.reduceToNat, Int.reduceLT, Int.reduceLE, Int.reduceAdd, Int.reduceSub, Int.reduceMul, Int.reduceEq, Int.reduceNeg, reduceCtorEq, resV, resAll, ARes.ev, LV.flat, ite_true, ite_false, exists_eq_left', exists_eq_left, keyOf, implies_true, fillC, capOf]
    exact cmp_drop rfl
  · rw [str_no fun h => hH h.1]
    simp (disch := omega) only [hH, ↓SXd, SXu, slBounds, ↓sop, ↓aop, ↓reduceIte, LV.cells, AOp.dst, LV.I, LV.B, LV.U, LV.S, LV.nil, Nat.reduceEqDiff, Nat.reduceAdd, Nat.reduceMul, Nat.reduceSub, Nat.reduceLeDiff, Nat.reduceBEq, Nat.reduceDiv, Nat.reduceMod, Int.reduceToNat, Int.reduceLT, Int.reduceLE, Int.reduceAdd, Int.reduceSub, Int.reduceMul, Int.reduceEq, Int.reduceNeg, reduceCtorEq, resV, resAll, ARes.ev, LV.flat, ite_true, ite_false, exists_eq_left', exists_eq_left, keyOf, implies_true, fillC, capOf]
    exact cmp_drop rfl

/-- The corners of a staircase. -/
noncomputable def cornL (x y z : Int) (cs : List Cell) : List Cell := cs.filter (cornC x y z fun d => decide (d ∈ cs))
noncomputable def orsB (x y z : Int) (cs : List Cell) : Bool := strB x y z cs && decide (cs.length ≤ 9)
noncomputable def orsN (x y z : Int) (cs : List Cell) : Nat := if orsB x y z cs = true then orN x y z cs.length (fun d => decide (d ∈ cs)) else 0
end Go.Ab

/- The rank of a staircase: contracts. -/
namespace Go.Ab
open Go
set_option linter.unusedSimpArgs false
set_option linter.unusedVariables false
set_option maxRecDepth 20000

theorem findIdx_at {L : List (List Int)} {p : List Int → Bool} {i : Nat} (hi : i < L.length) (hp : p (L.getD i []) = true) (hb : ∀ j, j < i → p (L.getD j []) = false) : L.findIdx p = i := by
  have hg : ∀ {j : Nat} (hj : j < L.length), L.getD j [] = L[j] := fun hj => by simp [hj]
  rcases Nat.lt_trichotomy (L.findIdx p) i with h | h | h
  · have h1 : L.findIdx p < L.length := by omega
    have h2 := List.findIdx_getElem (w := h1)
    have h3 := hb _ h
    rw [hg h1, h2] at h3; cases h3
  · exact h
  · have h1 := List.not_of_lt_findIdx h
    rw [hg hi] at hp
    rw [hp] at h1; cases h1
noncomputable def rnkB (x y z : Int) (cs : List Cell) : Bool := strB x y z cs && fewB x y z
noncomputable def rnkV (x y z : Int) (cs : List Cell) : Nat := if rnkB x y z cs = true then (stairsOf x y z).findIdx fun l => decide (l = viewL x y z 2 cs) else 0
theorem rank_lt {x y z : Int} {cs : List Cell} (hV : HeapOK x y z cs ∧ StairP x y z fun c => decide (c ∈ cs)) : (stairsOf x y z).findIdx (fun l => decide (l = viewL x y z 2 cs)) < (stairsOf x y z).length :=
  List.findIdx_lt_length_of_exists ⟨_, stair_mem hV, by simp⟩
theorem TabR.at {N : Mem} {t : Nat} {L : List (List Int)} {av : List Nat} (h : TabR N t L av) {i : Nat} (hi : i < L.length) : ∃ u : Nat, getCell N t i = some (.ref u 0 (L.getD i []).length) ∧ Ints N u 0 (L.getD i []) := by
  obtain ⟨refs, h1, h2, h3, h4⟩ := h
  obtain ⟨u, q1, q2, q3, q4⟩ := h4 i hi
  exact ⟨u, by rw [← q3]; exact h1.cell, q4⟩
theorem stairs_row {x y z : Int} (hS : Sides x y z) {l : List Int} (h : l ∈ stairsOf x y z) : l.length ≤ 16 := by
  obtain ⟨e1, e2, e3, h1, h2, h3⟩ := sidesN hS
  unfold stairsOf at h
  rw [mem_allS (by omega)] at h
  have := Nat.mul_le_mul h1.2 h2.2
  have := h.1
  omega
theorem h_sRankStair {x y z : Int} {t : Nat} {w : Bool} {cs : List Cell} {M : Mem} (h : Live M t (.row (triL cs) w 3)) (hn : cs.length ≤ 1000000000) :
    CallsTo PG F.spec_RankStair [.agg [.I x, .I y, .I z, .ref t 0 cs.length]] M (.tup [.I (rnkV x y z cs : Nat), .B (rnkB x y z cs)]) M := by
  refine calls_run K.spec_RankStair rfl ?_
  simp (disch := omega) only [C.spec_RankStair, ↓SXd, SXu, slBounds, ↓sop, ↓aop, ↓reduceIte, LV.cells, AOp.dst, LV.I, LV.B, LV.U, LV.S, LV.nil, Nat.reduceEqDiff, Nat.reduceAdd, Nat.reduceMul, Nat.reduceSub, Nat.reduceLeDiff, Nat.reduceBEq, Nat.reduceDiv, Nat.reduceMod, Int.reduceToNat, Int.reduceLT, Int.reduceLE, Int.reduceAdd, Int.reduceSub, Int.reduceMul, Int.reduceEq, Int.reduceNeg, reduceCtorEq, resV, resAll, ARes.ev, LV.flat, ite_true, ite_false, exists_eq_left', exists_eq_left, keyOf, implies_true, fillC, capOf]
  refine callK_of (h_l5Good h.app hn) ?_
  simp (disch := omega) only [↓SXd, SXu, slBounds, ↓sop, ↓aop, ↓reduceIte, LV.cells, AOp.dst, LV.I, LV.B, LV.U, LV.S, LV.nil, Nat.reduceEqDiff, Nat.reduceAdd, Nat.reduceMul, Nat.reduceSub, Nat.reduceLeDiff, Nat.reduceBEq, Nat.reduceDiv, Nat.reduceMod, Int.reduceToNat, Int.reduceLT, Int.reduceLE, Int.reduceAdd, Int.reduceSub, Int.reduceMul, Int.reduceEq, Int.reduceNeg, reduceCtorEq, resV, resAll, ARes.ev, LV.flat, ite_true, ite_false, exists_eq_left', exists_eq_left, keyOf, implies_true, fillC, capOf]
  unfold rnkV rnkB
  by_cases hV : HeapOK x y z cs ∧ StairP x y z (fun c => decide (c ∈ cs))
  rotate_left
  · rw [str_no hV, Bool.false_and, if_neg (by simp)]
    simp (disch := omega) only [↓SXd, SXu, slBounds, ↓sop, ↓aop, ↓reduceIte, LV.cells, AOp.dst, LV.I, LV.B, LV.U, LV.S, LV.nil, Nat.reduceEqDiff, Nat.reduceAdd, Nat.reduceMul, Nat.reduceSub, Nat.reduceLeDiff, Nat.reduceBEq, Nat.reduceDiv, Nat.reduceMod, Int.reduceToNat, Int.reduceLT, Int.reduceLE, Int.reduceAdd, Int.reduceSub, Int.reduceMul, Int.reduceEq, Int.reduceNeg, reduceCtorEq, resV, resAll, ARes.ev, LV.flat, ite_true, ite_false, exists_eq_left', exists_eq_left, keyOf, implies_true, fillC, capOf]
    exact cmp_drop rfl
  rw [str_yes hV, Bool.true_and]
  have hS := hV.1.1
  have hlen := hV.1.len
  simp (disch := omega) only [↓SXd, SXu, slBounds, ↓sop, ↓aop, ↓reduceIte, LV.cells, AOp.dst, LV.I, LV.B, LV.U, LV.S, LV.nil, Nat.reduceEqDiff, Nat.reduceAdd, Nat.reduceMul, Nat.reduceSub, Nat.reduceLeDiff, Nat.reduceBEq, Nat.reduceDiv, Nat.reduceMod, Int.reduceToNat, Int.reduceLT, Int.reduceLE, Int.reduceAdd, Int.reduceSub, Int.reduceMul, Int.reduceEq, Int.reduceNeg, reduceCtorEq, resV, resAll, ARes.ev, LV.flat, ite_true, ite_false, exists_eq_left', exists_eq_left, keyOf, implies_true, fillC, capOf]
  refine callK_of (h_l5Few) ?_
  simp (disch := omega) only [↓SXd, SXu, slBounds, ↓sop, ↓aop, ↓reduceIte, LV.cells, AOp.dst, LV.I, LV.B, LV.U, LV.S, LV.nil, Nat.reduceEqDiff, Nat.reduceAdd, Nat.reduceMul, Nat.reduceSub, Nat.reduceLeDiff, Nat.reduceBEq, Nat.reduceDiv, Nat.reduceMod, Int.reduceToNat, Int.reduceLT, Int.reduceLE, Int.reduceAdd, Int.reduceSub, Int.reduceMul, Int.reduceEq, Int.reduceNeg, reduceCtorEq, resV, resAll, ARes.ev, LV.flat, ite_true, ite_false, exists_eq_left', exists_eq_left, keyOf, implies_true, fillC, capOf]
  cases hf : fewB x y z with
  | false =>
    rw [if_neg (by simp)]
    simp (disch := omega) only [↓SXd, SXu, slBounds, ↓sop, ↓aop, ↓reduceIte, LV.cells, AOp.dst, LV.I, LV.B, LV.U, LV.S, LV.nil, Nat.reduceEqDiff, Nat.reduceAdd, Nat.reduceMul, Nat.reduceSub, Nat.reduceLeDiff, Nat.reduceBEq, Nat.reduceDiv, Nat.reduceMod, Int.reduceToNat, Int.reduceLT, Int.reduceLE, Int.reduceAdd, Int.reduceSub, Int.reduceMul, Int.reduceEq, Int.reduceNeg, reduceCtorEq, resV, resAll, ARes.ev, LV.flat, ite_true, ite_false, exists_eq_left', exists_eq_left, keyOf, implies_true, fillC, capOf]
    exact cmp_drop rfl
  | true =>
    rw [if_pos rfl]
    obtain ⟨e1, e2, e3, h1, h2, h3⟩ := sidesN hS
    have hmem := stair_mem hV
    have hrl := rank_lt hV
    have hrow := fun l hl => stairs_row hS (l := l) hl
    have hsl := stairs_len hS
    have hall := h_l5All h1 h2 h3 (x.toNat * y.toNat) (l := []) (t := M.length + 1) (M := M ++ [some (.row [.I x, .I y, .I z, .ref t 0 cs.length] true 0), some (.row [] true 1)]) (by simp) (fun a ha => by simp at ha) (Live.newj (b := .row (intL []) true 1) (j := 1) rfl).has
    rw [e1, e2, e3, show allS y.toNat z (x.toNat * y.toNat) [] = stairsOf x y z from rfl] at hall
    simp (disch := omega) only [↓SXd, SXu, slBounds, ↓sop, ↓aop, ↓reduceIte, LV.cells, AOp.dst, LV.I, LV.B, LV.U, LV.S, LV.nil, Nat.reduceEqDiff, Nat.reduceAdd, Nat.reduceMul, Nat.reduceSub, Nat.reduceLeDiff, Nat.reduceBEq, Nat.reduceDiv, Nat.reduceMod, Int.reduceToNat, Int.reduceLT, Int.reduceLE, Int.reduceAdd, Int.reduceSub, Int.reduceMul, Int.reduceEq, Int.reduceNeg, reduceCtorEq, resV, resAll, ARes.ev, LV.flat, ite_true, ite_false, exists_eq_left', exists_eq_left, keyOf, implies_true, fillC, capOf]
    refine callR_of hall ?_
    rintro _ N ⟨u, rfl, hp, hu, hT⟩
    have hTb := hT [] (by simp) (by simp)
    have b1 : Live N M.length (.row [.I x, .I y, .I z, .ref t 0 cs.length] true 0) := Live.new.pre hp
    have hMN : Pre M N := (Pre.app _ _).trans hp
    simp (disch := omega) only [(keepL_pr hp), ↓SXd, SXu, slBounds, ↓sop, ↓aop, ↓reduceIte, LV.cells, AOp.dst, LV.I, LV.B, LV.U, LV.S, LV.nil, Nat.reduceEqDiff, Nat.reduceAdd, Nat.reduceMul, Nat.reduceSub, Nat.reduceLeDiff, Nat.reduceBEq, Nat.reduceDiv, Nat.reduceMod, Int.reduceToNat, Int.reduceLT, Int.reduceLE, Int.reduceAdd, Int.reduceSub, Int.reduceMul, Int.reduceEq, Int.reduceNeg, reduceCtorEq, resV, resAll, ARes.ev, LV.flat, ite_true, ite_false, exists_eq_left', exists_eq_left, keyOf, implies_true, fillC, capOf]
    refine callK_of (h_l2Heights (h.pre hMN).has hV.1) ?_
    simp (disch := omega) only [↓SXd, SXu, slBounds, ↓sop, ↓aop, ↓reduceIte, LV.cells, AOp.dst, LV.I, LV.B, LV.U, LV.S, LV.nil, Nat.reduceEqDiff, Nat.reduceAdd, Nat.reduceMul, Nat.reduceSub, Nat.reduceLeDiff, Nat.reduceBEq, Nat.reduceDiv, Nat.reduceMod, Int.reduceToNat, Int.reduceLT, Int.reduceLE, Int.reduceAdd, Int.reduceSub, Int.reduceMul, Int.reduceEq, Int.reduceNeg, reduceCtorEq, resV, resAll, ARes.ev, LV.flat, ite_true, ite_false, exists_eq_left', exists_eq_left, keyOf, implies_true, fillC, capOf]
    generalize hH : viewL x y z 2 cs = H at *
    have hHl := hrow H hmem
    have bH : Live (N ++ [some (.row (intL H) true 1)]) N.length (.row (intL H) true 1) := Live.new
    have hTb2 := hTb.pre (Pre.app N [some (.row (intL H) true 1)])
    generalize stairsOf x y z = L at *
    refine ev_loop (fun m fr M' => ∃ i : Nat, i + m = L.length ∧ (∀ j, j < i → decide (L.getD j [] = H) = false) ∧ M' = N ++ [some (.row (intL H) true 1)] ∧ fr 4 = .ref u 0 L.length ∧ fr 5 = .ref N.length 0 H.length ∧ fr 6 = .I i) L.length
      ⟨0, by omega, fun j hj => by omega, rfl, rfl, rfl, rfl⟩ ?_
    rintro m fr M' ⟨i, hi, hb, rfl, f4, f5, f6⟩
    have hil : i < L.length := by
      rcases Nat.lt_or_ge i L.length with h | h
      · exact h
      · have h1 := List.findIdx_getElem (w := hrl)
        have h2 := hb (L.findIdx fun l => decide (l = H)) (by omega)
        rw [show L.getD (L.findIdx fun l => decide (l = H)) [] = L[L.findIdx fun l => decide (l = H)] by simp [hrl], h1] at h2
        cases h2
    obtain ⟨v, hg, hI⟩ := hTb2.at hil
    have hrl2 := hrow _ (getD_mem' (d := []) hil)
    simp (disch := omega) only [f4, f5, f6, hg, ↓SXd, SXu, slBounds, ↓sop, ↓aop, ↓reduceIte, LV.cells, AOp.dst, LV.I, LV.B, LV.U, LV.S, LV.nil, Nat.reduceEqDiff, Nat.reduceAdd, Nat.reduceMul, Nat.reduceSub, Nat.reduceLeDiff, Nat.reduceBEq, Nat.reduceDiv, Nat.reduceMod, Int.reduceToNat, Int.reduceLT, Int.reduceLE, Int.reduceAdd, Int.reduceSub, Int.reduceMul, Int.reduceEq, Int.reduceNeg, reduceCtorEq, resV, resAll, ARes.ev, LV.flat, ite_true, ite_false, exists_eq_left', exists_eq_left, keyOf, implies_true, fillC, capOf]
    refine callK_of (h_l1Same hI bH.has (by omega) (by omega)) ?_
    by_cases he : L.getD i [] = H
    · have := findIdx_at (p := fun l => decide (l = H)) hil (by rw [he]; simp) hb
      rw [this]
      simp (disch := omega) only [f4, f5, f6, he, ↓SXd, SXu, slBounds, ↓sop, ↓aop, ↓reduceIte, LV.cells, AOp.dst, LV.I, LV.B, LV.U, LV.S, LV.nil, Nat.reduceEqDiff, Nat.reduceAdd, Nat.reduceMul, Nat.reduceSub, Nat.reduceLeDiff, Nat.reduceBEq, Nat.reduceDiv, Nat.reduceMod, Int.reduceToNat, Int.reduceLT, Int.reduceLE, Int.reduceAdd, Int.reduceSub, Int.reduceMul, Int.reduceEq, Int.reduceNeg, reduceCtorEq, resV, resAll, ARes.ev, LV.flat, ite_true, ite_false, exists_eq_left', exists_eq_left, keyOf, implies_true, fillC, capOf]
      exact cmp_pre (hMN.trans (Pre.app _ _)) rfl
    · simp (disch := omega) only [f4, f5, f6, he, ↓SXd, SXu, slBounds, ↓sop, ↓aop, ↓reduceIte, LV.cells, AOp.dst, LV.I, LV.B, LV.U, LV.S, LV.nil, Nat.reduceEqDiff, Nat.reduceAdd, Nat.reduceMul, Nat.reduceSub, Nat.reduceLeDiff, Nat.reduceBEq, Nat.reduceDiv, Nat.reduceMod, Int.reduceToNat, Int.reduceLT, Int.reduceLE, Int.reduceAdd, Int.reduceSub, Int.reduceMul, Int.reduceEq, Int.reduceNeg, reduceCtorEq, resV, resAll, ARes.ev, LV.flat, ite_true, ite_false, exists_eq_left', exists_eq_left, keyOf, implies_true, fillC, capOf]
      refine ⟨m - 1, by omega, i + 1, by omega, fun j hj => ?_, rfl, f4, f5, eqI (natI _)⟩
      rcases Nat.lt_or_ge j i with h | h
      · exact hb j h
      · rw [show j = i by omega]; exact decide_eq_false he

/-- A search in a table. -/
theorem g_indexS {L : List (List Int)} {u b : Nat} {p : List Int → Bool} {N : Mem} {av : List Nat} (hT : TabR N u L av) (hl : L.length ≤ 1000000000000) {f : FuncId} (hf : ∀ (l : List Int) (v : Nat), l ∈ L → Ints N v 0 l → CallsTo PG f [.ref v 0 l.length, .ptr b 0] N (.B (p l)) N) (hx : L.findIdx p < L.length) :
    CallsTo PG F.slices_IndexFunc_SSint_Sint [.ref u 0 L.length, .clo f [(b, 0)]] N (.I (L.findIdx p : Nat)) N := by
  refine calls_run K.slices_IndexFunc_SSint_Sint rfl ?_
  simp (disch := omega) only [C.slices_IndexFunc_SSint_Sint, ↓SXd, SXu, slBounds, ↓sop, ↓aop, ↓reduceIte, LV.cells, AOp.dst, LV.I, LV.B, LV.U, LV.S, LV.nil, Nat.reduceEqDiff, Nat.reduceAdd, Nat.reduceMul, Nat.reduceSub, Nat.reduceLeDiff, Nat.reduceBEq, Nat.reduceDiv, Nat.reduceMod, Int.reduceToNat, Int.reduceLT, Int.reduceLE, Int.reduceAdd, Int.reduceSub, Int.reduceMul, Int.reduceEq, Int.reduceNeg, reduceCtorEq, resV, resAll, ARes.ev, LV.flat, ite_true, ite_false, exists_eq_left', exists_eq_left, keyOf, implies_true, fillC, capOf]
  refine ev_loop (fun m fr M' => ∃ i : Nat, i + m = L.length ∧ (∀ j, j < i → p (L.getD j []) = false) ∧ M' = N ∧ fr 0 = .ref u 0 L.length ∧ fr 1 = .clo f [(b, 0)] ∧ fr 7 = .I L.length ∧ fr 8 = .I i) L.length
    ⟨0, by omega, fun j hj => by omega, rfl, rfl, rfl, rfl, rfl⟩ ?_
  rintro m fr M' ⟨i, hi, hb, rfl, f0, f1, f7, f8⟩
  have hil : i < L.length := by
    rcases Nat.lt_or_ge i L.length with h | h
    · exact h
    · have h1 := List.findIdx_getElem (w := hx)
      have h2 := hb (L.findIdx p) (by omega)
      rw [show L.getD (L.findIdx p) [] = L[L.findIdx p] by simp [hx], h1] at h2
      cases h2
  obtain ⟨v, hg, hI⟩ := hT.at hil
  simp (disch := omega) only [f0, f1, f7, f8, hg, ↓SXd, SXu, slBounds, ↓sop, ↓aop, ↓reduceIte, LV.cells, AOp.dst, LV.I, LV.B, LV.U, LV.S, LV.nil, Nat.reduceEqDiff, Nat.reduceAdd, Nat.reduceMul, Nat.reduceSub, Nat.reduceLeDiff, Nat.reduceBEq, Nat.reduceDiv, Nat.reduceMod, Int.reduceToNat, Int.reduceLT, Int.reduceLE, Int.reduceAdd, Int.reduceSub, Int.reduceMul, Int.reduceEq, Int.reduceNeg, reduceCtorEq, resV, resAll, ARes.ev, LV.flat, ite_true, ite_false, exists_eq_left', exists_eq_left, keyOf, implies_true, fillC, capOf]
  refine callK_of (hf _ v (getD_mem' hil) hI) ?_
  cases hp : p (L.getD i []) with
  | true =>
    have := findIdx_at hil hp hb
    rw [this]
    simp (disch := omega) only [f0, f1, f7, f8, ↓SXd, SXu, slBounds, ↓sop, ↓aop, ↓reduceIte, LV.cells, AOp.dst, LV.I, LV.B, LV.U, LV.S, LV.nil, Nat.reduceEqDiff, Nat.reduceAdd, Nat.reduceMul, Nat.reduceSub, Nat.reduceLeDiff, Nat.reduceBEq, Nat.reduceDiv, Nat.reduceMod, Int.reduceToNat, Int.reduceLT, Int.reduceLE, Int.reduceAdd, Int.reduceSub, Int.reduceMul, Int.reduceEq, Int.reduceNeg, reduceCtorEq, resV, resAll, ARes.ev, LV.flat, ite_true, ite_false, exists_eq_left', exists_eq_left, keyOf, implies_true, fillC, capOf]
    exact cmp_drop0 rfl
  | false =>
    simp (disch := omega) only [f0, f1, f7, f8, ↓SXd, SXu, slBounds, ↓sop, ↓aop, ↓reduceIte, LV.cells, AOp.dst, LV.I, LV.B, LV.U, LV.S, LV.nil, Nat.reduceEqDiff, Nat.reduceAdd, Nat.reduceMul, Nat.reduceSub, Nat.reduceLeDiff, Nat.reduceBEq, Nat.reduceDiv, Nat.reduceMod, Int.reduceToNat, Int.reduceLT, Int.reduceLE, Int.reduceAdd, Int.reduceSub, Int.reduceMul, Int.reduceEq, Int.reduceNeg, reduceCtorEq, resV, resAll, ARes.ev, LV.flat, ite_true, ite_false, exists_eq_left', exists_eq_left, keyOf, implies_true, fillC, capOf]
    refine ⟨m - 1, by omega, i + 1, by omega, fun j hj => ?_, rfl, f0, f1, f7, eqI (natI _)⟩
    rcases Nat.lt_or_ge j i with h | h
    · exact hb j h
    · rw [show j = i by omega]; exact hp
theorem g_RankStair {x y z : Int} {t : Nat} {w : Bool} {cs : List Cell} {M : Mem} (h : Live M t (.row (triL cs) w 3)) (hn : cs.length ≤ 1000000000) :
    CallsTo PG F.impl_RankStair [.agg [.I x, .I y, .I z, .ref t 0 cs.length]] M (.tup [.I (rnkV x y z cs : Nat), .B (rnkB x y z cs)]) M := by
  refine calls_run K.impl_RankStair rfl ?_
  simp (disch := omega) only [C.impl_RankStair, ↓SXd, SXu, slBounds, ↓sop, ↓aop, ↓reduceIte, LV.cells, AOp.dst, LV.I, LV.B, LV.U, LV.S, LV.nil, Nat.reduceEqDiff, Nat.reduceAdd, Nat.reduceMul, Nat.reduceSub, Nat.reduceLeDiff, Nat.reduceBEq, Nat.reduceDiv, Nat.reduceMod, Int.reduceToNat, Int.reduceLT, Int.reduceLE, Int.reduceAdd, Int.reduceSub, Int.reduceMul, Int.reduceEq, Int.reduceNeg, reduceCtorEq, resV, resAll, ARes.ev, LV.flat, ite_true, ite_false, exists_eq_left', exists_eq_left, keyOf, implies_true, fillC, capOf]
  refine callK_of (g_box) ?_
  simp (disch := omega) only [↓SXd, SXu, slBounds, ↓sop, ↓aop, ↓reduceIte, LV.cells, AOp.dst, LV.I, LV.B, LV.U, LV.S, LV.nil, Nat.reduceEqDiff, Nat.reduceAdd, Nat.reduceMul, Nat.reduceSub, Nat.reduceLeDiff, Nat.reduceBEq, Nat.reduceDiv, Nat.reduceMod, Int.reduceToNat, Int.reduceLT, Int.reduceLE, Int.reduceAdd, Int.reduceSub, Int.reduceMul, Int.reduceEq, Int.reduceNeg, reduceCtorEq, resV, resAll, ARes.ev, LV.flat, ite_true, ite_false, exists_eq_left', exists_eq_left, keyOf, implies_true, fillC, capOf]
  refine callR_of g_stairs ?_
  rintro _ N ⟨hr, hp⟩
  have b1 : Live N M.length (.row [.I x, .I y, .I z, .ref t 0 cs.length] true 0) := Live.new.pre hp
  have hMN : Pre M N := (Pre.app _ _).trans hp
  unfold rnkV rnkB
  rcases hr with ⟨hf, u, rfl, hu, hT⟩ | ⟨hf, rfl⟩
  rotate_left
  · rw [hf, Bool.and_false, if_neg (by simp)]
    simp (disch := omega) only [↓SXd, SXu, slBounds, ↓sop, ↓aop, ↓reduceIte, LV.cells, AOp.dst, LV.I, LV.B, LV.U, LV.S, LV.nil, Nat.reduceEqDiff, Nat.reduceAdd, Nat.reduceMul, Nat.reduceSub, Nat.reduceLeDiff, Nat.reduceBEq, Nat.reduceDiv, Nat.reduceMod, Int.reduceToNat, Int.reduceLT, Int.reduceLE, Int.reduceAdd, Int.reduceSub, Int.reduceMul, Int.reduceEq, Int.reduceNeg, reduceCtorEq, resV, resAll, ARes.ev, LV.flat, ite_true, ite_false, exists_eq_left', exists_eq_left, keyOf, implies_true, fillC, capOf]
    exact cmp_pre hMN rfl
  rw [hf, Bool.and_true]
  simp (disch := omega) only [b1.cells, ↓SXd, SXu, slBounds, ↓sop, ↓aop, ↓reduceIte, LV.cells, AOp.dst, LV.I, LV.B, LV.U, LV.S, LV.nil, Nat.reduceEqDiff, Nat.reduceAdd, Nat.reduceMul, Nat.reduceSub, Nat.reduceLeDiff, Nat.reduceBEq, Nat.reduceDiv, Nat.reduceMod, Int.reduceToNat, Int.reduceLT, Int.reduceLE, Int.reduceAdd, Int.reduceSub, Int.reduceMul, Int.reduceEq, Int.reduceNeg, reduceCtorEq, resV, resAll, ARes.ev, LV.flat, ite_true, ite_false, exists_eq_left', exists_eq_left, keyOf, implies_true, fillC, capOf]
  refine callK_of (g_isStair (h.pre hMN).has hn) ?_
  by_cases hV : HeapOK x y z cs ∧ StairP x y z (fun c => decide (c ∈ cs))
  rotate_left
  · rw [str_no hV, if_neg (by simp)]
    simp (disch := omega) only [↓SXd, SXu, slBounds, ↓sop, ↓aop, ↓reduceIte, LV.cells, AOp.dst, LV.I, LV.B, LV.U, LV.S, LV.nil, Nat.reduceEqDiff, Nat.reduceAdd, Nat.reduceMul, Nat.reduceSub, Nat.reduceLeDiff, Nat.reduceBEq, Nat.reduceDiv, Nat.reduceMod, Int.reduceToNat, Int.reduceLT, Int.reduceLE, Int.reduceAdd, Int.reduceSub, Int.reduceMul, Int.reduceEq, Int.reduceNeg, reduceCtorEq, resV, resAll, ARes.ev, LV.flat, ite_true, ite_false, exists_eq_left', exists_eq_left, keyOf, implies_true, fillC, capOf]
    exact cmp_pre hMN rfl
  rw [str_yes hV, if_pos rfl]
  have hS := hV.1.1
  have hlen := hV.1.len
  have hst := stair_tops hV
  have htl := topsOf_len x y cs
  have hvl := stairs_row hS (stair_mem hV)
  simp (disch := omega) only [↓SXd, SXu, slBounds, ↓sop, ↓aop, ↓reduceIte, LV.cells, AOp.dst, LV.I, LV.B, LV.U, LV.S, LV.nil, Nat.reduceEqDiff, Nat.reduceAdd, Nat.reduceMul, Nat.reduceSub, Nat.reduceLeDiff, Nat.reduceBEq, Nat.reduceDiv, Nat.reduceMod, Int.reduceToNat, Int.reduceLT, Int.reduceLE, Int.reduceAdd, Int.reduceSub, Int.reduceMul, Int.reduceEq, Int.reduceNeg, reduceCtorEq, resV, resAll, ARes.ev, LV.flat, ite_true, ite_false, exists_eq_left', exists_eq_left, keyOf, implies_true, fillC, capOf]
  refine callK_of (g_indexS (p := fun l => decide (l = viewL x y z 2 cs)) hT (stairs_len hS) (fun l v hl hI => ?_) (rank_lt hV)) ?_
  · have hrl := stairs_row hS hl
    refine calls_run K.impl_RankStair_1 rfl ?_
    simp (disch := omega) only [C.impl_RankStair_1, b1.cells, ↓SXd, SXu, slBounds, ↓sop, ↓aop, ↓reduceIte, LV.cells, AOp.dst, LV.I, LV.B, LV.U, LV.S, LV.nil, Nat.reduceEqDiff, Nat.reduceAdd, Nat.reduceMul, Nat.reduceSub, Nat.reduceLeDiff, Nat.reduceBEq, Nat.reduceDiv, Nat.reduceMod, Int.reduceToNat, Int.reduceLT, Int.reduceLE, Int.reduceAdd, Int.reduceSub, Int.reduceMul, Int.reduceEq, Int.reduceNeg, reduceCtorEq, resV, resAll, ARes.ev, LV.flat, ite_true, ite_false, exists_eq_left', exists_eq_left, keyOf, implies_true, fillC, capOf]
    refine callK_of (g_heights (h.pre hMN).has hn hV.1) ?_
    rw [hst]
    rw [hst] at htl
    simp (disch := omega) only [↓SXd, SXu, slBounds, ↓sop, ↓aop, ↓reduceIte, LV.cells, AOp.dst, LV.I, LV.B, LV.U, LV.S, LV.nil, Nat.reduceEqDiff, Nat.reduceAdd, Nat.reduceMul, Nat.reduceSub, Nat.reduceLeDiff, Nat.reduceBEq, Nat.reduceDiv, Nat.reduceMod, Int.reduceToNat, Int.reduceLT, Int.reduceLE, Int.reduceAdd, Int.reduceSub, Int.reduceMul, Int.reduceEq, Int.reduceNeg, reduceCtorEq, resV, resAll, ARes.ev, LV.flat, ite_true, ite_false, exists_eq_left', exists_eq_left, keyOf, implies_true, fillC, capOf]
    have hq := g_equalI (M := N ++ [some (.row (intL (viewL x y z 2 cs)) true 1)]) hI.app (Live.new (b := .row (intL (viewL x y z 2 cs)) true 1)).has (by omega) (by omega)
    rw [htl] at hq
    refine callK_of hq ?_
    simp (disch := omega) only [↓SXd, SXu, slBounds, ↓sop, ↓aop, ↓reduceIte, LV.cells, AOp.dst, LV.I, LV.B, LV.U, LV.S, LV.nil, Nat.reduceEqDiff, Nat.reduceAdd, Nat.reduceMul, Nat.reduceSub, Nat.reduceLeDiff, Nat.reduceBEq, Nat.reduceDiv, Nat.reduceMod, Int.reduceToNat, Int.reduceLT, Int.reduceLE, Int.reduceAdd, Int.reduceSub, Int.reduceMul, Int.reduceEq, Int.reduceNeg, reduceCtorEq, resV, resAll, ARes.ev, LV.flat, ite_true, ite_false, exists_eq_left', exists_eq_left, keyOf, implies_true, fillC, capOf]
    exact cmp_drop rfl
  simp (disch := omega) only [↓SXd, SXu, slBounds, ↓sop, ↓aop, ↓reduceIte, LV.cells, AOp.dst, LV.I, LV.B, LV.U, LV.S, LV.nil, Nat.reduceEqDiff, Nat.reduceAdd, Nat.reduceMul, Nat.reduceSub, Nat.reduceLeDiff, Nat.reduceBEq, Nat.reduceDiv, Nat.reduceMod, Int.reduceToNat, Int.reduceLT, Int.reduceLE, Int.reduceAdd, Int.reduceSub, Int.reduceMul, Int.reduceEq, Int.reduceNeg, reduceCtorEq, resV, resAll, ARes.ev, LV.flat, ite_true, ite_false, exists_eq_left', exists_eq_left, keyOf, implies_true, fillC, capOf]
  exact cmp_pre hMN rfl
end Go.Ab

/- The law of RankStair. -/
namespace Go.Ab
open Go
set_option linter.unusedSimpArgs false
set_option linter.unusedVariables false
set_option maxRecDepth 20000

theorem l_RankStair {x y z : Int} {t o : Nat} {cs : List Cell} {M : Mem} (h : Tri M t o cs) (hn0 : cs.length ≤ 9223372036854775807) :
    CallsR PG F.laws_FnExactRankStair [.agg [.I x, .I y, .I z, .ref t o cs.length]] M fun v _ => v = .B true := by
  have ht := h.lt
  refine callsR_run K.laws_FnExactRankStair rfl ?_
  simp (disch := omega) only [C.laws_FnExactRankStair, ↓SXd, SXu, slBounds, ↓sop, ↓aop, ↓reduceIte, LV.cells, AOp.dst, LV.I, LV.B, LV.U, LV.S, LV.nil, Nat.reduceEqDiff, Nat.reduceAdd, Nat.reduceMul, Nat.reduceSub, Nat.reduceLeDiff, Nat.reduceBEq, Nat.reduceDiv, Nat.reduceMod, Int.reduceToNat, Int.reduceLT, Int.reduceLE, Int.reduceAdd, Int.reduceSub, Int.reduceMul, Int.reduceEq, Int.reduceNeg, reduceCtorEq, resV, resAll, ARes.ev, LV.flat, ite_true, ite_false, exists_eq_left', exists_eq_left, keyOf, implies_true, fillC, capOf]
  refine callK_of (h_szHeap (by omega) (by omega) (by omega)) ?_
  simp (disch := omega) only [↓SXd, SXu, slBounds, ↓sop, ↓aop, ↓reduceIte, LV.cells, AOp.dst, LV.I, LV.B, LV.U, LV.S, LV.nil, Nat.reduceEqDiff, Nat.reduceAdd, Nat.reduceMul, Nat.reduceSub, Nat.reduceLeDiff, Nat.reduceBEq, Nat.reduceDiv, Nat.reduceMod, Int.reduceToNat, Int.reduceLT, Int.reduceLE, Int.reduceAdd, Int.reduceSub, Int.reduceMul, Int.reduceEq, Int.reduceNeg, reduceCtorEq, resV, resAll, ARes.ev, LV.flat, ite_true, ite_false, exists_eq_left', exists_eq_left, keyOf, implies_true, fillC, capOf]
  by_cases hl : (1048576 : Int) < (cs.length : Nat)
  · rw [if_pos hl]
    simp (disch := omega) only [Int.reduceLT, ↓SXd, SXu, slBounds, ↓sop, ↓aop, ↓reduceIte, LV.cells, AOp.dst, LV.I, LV.B, LV.U, LV.S, LV.nil, Nat.reduceEqDiff, Nat.reduceAdd, Nat.reduceMul, Nat.reduceSub, Nat.reduceLeDiff, Nat.reduceBEq, Nat.reduceDiv, Nat.reduceMod, Int.reduceToNat, Int.reduceLT, Int.reduceLE, Int.reduceAdd, Int.reduceSub, Int.reduceMul, Int.reduceEq, Int.reduceNeg, reduceCtorEq, resV, resAll, ARes.ev, LV.flat, ite_true, ite_false, exists_eq_left', exists_eq_left, keyOf, implies_true, fillC, capOf]
    rfl
  · rw [if_neg hl]
    have hn : cs.length ≤ 1000000000 := by omega
    simp (disch := omega) only [↓SXd, SXu, slBounds, ↓sop, ↓aop, ↓reduceIte, LV.cells, AOp.dst, LV.I, LV.B, LV.U, LV.S, LV.nil, Nat.reduceEqDiff, Nat.reduceAdd, Nat.reduceMul, Nat.reduceSub, Nat.reduceLeDiff, Nat.reduceBEq, Nat.reduceDiv, Nat.reduceMod, Int.reduceToNat, Int.reduceLT, Int.reduceLE, Int.reduceAdd, Int.reduceSub, Int.reduceMul, Int.reduceEq, Int.reduceNeg, reduceCtorEq, resV, resAll, ARes.ev, LV.flat, ite_true, ite_false, exists_eq_left', exists_eq_left, keyOf, implies_true, fillC, capOf]
    refine callK_of (h_toHeap h.app hn) ?_
    simp (disch := omega) only [↓SXd, SXu, slBounds, ↓sop, ↓aop, ↓reduceIte, LV.cells, AOp.dst, LV.I, LV.B, LV.U, LV.S, LV.nil, Nat.reduceEqDiff, Nat.reduceAdd, Nat.reduceMul, Nat.reduceSub, Nat.reduceLeDiff, Nat.reduceBEq, Nat.reduceDiv, Nat.reduceMod, Int.reduceToNat, Int.reduceLT, Int.reduceLE, Int.reduceAdd, Int.reduceSub, Int.reduceMul, Int.reduceEq, Int.reduceNeg, reduceCtorEq, resV, resAll, ARes.ev, LV.flat, ite_true, ite_false, exists_eq_left', exists_eq_left, keyOf, implies_true, fillC, capOf]
    refine callK_of (h_sRankStair (Live.newj (j := 1) (b := .row (triL cs) true 3) rfl) hn) ?_
    simp (disch := omega) only [↓SXd, SXu, slBounds, ↓sop, ↓aop, ↓reduceIte, LV.cells, AOp.dst, LV.I, LV.B, LV.U, LV.S, LV.nil, Nat.reduceEqDiff, Nat.reduceAdd, Nat.reduceMul, Nat.reduceSub, Nat.reduceLeDiff, Nat.reduceBEq, Nat.reduceDiv, Nat.reduceMod, Int.reduceToNat, Int.reduceLT, Int.reduceLE, Int.reduceAdd, Int.reduceSub, Int.reduceMul, Int.reduceEq, Int.reduceNeg, reduceCtorEq, resV, resAll, ARes.ev, LV.flat, ite_true, ite_false, exists_eq_left', exists_eq_left, keyOf, implies_true, fillC, capOf]
    refine callK_of (h_toHeap h.app hn) ?_
    simp (disch := omega) only [↓SXd, SXu, slBounds, ↓sop, ↓aop, ↓reduceIte, LV.cells, AOp.dst, LV.I, LV.B, LV.U, LV.S, LV.nil, Nat.reduceEqDiff, Nat.reduceAdd, Nat.reduceMul, Nat.reduceSub, Nat.reduceLeDiff, Nat.reduceBEq, Nat.reduceDiv, Nat.reduceMod, Int.reduceToNat, Int.reduceLT, Int.reduceLE, Int.reduceAdd, Int.reduceSub, Int.reduceMul, Int.reduceEq, Int.reduceNeg, reduceCtorEq, resV, resAll, ARes.ev, LV.flat, ite_true, ite_false, exists_eq_left', exists_eq_left, keyOf, implies_true, fillC, capOf]
    refine callK_of (g_RankStair (Live.newj (j := 2) (b := .row (triL cs) true 3) rfl) hn) ?_
    simp (disch := omega) only [↓SXd, SXu, slBounds, ↓sop, ↓aop, ↓reduceIte, LV.cells, AOp.dst, LV.I, LV.B, LV.U, LV.S, LV.nil, Nat.reduceEqDiff, Nat.reduceAdd, Nat.reduceMul, Nat.reduceSub, Nat.reduceLeDiff, Nat.reduceBEq, Nat.reduceDiv, Nat.reduceMod, Int.reduceToNat, Int.reduceLT, Int.reduceLE, Int.reduceAdd, Int.reduceSub, Int.reduceMul, Int.reduceEq, Int.reduceNeg, reduceCtorEq, resV, resAll, ARes.ev, LV.flat, ite_true, ite_false, exists_eq_left', exists_eq_left, keyOf, implies_true, fillC, capOf]
    refine callK_of (h_toHeap h.app hn) ?_
    simp (disch := omega) only [↓SXd, SXu, slBounds, ↓sop, ↓aop, ↓reduceIte, LV.cells, AOp.dst, LV.I, LV.B, LV.U, LV.S, LV.nil, Nat.reduceEqDiff, Nat.reduceAdd, Nat.reduceMul, Nat.reduceSub, Nat.reduceLeDiff, Nat.reduceBEq, Nat.reduceDiv, Nat.reduceMod, Int.reduceToNat, Int.reduceLT, Int.reduceLE, Int.reduceAdd, Int.reduceSub, Int.reduceMul, Int.reduceEq, Int.reduceNeg, reduceCtorEq, resV, resAll, ARes.ev, LV.flat, ite_true, ite_false, exists_eq_left', exists_eq_left, keyOf, implies_true, fillC, capOf]
    have he := h_eqHeap (x := x) (y := y) (z := z) (x' := x) (y' := y) (z' := z) (cs := cs) (ds := cs) (t := M.length + 2) (o := 0) (t' := M.length + 4) (o' := 0) (M := M ++ [some (.row [.I x, .I y, .I z, .ref t o cs.length] true 0), some (.row (triL cs) true 3), some (.row (triL cs) true 3), some (.row [.I x, .I y, .I z, .ref (M.length + 2) 0 cs.length] true 0), some (.row (triL cs) true 3)])
      (Live.newj (j := 2) rfl).has (Live.newj (j := 4) rfl).has hn hn
    rw [decide_eq_true (by simp)] at he
    refine callK_of he ?_
    simp (disch := omega) only [↓SXd, SXu, slBounds, ↓sop, ↓aop, ↓reduceIte, LV.cells, AOp.dst, LV.I, LV.B, LV.U, LV.S, LV.nil, Nat.reduceEqDiff, Nat.reduceAdd, Nat.reduceMul, Nat.reduceSub, Nat.reduceLeDiff, Nat.reduceBEq, Nat.reduceDiv, Nat.reduceMod, Int.reduceToNat, Int.reduceLT, Int.reduceLE, Int.reduceAdd, Int.reduceSub, Int.reduceMul, Int.reduceEq, Int.reduceNeg, reduceCtorEq, resV, resAll, ARes.ev, LV.flat, ite_true, ite_false, exists_eq_left', exists_eq_left, keyOf, implies_true, fillC, capOf]
    rfl
end Go.Ab
