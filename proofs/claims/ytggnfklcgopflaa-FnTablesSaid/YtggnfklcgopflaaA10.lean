/- Parts of the proof of FnTablesSaid: Bc Cf Cl Cm C_Cj K_Cj C_Ci K_Ci C_Cg K_Cg Cg Ci C_Ch K_Ch C_On K_On Om On Ch C_Ji K_Ji C_Jh K_Jh Jh Ji Cj Cn. -/
import Derived.Test.YtggnfklcgopflaaA9
import Derived.Test.YtggnfklcgopflaaA4
import Derived.Test.YtggnfklcgopflaaA8
import Derived.Test.YtggnfklcgopflaaA6
import Derived.Test.YtggnfklcgopflaaA3
import Derived.Test.YtggnfklcgopflaaProg
import Derived.KernelRfl
import Derived.Test.YtggnfklcgopflaaA5
import Derived.Test.YtggnfklcgopflaaA7
set_option linter.all false
/- Contracts: layers as tables, both sides; the sum of a layer. -/
namespace Go.Ab
open Go
set_option linter.unusedSimpArgs false
set_option linter.unusedVariables false
set_option maxRecDepth 20000

def lyrC (d : Nat) (k i j : Int) : Cell := if d = 0 then ⟨k, i, j⟩ else if d = 1 then ⟨i, k, j⟩ else ⟨i, j, k⟩
def dirA (d : Nat) : Int := if d = 0 then 1 else 0
def dirB (d : Nat) : Int := if d = 2 then 1 else 2
def lyrV (d : Nat) (k : Int) (cs : List Cell) (i j : Nat) : Int := if lyrC d k i j ∈ cs then 1 else 0
def lyrR (x y z : Int) (d : Nat) (k : Int) (cs : List Cell) (i : Nat) (n : Nat) : List Int := (List.range n).map fun j => lyrV d k cs i j
def lyrT (x y z : Int) (d : Nat) (k : Int) (cs : List Cell) (m : Nat) : List (List Int) := (List.range m).map fun i => lyrR x y z d k cs i (sideOf x y z (dirB d)).toNat
section
variable {x y z : Int} {d : Nat} {k : Int} {cs : List Cell}
theorem lyrR_succ {i n : Nat} : lyrR x y z d k cs i (n + 1) = lyrR x y z d k cs i n ++ [lyrV d k cs i n] := by simp [lyrR, List.range_succ]
theorem lyrR_len {i n : Nat} : (lyrR x y z d k cs i n).length = n := by simp [lyrR]
theorem lyrT_succ {m : Nat} : lyrT x y z d k cs (m + 1) = lyrT x y z d k cs m ++ [lyrR x y z d k cs m (sideOf x y z (dirB d)).toNat] := by simp [lyrT, List.range_succ]
theorem lyrT_len {m : Nat} : (lyrT x y z d k cs m).length = m := by simp [lyrT]
theorem lyr_row {i j : Int} (hd : d < 3) : (([LV.I 0, .I 0, .I 0].set d (.I k)).set (dirA d).toNat (.I i)).set (dirB d).toNat (.I j) = [.I (lyrC d k i j).a, .I (lyrC d k i j).b, .I (lyrC d k i j).c] := by
  rcases (show d = 0 ∨ d = 1 ∨ d = 2 by omega) with rfl | rfl | rfl <;> rfl
/-- The sum of all rows. -/
def tabSum (L : List (List Int)) : Int := litSum (L.map litSum)
end
/-- What LayerOf answers. -/
def LyrOK (x y z : Int) (cs : List Cell) (d k : Int) : Prop := HeapOK x y z cs ∧ Dir d ∧ 0 ≤ k ∧ k < sideOf x y z d
noncomputable instance (x y z : Int) (cs : List Cell) (d k : Int) : Decidable (LyrOK x y z cs d k) := Classical.propDecidable _
noncomputable def lyrOf (x y z : Int) (cs : List Cell) (d k : Int) : List (List Int) := if LyrOK x y z cs d k then lyrT x y z d.toNat k cs (sideOf x y z (dirA d.toNat)).toNat else []
noncomputable def lyrB (x y z : Int) (cs : List Cell) (d k : Int) : Bool := decide (LyrOK x y z cs d k)
def TabG (M : Mem) (L : List (List Int)) (b : Bool) (v : LV) (N : Mem) : Prop := ∃ w, v = .tup [w, .B b] ∧ TabV N w L ∧ Pre M N
section
variable {x y z : Int} {t : Nat} {cs : List Cell} {M : Mem} (h : Tri M t 0 cs)
include h
theorem h_l2Layer {d : Nat} {k : Int} (hH : HeapOK x y z cs) (hd : d < 3) (hk : 0 ≤ k ∧ k < sideOf x y z (d : Nat)) : CallsR PG F.spec_l2Layer [.agg [.I x, .I y, .I z, .ref t 0 cs.length], .I d, .I k] M fun v N => ∃ u : Nat, v = .ref u 0 (lyrT x y z d k cs (sideOf x y z (dirA d)).toNat).length ∧ TabV N (.ref u 0 (lyrT x y z d k cs (sideOf x y z (dirA d)).toNat).length) (lyrT x y z d k cs (sideOf x y z (dirA d)).toNat) ∧ Pre M N := by
  have hS := hH.1
  have hlen := hH.len
  have hda : Dir (dirA d) := by unfold dirA Dir; split <;> omega
  have hdb : Dir (dirB d) := by unfold dirB Dir; split <;> omega
  have hrA : 0 ≤ dirA d ∧ dirA d < 3 := by unfold dirA; split <;> omega
  have hrB : 0 ≤ dirB d ∧ dirB d < 3 := by unfold dirB; split <;> omega
  have hlr := fun (i j : Int) => lyr_row (k := k) (i := i) (j := j) hd
  refine callsR_run K.spec_l2Layer rfl ?_
  simp (disch := omega) only [C.spec_l2Layer, ↓SXd, SXu, slBounds, ↓sop, ↓aop, ↓reduceIte, LV.cells, AOp.dst, LV.I, LV.B, LV.U, LV.S, LV.nil, Nat.reduceEqDiff, Nat.reduceAdd, Nat.reduceMul, Nat.reduceSub, Nat.reduceLeDiff, Nat.reduceBEq, Nat.reduceDiv, Nat.reduceMod, Int.reduceToNat, Int.reduceLT, Int.reduceLE, Int.reduceAdd, Int.reduceSub, Int.reduceMul, Int.reduceEq, Int.reduceNeg, reduceCtorEq, resV, resAll, ARes.ev, LV.flat, ite_true, ite_false, exists_eq_left', exists_eq_left, keyOf, implies_true, fillC, capOf]
  refine callK_of (h_l2Others hd) ?_
  change putK _ _ _ (.tup [.I (dirA d), .I (dirB d)]) _
  simp (disch := omega) only [↓SXd, SXu, slBounds, ↓sop, ↓aop, ↓reduceIte, LV.cells, AOp.dst, LV.I, LV.B, LV.U, LV.S, LV.nil, Nat.reduceEqDiff, Nat.reduceAdd, Nat.reduceMul, Nat.reduceSub, Nat.reduceLeDiff, Nat.reduceBEq, Nat.reduceDiv, Nat.reduceMod, Int.reduceToNat, Int.reduceLT, Int.reduceLE, Int.reduceAdd, Int.reduceSub, Int.reduceMul, Int.reduceEq, Int.reduceNeg, reduceCtorEq, resV, resAll, ARes.ev, LV.flat, ite_true, ite_false, exists_eq_left', exists_eq_left, keyOf, implies_true, fillC, capOf]
  have sA := sideOf_in hS (dirA d)
  have sB := sideOf_in hS (dirB d)
  refine ev_loop (fun m fr M' => ∃ (i : Nat) (u : Nat), i + m = (sideOf x y z (dirA d)).toNat ∧ Pre M M' ∧ M.length + 1 ≤ M'.length ∧ Live M' M.length (.row [.I x, .I y, .I z, .ref t 0 cs.length] true 0) ∧ TabO M' u (lyrT x y z d k cs i) M'.length M.length ∧ M.length < u ∧
    fr 1 = .I d ∧ fr 2 = .I k ∧ fr 3 = .ptr M.length 0 ∧ fr 7 = .I (dirA d) ∧ fr 8 = .I (dirB d) ∧ fr 9 = .ref u 0 (lyrT x y z d k cs i).length ∧ fr 10 = .I i) (sideOf x y z (dirA d)).toNat
    ⟨0, M.length + 1, by omega, Pre.app _ _, by simp, Live.new, TabO.nil (Live.newj (j := 1) rfl) (by omega), by omega, rfl, rfl, rfl, rfl, rfl, rfl, rfl⟩ ?_
  rintro m fr M' ⟨i, u, hi, hpre, hM', b3, hT, hu, f1, f2, f3, f7, f8, f9, f10⟩
  simp (disch := omega) only [f1, f2, f3, f7, f8, f9, f10, b3.cells, ↓SXd, SXu, slBounds, ↓sop, ↓aop, ↓reduceIte, LV.cells, AOp.dst, LV.I, LV.B, LV.U, LV.S, LV.nil, Nat.reduceEqDiff, Nat.reduceAdd, Nat.reduceMul, Nat.reduceSub, Nat.reduceLeDiff, Nat.reduceBEq, Nat.reduceDiv, Nat.reduceMod, Int.reduceToNat, Int.reduceLT, Int.reduceLE, Int.reduceAdd, Int.reduceSub, Int.reduceMul, Int.reduceEq, Int.reduceNeg, reduceCtorEq, resV, resAll, ARes.ev, LV.flat, ite_true, ite_false, exists_eq_left', exists_eq_left, keyOf, implies_true, fillC, capOf]
  refine callK_of (h_l2Long hda) ?_
  simp (disch := omega) only [f1, f2, f3, f7, f8, f9, f10, ↓SXd, SXu, slBounds, ↓sop, ↓aop, ↓reduceIte, LV.cells, AOp.dst, LV.I, LV.B, LV.U, LV.S, LV.nil, Nat.reduceEqDiff, Nat.reduceAdd, Nat.reduceMul, Nat.reduceSub, Nat.reduceLeDiff, Nat.reduceBEq, Nat.reduceDiv, Nat.reduceMod, Int.reduceToNat, Int.reduceLT, Int.reduceLE, Int.reduceAdd, Int.reduceSub, Int.reduceMul, Int.reduceEq, Int.reduceNeg, reduceCtorEq, resV, resAll, ARes.ev, LV.flat, ite_true, ite_false, exists_eq_left', exists_eq_left, keyOf, implies_true, fillC, capOf]
  refine condC_dec (fun hlt => ?_) (fun hlt => ?_)
  · have hi4 : i < 4 := by omega
    have hb3l := b3.lt
    simp (disch := omega) only [f1, f2, f3, f7, f8, f9, f10, ↓SXd, SXu, slBounds, ↓sop, ↓aop, ↓reduceIte, LV.cells, AOp.dst, LV.I, LV.B, LV.U, LV.S, LV.nil, Nat.reduceEqDiff, Nat.reduceAdd, Nat.reduceMul, Nat.reduceSub, Nat.reduceLeDiff, Nat.reduceBEq, Nat.reduceDiv, Nat.reduceMod, Int.reduceToNat, Int.reduceLT, Int.reduceLE, Int.reduceAdd, Int.reduceSub, Int.reduceMul, Int.reduceEq, Int.reduceNeg, reduceCtorEq, resV, resAll, ARes.ev, LV.flat, ite_true, ite_false, exists_eq_left', exists_eq_left, keyOf, implies_true, fillC, capOf]
    refine ev_loop (fun m2 fr N => ∃ (j r : Nat), j + m2 = (sideOf x y z (dirB d)).toNat ∧ Pre M' N ∧ M'.length ≤ r ∧ Live N r (.row (intL (lyrR x y z d k cs i j)) true 1) ∧
      fr 1 = .I d ∧ fr 2 = .I k ∧ fr 3 = .ptr M.length 0 ∧ fr 7 = .I (dirA d) ∧ fr 8 = .I (dirB d) ∧ fr 9 = .ref u 0 (lyrT x y z d k cs i).length ∧ fr 10 = .I i ∧ fr 11 = .ref r 0 (lyrR x y z d k cs i j).length ∧ fr 12 = .I j) (sideOf x y z (dirB d)).toNat
      ⟨0, M'.length, by omega, Pre.app _ _, Nat.le_refl _, Live.new, f1, f2, f3, f7, f8, f9, f10, rfl, rfl⟩ ?_
    clear f1 f2 f3 f7 f8 f9 f10
    rintro m2 fr N ⟨j, r, hj, hp, hr, br, f1, f2, f3, f7, f8, f9, f10, f11, f12⟩
    have c3 := b3.pre hp
    simp (disch := omega) only [f2, f3, f7, f8, f9, f10, f11, f12, c3.cells, ↓SXd, SXu, slBounds, ↓sop, ↓aop, ↓reduceIte, LV.cells, AOp.dst, LV.I, LV.B, LV.U, LV.S, LV.nil, Nat.reduceEqDiff, Nat.reduceAdd, Nat.reduceMul, Nat.reduceSub, Nat.reduceLeDiff, Nat.reduceBEq, Nat.reduceDiv, Nat.reduceMod, Int.reduceToNat, Int.reduceLT, Int.reduceLE, Int.reduceAdd, Int.reduceSub, Int.reduceMul, Int.reduceEq, Int.reduceNeg, reduceCtorEq, resV, resAll, ARes.ev, LV.flat, ite_true, ite_false, exists_eq_left', exists_eq_left, keyOf, implies_true, fillC, capOf]
    refine callK_of (h_l2Long hdb) ?_
    simp (disch := omega) only [f2, f3, f7, f8, f9, f10, f11, f12, ↓SXd, SXu, slBounds, ↓sop, ↓aop, ↓reduceIte, LV.cells, AOp.dst, LV.I, LV.B, LV.U, LV.S, LV.nil, Nat.reduceEqDiff, Nat.reduceAdd, Nat.reduceMul, Nat.reduceSub, Nat.reduceLeDiff, Nat.reduceBEq, Nat.reduceDiv, Nat.reduceMod, Int.reduceToNat, Int.reduceLT, Int.reduceLE, Int.reduceAdd, Int.reduceSub, Int.reduceMul, Int.reduceEq, Int.reduceNeg, reduceCtorEq, resV, resAll, ARes.ev, LV.flat, ite_true, ite_false, exists_eq_left', exists_eq_left, keyOf, implies_true, fillC, capOf]
    refine condC_dec (fun hlt2 => ?_) (fun hlt2 => ?_)
    · have hj4 : j < 4 := by omega
      have hc3l := c3.lt
      have hbrl := br.lt
      simp (disch := omega) only [f2, f3, f7, f8, f9, f10, f11, f12, splice, ↓SXd, SXu, slBounds, ↓sop, ↓aop, ↓reduceIte, LV.cells, AOp.dst, LV.I, LV.B, LV.U, LV.S, LV.nil, Nat.reduceEqDiff, Nat.reduceAdd, Nat.reduceMul, Nat.reduceSub, Nat.reduceLeDiff, Nat.reduceBEq, Nat.reduceDiv, Nat.reduceMod, Int.reduceToNat, Int.reduceLT, Int.reduceLE, Int.reduceAdd, Int.reduceSub, Int.reduceMul, Int.reduceEq, Int.reduceNeg, reduceCtorEq, resV, resAll, ARes.ev, LV.flat, ite_true, ite_false, exists_eq_left', exists_eq_left, keyOf, implies_true, fillC, capOf]
      have e13 : Live (N ++ [some (.row [.I 0, .I 0, .I 0] true 0)]) N.length (.row [.I 0, .I 0, .I 0] true 0) := Live.new
      have hpN : Pre N (N ++ [some (.row [.I 0, .I 0, .I 0] true 0)]) := Pre.app _ _
      have d3 := c3.pre hpN
      have dr := br.pre hpN
      have hpq := hp.trans hpN
      generalize hN1 : N ++ [some (Blk.row [.I 0, .I 0, .I 0] true 0)] = N1 at e13 hpN d3 dr hpq ⊢
      clear hN1
      have hNl := hp.1
      simp (disch := omega) only [f2, f3, f7, f8, f9, f10, f11, f12, f1, ↓SXd, SXu, slBounds, ↓sop, ↓aop, ↓reduceIte, LV.cells, AOp.dst, LV.I, LV.B, LV.U, LV.S, LV.nil, Nat.reduceEqDiff, Nat.reduceAdd, Nat.reduceMul, Nat.reduceSub, Nat.reduceLeDiff, Nat.reduceBEq, Nat.reduceDiv, Nat.reduceMod, Int.reduceToNat, Int.reduceLT, Int.reduceLE, Int.reduceAdd, Int.reduceSub, Int.reduceMul, Int.reduceEq, Int.reduceNeg, reduceCtorEq, resV, resAll, ARes.ev, LV.flat, ite_true, ite_false, exists_eq_left', exists_eq_left, keyOf, implies_true, fillC, capOf]
      refine memK_at e13 (show d < 3 by omega) fun N2 k1 k2 k3 => ?_
      have hP2 := pre_step hpq (by omega) (j := 0) k1 k3
      have d3 := live_step d3 (by omega) k3
      have dr := live_step dr (by omega) k3
      clear e13 hpN hpq k3
      simp (disch := omega) only [f2, f3, f7, f8, f9, f10, f11, f12, ↓SXd, SXu, slBounds, ↓sop, ↓aop, ↓reduceIte, LV.cells, AOp.dst, LV.I, LV.B, LV.U, LV.S, LV.nil, Nat.reduceEqDiff, Nat.reduceAdd, Nat.reduceMul, Nat.reduceSub, Nat.reduceLeDiff, Nat.reduceBEq, Nat.reduceDiv, Nat.reduceMod, Int.reduceToNat, Int.reduceLT, Int.reduceLE, Int.reduceAdd, Int.reduceSub, Int.reduceMul, Int.reduceEq, Int.reduceNeg, reduceCtorEq, resV, resAll, ARes.ev, LV.flat, ite_true, ite_false, exists_eq_left', exists_eq_left, keyOf, implies_true, fillC, capOf]
      refine memK_at k2 (show (dirA d).toNat < ([LV.I 0, .I 0, .I 0].set d (.I k)).length by simp; omega) fun N3 q1 q2 q3 => ?_
      have hP3 := pre_step hP2 (by omega) (j := 0) q1 q3
      have d3 := live_step d3 (by omega) q3
      have dr := live_step dr (by omega) q3
      clear k2 q3 hP2
      simp (disch := omega) only [f2, f3, f7, f8, f9, f10, f11, f12, ↓SXd, SXu, slBounds, ↓sop, ↓aop, ↓reduceIte, LV.cells, AOp.dst, LV.I, LV.B, LV.U, LV.S, LV.nil, Nat.reduceEqDiff, Nat.reduceAdd, Nat.reduceMul, Nat.reduceSub, Nat.reduceLeDiff, Nat.reduceBEq, Nat.reduceDiv, Nat.reduceMod, Int.reduceToNat, Int.reduceLT, Int.reduceLE, Int.reduceAdd, Int.reduceSub, Int.reduceMul, Int.reduceEq, Int.reduceNeg, reduceCtorEq, resV, resAll, ARes.ev, LV.flat, ite_true, ite_false, exists_eq_left', exists_eq_left, keyOf, implies_true, fillC, capOf]
      refine memK_at q2 (show (dirB d).toNat < (([LV.I 0, .I 0, .I 0].set d (.I k)).set (dirA d).toNat (.I i)).length by simp; omega) fun N4 w1 w2 w3 => ?_
      have hP4 := pre_step hP3 (by omega) (j := 0) w1 w3
      have d3 := live_step d3 (by omega) w3
      have dr := live_step dr (by omega) w3
      rw [hlr] at w2
      clear q2 w3 hP3
      simp (disch := omega) only [f2, f3, f7, f8, f9, f10, f11, f12, d3.cells, w2.cells, ↓SXd, SXu, slBounds, ↓sop, ↓aop, ↓reduceIte, LV.cells, AOp.dst, LV.I, LV.B, LV.U, LV.S, LV.nil, Nat.reduceEqDiff, Nat.reduceAdd, Nat.reduceMul, Nat.reduceSub, Nat.reduceLeDiff, Nat.reduceBEq, Nat.reduceDiv, Nat.reduceMod, Int.reduceToNat, Int.reduceLT, Int.reduceLE, Int.reduceAdd, Int.reduceSub, Int.reduceMul, Int.reduceEq, Int.reduceNeg, reduceCtorEq, resV, resAll, ARes.ev, LV.flat, ite_true, ite_false, exists_eq_left', exists_eq_left, keyOf, implies_true, fillC, capOf]
      refine callK_of (h_l2Has ((h.pre hpre).pre hP4) (by omega)) ?_
      have hlv : lyrV d k cs i j = if lyrC d k i j ∈ cs then 1 else 0 := rfl
      have hrs := lyrR_succ (x := x) (y := y) (z := z) (d := d) (k := k) (cs := cs) (i := i) (n := j)
      have hrl := lyrR_len (x := x) (y := y) (z := z) (d := d) (k := k) (cs := cs) (i := i) (n := j)
      by_cases hm : lyrC d k i j ∈ cs
      · rw [if_pos hm] at hlv
        rw [show decide ((⟨(lyrC d k i j).a, (lyrC d k i j).b, (lyrC d k i j).c⟩ : Cell) ∈ cs) = true from decide_eq_true hm]
        simp (disch := omega) only [f2, f3, f7, f8, f9, f10, f11, f12, ↓SXd, SXu, slBounds, ↓sop, ↓aop, ↓reduceIte, LV.cells, AOp.dst, LV.I, LV.B, LV.U, LV.S, LV.nil, Nat.reduceEqDiff, Nat.reduceAdd, Nat.reduceMul, Nat.reduceSub, Nat.reduceLeDiff, Nat.reduceBEq, Nat.reduceDiv, Nat.reduceMod, Int.reduceToNat, Int.reduceLT, Int.reduceLE, Int.reduceAdd, Int.reduceSub, Int.reduceMul, Int.reduceEq, Int.reduceNeg, reduceCtorEq, resV, resAll, ARes.ev, LV.flat, ite_true, ite_false, exists_eq_left', exists_eq_left, keyOf, implies_true, fillC, capOf]
        refine appendK_int dr (by omega) fun N5 l1 l2 l3 => ?_
        rw [hlv] at hrs
        rw [← hrs] at l2 ⊢
        simp (disch := omega) only [f2, f3, f7, f8, f9, f10, f11, f12, ↓SXd, SXu, slBounds, ↓sop, ↓aop, ↓reduceIte, LV.cells, AOp.dst, LV.I, LV.B, LV.U, LV.S, LV.nil, Nat.reduceEqDiff, Nat.reduceAdd, Nat.reduceMul, Nat.reduceSub, Nat.reduceLeDiff, Nat.reduceBEq, Nat.reduceDiv, Nat.reduceMod, Int.reduceToNat, Int.reduceLT, Int.reduceLE, Int.reduceAdd, Int.reduceSub, Int.reduceMul, Int.reduceEq, Int.reduceNeg, reduceCtorEq, resV, resAll, ARes.ev, LV.flat, ite_true, ite_false, exists_eq_left', exists_eq_left, keyOf, implies_true, fillC, capOf]
        exact ⟨m2 - 1, by omega, j + 1, N4.length + 1, by omega, pre_step hP4 (by omega) (j := 2) l1 l3, by have := hP4.1; omega, l2, f1, f2, f3, f7, f8, f9, f10, rfl, eqI (natI _)⟩
      · rw [if_neg hm] at hlv
        rw [show decide ((⟨(lyrC d k i j).a, (lyrC d k i j).b, (lyrC d k i j).c⟩ : Cell) ∈ cs) = false from decide_eq_false hm]
        simp (disch := omega) only [f2, f3, f7, f8, f9, f10, f11, f12, ↓SXd, SXu, slBounds, ↓sop, ↓aop, ↓reduceIte, LV.cells, AOp.dst, LV.I, LV.B, LV.U, LV.S, LV.nil, Nat.reduceEqDiff, Nat.reduceAdd, Nat.reduceMul, Nat.reduceSub, Nat.reduceLeDiff, Nat.reduceBEq, Nat.reduceDiv, Nat.reduceMod, Int.reduceToNat, Int.reduceLT, Int.reduceLE, Int.reduceAdd, Int.reduceSub, Int.reduceMul, Int.reduceEq, Int.reduceNeg, reduceCtorEq, resV, resAll, ARes.ev, LV.flat, ite_true, ite_false, exists_eq_left', exists_eq_left, keyOf, implies_true, fillC, capOf]
        refine appendK_int dr (by omega) fun N5 l1 l2 l3 => ?_
        rw [hlv] at hrs
        rw [← hrs] at l2 ⊢
        simp (disch := omega) only [f2, f3, f7, f8, f9, f10, f11, f12, ↓SXd, SXu, slBounds, ↓sop, ↓aop, ↓reduceIte, LV.cells, AOp.dst, LV.I, LV.B, LV.U, LV.S, LV.nil, Nat.reduceEqDiff, Nat.reduceAdd, Nat.reduceMul, Nat.reduceSub, Nat.reduceLeDiff, Nat.reduceBEq, Nat.reduceDiv, Nat.reduceMod, Int.reduceToNat, Int.reduceLT, Int.reduceLE, Int.reduceAdd, Int.reduceSub, Int.reduceMul, Int.reduceEq, Int.reduceNeg, reduceCtorEq, resV, resAll, ARes.ev, LV.flat, ite_true, ite_false, exists_eq_left', exists_eq_left, keyOf, implies_true, fillC, capOf]
        exact ⟨m2 - 1, by omega, j + 1, N4.length + 1, by omega, pre_step hP4 (by omega) (j := 2) l1 l3, by have := hP4.1; omega, l2, f1, f2, f3, f7, f8, f9, f10, rfl, eqI (natI _)⟩
    · have hjl : j = (sideOf x y z (dirB d)).toNat := by omega
      subst hjl
      have hts := lyrT_succ (x := x) (y := y) (z := z) (d := d) (k := k) (cs := cs) (m := i)
      have htl := lyrT_len (x := x) (y := y) (z := z) (d := d) (k := k) (cs := cs) (m := i)
      simp (disch := omega) only [f2, f3, f7, f8, f9, f10, f11, f12, ↓SXd, SXu, slBounds, ↓sop, ↓aop, ↓reduceIte, LV.cells, AOp.dst, LV.I, LV.B, LV.U, LV.S, LV.nil, Nat.reduceEqDiff, Nat.reduceAdd, Nat.reduceMul, Nat.reduceSub, Nat.reduceLeDiff, Nat.reduceBEq, Nat.reduceDiv, Nat.reduceMod, Int.reduceToNat, Int.reduceLT, Int.reduceLE, Int.reduceAdd, Int.reduceSub, Int.reduceMul, Int.reduceEq, Int.reduceNeg, reduceCtorEq, resV, resAll, ARes.ev, LV.flat, ite_true, ite_false, exists_eq_left', exists_eq_left, keyOf, implies_true, fillC, capOf]
      refine appendK_tab hT hp br hr (by omega) (hpre.trans hp) (by omega) fun u' Q hTab hM hu' hold hQl => ?_
      rw [← hts] at hTab ⊢
      simp (disch := omega) only [f2, f3, f7, f8, f9, f10, f11, f12, ↓SXd, SXu, slBounds, ↓sop, ↓aop, ↓reduceIte, LV.cells, AOp.dst, LV.I, LV.B, LV.U, LV.S, LV.nil, Nat.reduceEqDiff, Nat.reduceAdd, Nat.reduceMul, Nat.reduceSub, Nat.reduceLeDiff, Nat.reduceBEq, Nat.reduceDiv, Nat.reduceMod, Int.reduceToNat, Int.reduceLT, Int.reduceLE, Int.reduceAdd, Int.reduceSub, Int.reduceMul, Int.reduceEq, Int.reduceNeg, reduceCtorEq, resV, resAll, ARes.ev, LV.flat, ite_true, ite_false, exists_eq_left', exists_eq_left, keyOf, implies_true, fillC, capOf]
      have hc3l := c3.lt
      refine ⟨m - 1, by omega, i + 1, u', by omega, hM, by omega, ?_, hTab, by rcases hu' with e | e <;> omega, f1, f2, f3, f7, f8, rfl, eqI (natI _)⟩
      unfold Live at c3 ⊢
      rw [hold _ (by omega) hc3l]; exact c3
  · have hil : i = (sideOf x y z (dirA d)).toNat := by omega
    subst hil
    simp (disch := omega) only [f1, f2, f3, f7, f8, f9, f10, ↓SXd, SXu, slBounds, ↓sop, ↓aop, ↓reduceIte, LV.cells, AOp.dst, LV.I, LV.B, LV.U, LV.S, LV.nil, Nat.reduceEqDiff, Nat.reduceAdd, Nat.reduceMul, Nat.reduceSub, Nat.reduceLeDiff, Nat.reduceBEq, Nat.reduceDiv, Nat.reduceMod, Int.reduceToNat, Int.reduceLT, Int.reduceLE, Int.reduceAdd, Int.reduceSub, Int.reduceMul, Int.reduceEq, Int.reduceNeg, reduceCtorEq, resV, resAll, ARes.ev, LV.flat, ite_true, ite_false, exists_eq_left', exists_eq_left, keyOf, implies_true, fillC, capOf]
    exact ⟨u, rfl, hT.v, hpre⟩
end
end Go.Ab

/- Sums of the rows and of the columns of a table; contract of the reference's. -/
namespace Go.Ab
open Go
set_option linter.unusedSimpArgs false
set_option linter.unusedVariables false
set_option maxRecDepth 20000

def Tab01 (n : Nat) (T : List (List Int)) : Prop := ∀ row ∈ T, row.length = n ∧ ∀ a ∈ row, a = 0 ∨ a = 1
def colsE (n : Nat) (T : List (List Int)) : List Int := (List.range n).map fun j => litSum (T.map fun row => row.getD j 0)
theorem colsE_len {n : Nat} {T : List (List Int)} : (colsE n T).length = n := by simp [colsE]
theorem colsE_snoc {n : Nat} {T : List (List Int)} {row : List Int} (h : row.length = n) : colsE n (T ++ [row]) = subR (colsE n T) (row.map fun a => -a) := by
  refine List.ext_getElem (by rw [subR_len (by simp [colsE_len, h])]; simp [colsE]) fun j h1 h2 => ?_
  have hj : j < row.length := by rw [colsE_len] at h1; omega
  simp only [colsE, subR, List.getElem_map, List.getElem_range, List.getElem_zipWith, List.map_append, List.map_cons, List.map_nil, litSum_snoc]
  simp only [List.getD_eq_getElem?_getD, List.getElem?_eq_getElem hj, Option.getD_some]
  omega
theorem colsE_cons {n : Nat} {T : List (List Int)} {row : List Int} (h : row.length = n) : subR (colsE n (row :: T)) row = colsE n T := by
  refine List.ext_getElem (by rw [subR_len (by simp [colsE_len, h])]; simp [colsE]) fun j h1 h2 => ?_
  have hj : j < row.length := by rw [colsE_len] at h2; omega
  simp only [colsE, subR, List.getElem_map, List.getElem_range, List.getElem_zipWith, List.map_cons, litSum]
  simp only [List.getD_eq_getElem?_getD, List.getElem?_eq_getElem hj, Option.getD_some]
  omega
theorem litSum_bits : ∀ {l : List Int}, (∀ a ∈ l, a = 0 ∨ a = 1) → 0 ≤ litSum l ∧ litSum l ≤ l.length
  | [], _ => by simp [litSum]
  | a :: l, h => by
    have h1 := litSum_bits fun b hb => h b (List.mem_cons_of_mem a hb)
    have h2 := h a (by simp)
    simp only [litSum, List.length_cons]
    omega
theorem colsE_bound {n : Nat} {T : List (List Int)} (hT : Tab01 n T) : ∀ a ∈ colsE n T, 0 ≤ a ∧ a ≤ T.length := by
  intro a ha
  obtain ⟨j, hj, rfl⟩ := List.mem_map.1 ha
  have := litSum_bits (l := T.map fun row => row.getD j 0) fun b hb => by
    obtain ⟨row, h1, rfl⟩ := List.mem_map.1 hb
    have h2 := hT row h1
    exact h2.2 _ (getD_mem' (by rw [h2.1]; exact List.mem_range.1 hj))
  rw [List.length_map] at this
  exact this
theorem TabV.atR {N : Mem} {t n : Nat} {L : List (List Int)} {i : Nat} (h : TabV N (.ref t 0 n) L) (hi : i < L.length) : ∃ u : Nat, getCell N t i = some (.ref u 0 (L.getD i []).length) ∧ Ints N u 0 (L.getD i []) := by
  obtain ⟨t', u, h1, h2, h3⟩ := h.at hi
  cases h1
  exact ⟨u, h2, h3⟩
theorem h_l4Sums {n tl : Nat} {L : List (List Int)} {M : Mem} (hT : TabV M (.ref tl 0 L.length) L) (hB : Tab01 n L) (h0 : 0 < L.length) (hL : L.length ≤ 4) (hn : n ≤ 4) :
    CallsR PG F.spec_l4Sums [.ref tl 0 L.length] M fun v N => ∃ ur uc : Nat, v = .tup [.ref ur 0 L.length, .ref uc 0 n] ∧ Pre M N ∧ Live N ur (.row (intL (L.map litSum)) true 1) ∧ Live N uc (.row (intL (colsE n L)) true 1) ∧ ur ≠ uc ∧ M.length ≤ ur ∧ M.length ≤ uc := by
  obtain ⟨u0, hg0, hI0⟩ := hT.atR h0
  have hb0 := hB _ (getD_mem' (d := []) h0)
  rw [hb0.1] at hg0
  have h0' : (0 : Int) < ((L.length : Nat) : Int) := by omega
  refine callsR_run K.spec_l4Sums rfl ?_
  simp (disch := omega) only [C.spec_l4Sums, hg0, h0', ↓SXd, SXu, slBounds, ↓sop, ↓aop, ↓reduceIte, LV.cells, AOp.dst, LV.I, LV.B, LV.U, LV.S, LV.nil, Nat.reduceEqDiff, Nat.reduceAdd, Nat.reduceMul, Nat.reduceSub, Nat.reduceLeDiff, Nat.reduceBEq, Nat.reduceDiv, Nat.reduceMod, Int.reduceToNat, Int.reduceLT, Int.reduceLE, Int.reduceAdd, Int.reduceSub, Int.reduceMul, Int.reduceEq, Int.reduceNeg, reduceCtorEq, resV, resAll, ARes.ev, LV.flat, ite_true, ite_false, exists_eq_left', exists_eq_left, keyOf, implies_true, fillC, capOf]
  have hrep : colsE n [] = List.replicate n 0 := by
    refine List.ext_getElem (by simp [colsE]) fun j h1 h2 => ?_
    simp [colsE, litSum]
  have hfl : (List.replicate n [LV.val (Value.int IntKind.i64 0)]).flatten = intL (List.replicate n 0) := by
    unfold intL
    rw [List.map_replicate]
    clear hrep hg0 hB hn hb0
    induction n with
    | zero => rfl
    | succ n ih => rw [List.replicate_succ, List.flatten_cons, ih, List.replicate_succ]; rfl
  rw [hfl]
  refine ev_loop (fun m fr M' => ∃ i ur : Nat, i + m = L.length ∧ Pre M M' ∧ Live M' ur (.row (intL ((L.take i).map litSum)) true 1) ∧ (ur = M.length ∨ M.length + 2 ≤ ur) ∧ Live M' (M.length + 1) (.row (intL (colsE n (L.take i))) true 1) ∧
    fr 0 = .ref tl 0 L.length ∧ fr 4 = .ref ur 0 ((L.take i).map litSum).length ∧ fr 5 = .ref (M.length + 1) 0 n ∧ fr 6 = .I i) L.length
    ⟨0, M.length, by omega, Pre.app _ _, Live.new, .inl rfl, by rw [List.take_zero, hrep]; exact Live.newj (j := 1) rfl, rfl, rfl, rfl, rfl⟩ ?_
  clear hg0 hI0 hb0 h0' hfl hrep
  rintro m fr M' ⟨i, ur, hi, hpre, bR, hur, bC, f0, f4, f5, f6⟩
  simp (disch := omega) only [f0, f4, f5, f6, ↓SXd, SXu, slBounds, ↓sop, ↓aop, ↓reduceIte, LV.cells, AOp.dst, LV.I, LV.B, LV.U, LV.S, LV.nil, Nat.reduceEqDiff, Nat.reduceAdd, Nat.reduceMul, Nat.reduceSub, Nat.reduceLeDiff, Nat.reduceBEq, Nat.reduceDiv, Nat.reduceMod, Int.reduceToNat, Int.reduceLT, Int.reduceLE, Int.reduceAdd, Int.reduceSub, Int.reduceMul, Int.reduceEq, Int.reduceNeg, reduceCtorEq, resV, resAll, ARes.ev, LV.flat, ite_true, ite_false, exists_eq_left', exists_eq_left, keyOf, implies_true, fillC, capOf]
  refine condC_dec (fun hlt => ?_) (fun hlt => ?_)
  rotate_left
  · have : i = L.length := by omega
    subst this
    rw [List.take_length] at bR bC f4
    rw [List.length_map] at f4
    simp (disch := omega) only [f0, f4, f5, f6, ↓SXd, SXu, slBounds, ↓sop, ↓aop, ↓reduceIte, LV.cells, AOp.dst, LV.I, LV.B, LV.U, LV.S, LV.nil, Nat.reduceEqDiff, Nat.reduceAdd, Nat.reduceMul, Nat.reduceSub, Nat.reduceLeDiff, Nat.reduceBEq, Nat.reduceDiv, Nat.reduceMod, Int.reduceToNat, Int.reduceLT, Int.reduceLE, Int.reduceAdd, Int.reduceSub, Int.reduceMul, Int.reduceEq, Int.reduceNeg, reduceCtorEq, resV, resAll, ARes.ev, LV.flat, ite_true, ite_false, exists_eq_left', exists_eq_left, keyOf, implies_true, fillC, capOf]
    exact ⟨ur, M.length + 1, rfl, hpre, bR, bC, by omega, by omega, by omega⟩
  have hil : i < L.length := by omega
  have hts := take_snocL [] hil
  obtain ⟨w, hgw, hIw⟩ := hT.atR hil
  have hrow := hB _ (getD_mem' (d := []) hil)
  have htl : tl < M.length := by
    obtain ⟨u1, h1, _⟩ := hT.atR h0
    unfold getCell getRow at h1
    rcases Nat.lt_or_ge tl M.length with h | h
    · exact h
    · rw [List.getElem?_eq_none h] at h1; simp at h1
  have hBt : Tab01 n (L.take i) := fun r hr => hB r (List.mem_of_mem_take hr)
  have hcb := colsE_bound hBt
  have hcl := colsE_len (n := n) (T := L.take i)
  rw [List.length_take] at hcb
  generalize L.getD i [] = row at hts hgw hIw hrow
  obtain ⟨hrl, hrb⟩ := hrow
  have hstep : colsE n (L.take (i + 1)) = subR (colsE n (L.take i)) (row.map fun a => -a) := by rw [hts, colsE_snoc hrl]
  have hstep2 : (L.take (i + 1)).map litSum = (L.take i).map litSum ++ [litSum row] := by rw [hts, List.map_append]; rfl
  have hml : ((L.take i).map litSum).length = i := by rw [List.length_map, List.length_take]; omega
  have hrm : (row.map fun a => -a).length = (colsE n (L.take i)).length := by rw [List.length_map, hrl, hcl]
  generalize colsE n (L.take i) = cols at bC hcb hcl hstep hrm
  have hpl := hpre.1
  have hurl := bR.lt
  simp (disch := omega) only [f0, f4, f5, f6, ↓SXd, SXu, slBounds, ↓sop, ↓aop, ↓reduceIte, LV.cells, AOp.dst, LV.I, LV.B, LV.U, LV.S, LV.nil, Nat.reduceEqDiff, Nat.reduceAdd, Nat.reduceMul, Nat.reduceSub, Nat.reduceLeDiff, Nat.reduceBEq, Nat.reduceDiv, Nat.reduceMod, Int.reduceToNat, Int.reduceLT, Int.reduceLE, Int.reduceAdd, Int.reduceSub, Int.reduceMul, Int.reduceEq, Int.reduceNeg, reduceCtorEq, resV, resAll, ARes.ev, LV.flat, ite_true, ite_false, exists_eq_left', exists_eq_left, keyOf, implies_true, fillC, capOf]
  refine ev_loop (fun m2 fr M2 => ∃ k : Nat, k + m2 = n ∧ M2.length = M'.length ∧ (∀ q, q ≠ M.length + 1 → q < M'.length → M2[q]? = M'[q]?) ∧ Live M2 (M.length + 1) (.row (intL (leftK cols (row.map fun a => -a) k)) true 1) ∧
    fr 0 = .ref tl 0 L.length ∧ fr 4 = .ref ur 0 ((L.take i).map litSum).length ∧ fr 5 = .ref (M.length + 1) 0 n ∧ fr 6 = .I i ∧ fr 7 = .I (litSum (row.take k)) ∧ fr 8 = .I k) n
    ⟨0, by omega, rfl, fun _ _ _ => rfl, by rw [leftK_zero]; exact bC, f0, f4, f5, f6, rfl, rfl⟩ ?_
  clear f0 f4 f5 f6 bC hlt
  rintro m2 fr M2 ⟨k, hk, hl2, hk2, bC, f0, f4, f5, f6, f7, f8⟩
  have hpre2 : Pre M M2 := ⟨by omega, fun q hq => by rw [hk2 q (by omega) (by omega)]; exact hpre.2 q hq⟩
  have hgw2 : getCell M2 tl i = some (.ref w 0 row.length) := by
    unfold getCell getRow at hgw ⊢
    rw [hpre2.2 tl htl]; exact hgw
  simp (disch := omega) only [f0, f4, f5, f6, f7, f8, hgw2, Nat.mul_one, Nat.zero_add, ↓SXd, SXu, slBounds, ↓sop, ↓aop, ↓reduceIte, LV.cells, AOp.dst, LV.I, LV.B, LV.U, LV.S, LV.nil, Nat.reduceEqDiff, Nat.reduceAdd, Nat.reduceMul, Nat.reduceSub, Nat.reduceLeDiff, Nat.reduceBEq, Nat.reduceDiv, Nat.reduceMod, Int.reduceToNat, Int.reduceLT, Int.reduceLE, Int.reduceAdd, Int.reduceSub, Int.reduceMul, Int.reduceEq, Int.reduceNeg, reduceCtorEq, resV, resAll, ARes.ev, LV.flat, ite_true, ite_false, exists_eq_left', exists_eq_left, keyOf, implies_true, fillC, capOf]
  refine condC_dec (fun hlt => ?_) (fun hlt => ?_)
  · have hkn : k < n := by omega
    have hkr : k < row.length := by omega
    have hIw2 : Ints M2 w 0 row := hIw.pre hpre2
    have hgr := Ints.get hIw2 hkr
    rw [Nat.zero_add] at hgr
    have hgc := Ints.get bC.has (k := k) (by rw [leftK_len hrm (by omega)]; omega)
    rw [Nat.zero_add, leftK_get hrm (by omega)] at hgc
    have hls := leftK_succ hrm (k := k) (by omega)
    have hneg : (row.map fun a => -a).getD k 0 = - row.getD k 0 := by
      simp only [List.getD_eq_getElem?_getD, List.getElem?_map, List.getElem?_eq_getElem hkr]; rfl
    rw [hneg] at hls
    have hcbk := hcb _ (getD_mem' (d := 0) (show k < cols.length by omega))
    have hrbk := hrb _ (getD_mem' (d := 0) hkr)
    have hsb := litSum_bits (l := row.take k) fun a ha => hrb a (List.mem_of_mem_take ha)
    rw [List.length_take] at hsb
    have hst := litSum_take hkr
    generalize row.getD k 0 = b at hgr hls hrbk hst
    generalize cols.getD k 0 = a at hgc hls hcbk
    have hkn' : (k : Int) < (n : Nat) := by omega
    have hkr' : (k : Int) < (row.length : Nat) := by omega
    rw [show a - -b = a + b by omega] at hls
    simp (disch := omega) only [f0, f4, f5, f6, f7, f8, hgw2, hgr, hgc, hkn', hkr', Nat.mul_one, Nat.zero_add, ↓SXd, SXu, slBounds, ↓sop, ↓aop, ↓reduceIte, LV.cells, AOp.dst, LV.I, LV.B, LV.U, LV.S, LV.nil, Nat.reduceEqDiff, Nat.reduceAdd, Nat.reduceMul, Nat.reduceSub, Nat.reduceLeDiff, Nat.reduceBEq, Nat.reduceDiv, Nat.reduceMod, Int.reduceToNat, Int.reduceLT, Int.reduceLE, Int.reduceAdd, Int.reduceSub, Int.reduceMul, Int.reduceEq, Int.reduceNeg, reduceCtorEq, resV, resAll, ARes.ev, LV.flat, ite_true, ite_false, exists_eq_left', exists_eq_left, keyOf, implies_true, fillC, capOf]
    refine memK_int bC (by rw [leftK_len hrm (by omega)]; omega) fun N3 k1 k3 k4 => ?_
    rw [← hls] at k3
    simp (disch := omega) only [f0, f4, f5, f6, f7, f8, ↓SXd, SXu, slBounds, ↓sop, ↓aop, ↓reduceIte, LV.cells, AOp.dst, LV.I, LV.B, LV.U, LV.S, LV.nil, Nat.reduceEqDiff, Nat.reduceAdd, Nat.reduceMul, Nat.reduceSub, Nat.reduceLeDiff, Nat.reduceBEq, Nat.reduceDiv, Nat.reduceMod, Int.reduceToNat, Int.reduceLT, Int.reduceLE, Int.reduceAdd, Int.reduceSub, Int.reduceMul, Int.reduceEq, Int.reduceNeg, reduceCtorEq, resV, resAll, ARes.ev, LV.flat, ite_true, ite_false, exists_eq_left', exists_eq_left, keyOf, implies_true, fillC, capOf]
    exact ⟨m2 - 1, by omega, k + 1, by omega, by omega, fun q q1 q2 => by rw [k4 q q1 (by omega)]; exact hk2 q q1 q2, k3, f0, f4, f5, f6, by rw [hst]; rfl, eqI (natI _)⟩
  · have : k = n := by omega
    subst this
    rw [← hcl, leftK_all hrm, ← hstep] at bC
    rw [List.take_of_length_le (by omega)] at f7
    have hsb := litSum_bits hrb
    have bR2 : Live M2 ur (.row (intL ((L.take i).map litSum)) true 1) := Live.at bR (hk2 ur (by omega) hurl)
    simp (disch := omega) only [f0, f4, f5, f6, f7, f8, ↓SXd, SXu, slBounds, ↓sop, ↓aop, ↓reduceIte, LV.cells, AOp.dst, LV.I, LV.B, LV.U, LV.S, LV.nil, Nat.reduceEqDiff, Nat.reduceAdd, Nat.reduceMul, Nat.reduceSub, Nat.reduceLeDiff, Nat.reduceBEq, Nat.reduceDiv, Nat.reduceMod, Int.reduceToNat, Int.reduceLT, Int.reduceLE, Int.reduceAdd, Int.reduceSub, Int.reduceMul, Int.reduceEq, Int.reduceNeg, reduceCtorEq, resV, resAll, ARes.ev, LV.flat, ite_true, ite_false, exists_eq_left', exists_eq_left, keyOf, implies_true, fillC, capOf]
    refine appendK_int bR2 (by omega) fun N' l1 l2 l3 => ?_
    rw [← hstep2] at l2
    simp (disch := omega) only [f0, f4, f5, f6, f7, f8, ↓SXd, SXu, slBounds, ↓sop, ↓aop, ↓reduceIte, LV.cells, AOp.dst, LV.I, LV.B, LV.U, LV.S, LV.nil, Nat.reduceEqDiff, Nat.reduceAdd, Nat.reduceMul, Nat.reduceSub, Nat.reduceLeDiff, Nat.reduceBEq, Nat.reduceDiv, Nat.reduceMod, Int.reduceToNat, Int.reduceLT, Int.reduceLE, Int.reduceAdd, Int.reduceSub, Int.reduceMul, Int.reduceEq, Int.reduceNeg, reduceCtorEq, resV, resAll, ARes.ev, LV.flat, ite_true, ite_false, exists_eq_left', exists_eq_left, keyOf, implies_true, fillC, capOf]
    refine ⟨m - 1, by omega, i + 1, M2.length + 1, by omega, ⟨by omega, fun q hq => by rw [l3 q (by omega) (by omega), hk2 q (by omega) (by omega)]; exact hpre.2 q hq⟩, l2, by omega, live_step bC (by omega) l3, f0, ?_, f5, eqI (natI _)⟩
    rw [hstep2, List.length_append]; rfl
end Go.Ab

/- Contracts: whether lists are those of sums; how many tables there are; both sides. -/
namespace Go.Ab
open Go
set_option linter.unusedSimpArgs false
set_option linter.unusedVariables false
set_option maxRecDepth 20000

def SumsOK (R D : List Int) : Prop := (1 ≤ R.length ∧ R.length ≤ 4) ∧ (1 ≤ D.length ∧ D.length ≤ 4) ∧ (∀ r ∈ R, 0 ≤ r ∧ r ≤ D.length) ∧ ∀ c ∈ D, 0 ≤ c ∧ c ≤ R.length
noncomputable instance (R D : List Int) : Decidable (SumsOK R D) := Classical.propDecidable _
section
variable {R D : List Int} {tr tc : Nat} {M : Mem} (hR : Live M tr (.row (intL R) true 1)) (hC : Live M tc (.row (intL D) true 1)) (hRn : R.length ≤ 1000) (hCn : D.length ≤ 1000)
include hR hC hRn hCn
theorem g_areSums : CallsTo PG F.impl_areSums [.ref tr 0 R.length, .ref tc 0 D.length] M (.B (decide (SumsOK R D))) M := by
  have hRI : Ints M tr 0 R := hR.has
  have hCI : Ints M tc 0 D := hC.has
  refine calls_run K.impl_areSums rfl ?_
  simp (disch := omega) only [C.impl_areSums, ↓SXd, SXu, slBounds, ↓sop, ↓aop, ↓reduceIte, LV.cells, AOp.dst, LV.I, LV.B, LV.U, LV.S, LV.nil, Nat.reduceEqDiff, Nat.reduceAdd, Nat.reduceMul, Nat.reduceSub, Nat.reduceLeDiff, Nat.reduceBEq, Nat.reduceDiv, Nat.reduceMod, Int.reduceToNat, Int.reduceLT, Int.reduceLE, Int.reduceAdd, Int.reduceSub, Int.reduceMul, Int.reduceEq, Int.reduceNeg, reduceCtorEq, resV, resAll, ARes.ev, LV.flat, ite_true, ite_false, exists_eq_left', exists_eq_left, keyOf, implies_true, fillC, capOf]
  refine callK_of (g_within) ?_
  simp (disch := omega) only [↓SXd, SXu, slBounds, ↓sop, ↓aop, ↓reduceIte, LV.cells, AOp.dst, LV.I, LV.B, LV.U, LV.S, LV.nil, Nat.reduceEqDiff, Nat.reduceAdd, Nat.reduceMul, Nat.reduceSub, Nat.reduceLeDiff, Nat.reduceBEq, Nat.reduceDiv, Nat.reduceMod, Int.reduceToNat, Int.reduceLT, Int.reduceLE, Int.reduceAdd, Int.reduceSub, Int.reduceMul, Int.reduceEq, Int.reduceNeg, reduceCtorEq, resV, resAll, ARes.ev, LV.flat, ite_true, ite_false, exists_eq_left', exists_eq_left, keyOf, implies_true, fillC, capOf]
  by_cases h1 : (1 : Int) ≤ (R.length : Nat) ∧ ((R.length : Nat) : Int) ≤ 4
  · rw [decide_eq_true h1]
    simp (disch := omega) only [↓SXd, SXu, slBounds, ↓sop, ↓aop, ↓reduceIte, LV.cells, AOp.dst, LV.I, LV.B, LV.U, LV.S, LV.nil, Nat.reduceEqDiff, Nat.reduceAdd, Nat.reduceMul, Nat.reduceSub, Nat.reduceLeDiff, Nat.reduceBEq, Nat.reduceDiv, Nat.reduceMod, Int.reduceToNat, Int.reduceLT, Int.reduceLE, Int.reduceAdd, Int.reduceSub, Int.reduceMul, Int.reduceEq, Int.reduceNeg, reduceCtorEq, resV, resAll, ARes.ev, LV.flat, ite_true, ite_false, exists_eq_left', exists_eq_left, keyOf, implies_true, fillC, capOf]
    refine callK_of (g_within) ?_
    simp (disch := omega) only [↓SXd, SXu, slBounds, ↓sop, ↓aop, ↓reduceIte, LV.cells, AOp.dst, LV.I, LV.B, LV.U, LV.S, LV.nil, Nat.reduceEqDiff, Nat.reduceAdd, Nat.reduceMul, Nat.reduceSub, Nat.reduceLeDiff, Nat.reduceBEq, Nat.reduceDiv, Nat.reduceMod, Int.reduceToNat, Int.reduceLT, Int.reduceLE, Int.reduceAdd, Int.reduceSub, Int.reduceMul, Int.reduceEq, Int.reduceNeg, reduceCtorEq, resV, resAll, ARes.ev, LV.flat, ite_true, ite_false, exists_eq_left', exists_eq_left, keyOf, implies_true, fillC, capOf]
    by_cases h2 : (1 : Int) ≤ (D.length : Nat) ∧ ((D.length : Nat) : Int) ≤ 4
    · rw [decide_eq_true h2]
      simp (disch := omega) only [↓SXd, SXu, slBounds, ↓sop, ↓aop, ↓reduceIte, LV.cells, AOp.dst, LV.I, LV.B, LV.U, LV.S, LV.nil, Nat.reduceEqDiff, Nat.reduceAdd, Nat.reduceMul, Nat.reduceSub, Nat.reduceLeDiff, Nat.reduceBEq, Nat.reduceDiv, Nat.reduceMod, Int.reduceToNat, Int.reduceLT, Int.reduceLE, Int.reduceAdd, Int.reduceSub, Int.reduceMul, Int.reduceEq, Int.reduceNeg, reduceCtorEq, resV, resAll, ARes.ev, LV.flat, ite_true, ite_false, exists_eq_left', exists_eq_left, keyOf, implies_true, fillC, capOf]
      refine callK_of (g_allWithinLH hRI (by omega)) ?_
      simp (disch := omega) only [↓SXd, SXu, slBounds, ↓sop, ↓aop, ↓reduceIte, LV.cells, AOp.dst, LV.I, LV.B, LV.U, LV.S, LV.nil, Nat.reduceEqDiff, Nat.reduceAdd, Nat.reduceMul, Nat.reduceSub, Nat.reduceLeDiff, Nat.reduceBEq, Nat.reduceDiv, Nat.reduceMod, Int.reduceToNat, Int.reduceLT, Int.reduceLE, Int.reduceAdd, Int.reduceSub, Int.reduceMul, Int.reduceEq, Int.reduceNeg, reduceCtorEq, resV, resAll, ARes.ev, LV.flat, ite_true, ite_false, exists_eq_left', exists_eq_left, keyOf, implies_true, fillC, capOf]
      by_cases h3 : ∀ v ∈ R, (0 : Int) ≤ v ∧ v ≤ (D.length : Nat)
      · rw [decide_eq_true h3]
        simp (disch := omega) only [↓SXd, SXu, slBounds, ↓sop, ↓aop, ↓reduceIte, LV.cells, AOp.dst, LV.I, LV.B, LV.U, LV.S, LV.nil, Nat.reduceEqDiff, Nat.reduceAdd, Nat.reduceMul, Nat.reduceSub, Nat.reduceLeDiff, Nat.reduceBEq, Nat.reduceDiv, Nat.reduceMod, Int.reduceToNat, Int.reduceLT, Int.reduceLE, Int.reduceAdd, Int.reduceSub, Int.reduceMul, Int.reduceEq, Int.reduceNeg, reduceCtorEq, resV, resAll, ARes.ev, LV.flat, ite_true, ite_false, exists_eq_left', exists_eq_left, keyOf, implies_true, fillC, capOf]
        refine callK_of (g_allWithinLH hCI (by omega)) ?_
        simp (disch := omega) only [↓SXd, SXu, slBounds, ↓sop, ↓aop, ↓reduceIte, LV.cells, AOp.dst, LV.I, LV.B, LV.U, LV.S, LV.nil, Nat.reduceEqDiff, Nat.reduceAdd, Nat.reduceMul, Nat.reduceSub, Nat.reduceLeDiff, Nat.reduceBEq, Nat.reduceDiv, Nat.reduceMod, Int.reduceToNat, Int.reduceLT, Int.reduceLE, Int.reduceAdd, Int.reduceSub, Int.reduceMul, Int.reduceEq, Int.reduceNeg, reduceCtorEq, resV, resAll, ARes.ev, LV.flat, ite_true, ite_false, exists_eq_left', exists_eq_left, keyOf, implies_true, fillC, capOf]
        rw [show decide (SumsOK R D) = decide (∀ v ∈ D, (0 : Int) ≤ v ∧ v ≤ (R.length : Nat)) from decide_eq_decide.2 ⟨fun h => h.2.2.2, fun h => ⟨by omega, by omega, h3, h⟩⟩]
        exact cmp_drop0 rfl
      · rw [decide_eq_false h3]
        simp (disch := omega) only [↓SXd, SXu, slBounds, ↓sop, ↓aop, ↓reduceIte, LV.cells, AOp.dst, LV.I, LV.B, LV.U, LV.S, LV.nil, Nat.reduceEqDiff, Nat.reduceAdd, Nat.reduceMul, Nat.reduceSub, Nat.reduceLeDiff, Nat.reduceBEq, Nat.reduceDiv, Nat.reduceMod, Int.reduceToNat, Int.reduceLT, Int.reduceLE, Int.reduceAdd, Int.reduceSub, Int.reduceMul, Int.reduceEq, Int.reduceNeg, reduceCtorEq, resV, resAll, ARes.ev, LV.flat, ite_true, ite_false, exists_eq_left', exists_eq_left, keyOf, implies_true, fillC, capOf]
        rw [show decide (SumsOK R D) = false from decide_eq_false fun h => h3 h.2.2.1]
        exact cmp_drop0 rfl
    · rw [decide_eq_false h2]
      simp (disch := omega) only [↓SXd, SXu, slBounds, ↓sop, ↓aop, ↓reduceIte, LV.cells, AOp.dst, LV.I, LV.B, LV.U, LV.S, LV.nil, Nat.reduceEqDiff, Nat.reduceAdd, Nat.reduceMul, Nat.reduceSub, Nat.reduceLeDiff, Nat.reduceBEq, Nat.reduceDiv, Nat.reduceMod, Int.reduceToNat, Int.reduceLT, Int.reduceLE, Int.reduceAdd, Int.reduceSub, Int.reduceMul, Int.reduceEq, Int.reduceNeg, reduceCtorEq, resV, resAll, ARes.ev, LV.flat, ite_true, ite_false, exists_eq_left', exists_eq_left, keyOf, implies_true, fillC, capOf]
      rw [show decide (SumsOK R D) = false from decide_eq_false fun h => h2 (by have := h.2.1; omega)]
      exact cmp_drop0 rfl
  · rw [decide_eq_false h1]
    simp (disch := omega) only [↓SXd, SXu, slBounds, ↓sop, ↓aop, ↓reduceIte, LV.cells, AOp.dst, LV.I, LV.B, LV.U, LV.S, LV.nil, Nat.reduceEqDiff, Nat.reduceAdd, Nat.reduceMul, Nat.reduceSub, Nat.reduceLeDiff, Nat.reduceBEq, Nat.reduceDiv, Nat.reduceMod, Int.reduceToNat, Int.reduceLT, Int.reduceLE, Int.reduceAdd, Int.reduceSub, Int.reduceMul, Int.reduceEq, Int.reduceNeg, reduceCtorEq, resV, resAll, ARes.ev, LV.flat, ite_true, ite_false, exists_eq_left', exists_eq_left, keyOf, implies_true, fillC, capOf]
    rw [show decide (SumsOK R D) = false from decide_eq_false fun h => h1 (by have := h.1; omega)]
    exact cmp_drop0 rfl
theorem h_l4Lists : CallsTo PG F.spec_l4Lists [.ref tr 0 R.length, .ref tc 0 D.length] M (.B (decide (SumsOK R D))) M := by
  have hRI : Ints M tr 0 R := hR.has
  have hCI : Ints M tc 0 D := hC.has
  refine calls_run K.spec_l4Lists rfl ?_
  simp (disch := omega) only [C.spec_l4Lists, ↓SXd, SXu, slBounds, ↓sop, ↓aop, ↓reduceIte, LV.cells, AOp.dst, LV.I, LV.B, LV.U, LV.S, LV.nil, Nat.reduceEqDiff, Nat.reduceAdd, Nat.reduceMul, Nat.reduceSub, Nat.reduceLeDiff, Nat.reduceBEq, Nat.reduceDiv, Nat.reduceMod, Int.reduceToNat, Int.reduceLT, Int.reduceLE, Int.reduceAdd, Int.reduceSub, Int.reduceMul, Int.reduceEq, Int.reduceNeg, reduceCtorEq, resV, resAll, ARes.ev, LV.flat, ite_true, ite_false, exists_eq_left', exists_eq_left, keyOf, implies_true, fillC, capOf]
  refine callK_of (h_l1In) ?_
  simp (disch := omega) only [↓SXd, SXu, slBounds, ↓sop, ↓aop, ↓reduceIte, LV.cells, AOp.dst, LV.I, LV.B, LV.U, LV.S, LV.nil, Nat.reduceEqDiff, Nat.reduceAdd, Nat.reduceMul, Nat.reduceSub, Nat.reduceLeDiff, Nat.reduceBEq, Nat.reduceDiv, Nat.reduceMod, Int.reduceToNat, Int.reduceLT, Int.reduceLE, Int.reduceAdd, Int.reduceSub, Int.reduceMul, Int.reduceEq, Int.reduceNeg, reduceCtorEq, resV, resAll, ARes.ev, LV.flat, ite_true, ite_false, exists_eq_left', exists_eq_left, keyOf, implies_true, fillC, capOf]
  by_cases h1 : (1 : Int) ≤ (R.length : Nat) ∧ ((R.length : Nat) : Int) ≤ 4
  · rw [decide_eq_true h1]
    simp (disch := omega) only [↓SXd, SXu, slBounds, ↓sop, ↓aop, ↓reduceIte, LV.cells, AOp.dst, LV.I, LV.B, LV.U, LV.S, LV.nil, Nat.reduceEqDiff, Nat.reduceAdd, Nat.reduceMul, Nat.reduceSub, Nat.reduceLeDiff, Nat.reduceBEq, Nat.reduceDiv, Nat.reduceMod, Int.reduceToNat, Int.reduceLT, Int.reduceLE, Int.reduceAdd, Int.reduceSub, Int.reduceMul, Int.reduceEq, Int.reduceNeg, reduceCtorEq, resV, resAll, ARes.ev, LV.flat, ite_true, ite_false, exists_eq_left', exists_eq_left, keyOf, implies_true, fillC, capOf]
    refine callK_of (h_l1In) ?_
    simp (disch := omega) only [↓SXd, SXu, slBounds, ↓sop, ↓aop, ↓reduceIte, LV.cells, AOp.dst, LV.I, LV.B, LV.U, LV.S, LV.nil, Nat.reduceEqDiff, Nat.reduceAdd, Nat.reduceMul, Nat.reduceSub, Nat.reduceLeDiff, Nat.reduceBEq, Nat.reduceDiv, Nat.reduceMod, Int.reduceToNat, Int.reduceLT, Int.reduceLE, Int.reduceAdd, Int.reduceSub, Int.reduceMul, Int.reduceEq, Int.reduceNeg, reduceCtorEq, resV, resAll, ARes.ev, LV.flat, ite_true, ite_false, exists_eq_left', exists_eq_left, keyOf, implies_true, fillC, capOf]
    by_cases h2 : (1 : Int) ≤ (D.length : Nat) ∧ ((D.length : Nat) : Int) ≤ 4
    · rw [decide_eq_true h2]
      simp (disch := omega) only [↓SXd, SXu, slBounds, ↓sop, ↓aop, ↓reduceIte, LV.cells, AOp.dst, LV.I, LV.B, LV.U, LV.S, LV.nil, Nat.reduceEqDiff, Nat.reduceAdd, Nat.reduceMul, Nat.reduceSub, Nat.reduceLeDiff, Nat.reduceBEq, Nat.reduceDiv, Nat.reduceMod, Int.reduceToNat, Int.reduceLT, Int.reduceLE, Int.reduceAdd, Int.reduceSub, Int.reduceMul, Int.reduceEq, Int.reduceNeg, reduceCtorEq, resV, resAll, ARes.ev, LV.flat, ite_true, ite_false, exists_eq_left', exists_eq_left, keyOf, implies_true, fillC, capOf]
      refine ev_loop (fun m fr M' => ∃ k : Nat, k + m = R.length ∧ M' = M ∧ (∀ v ∈ R.take k, (0 : Int) ≤ v ∧ v ≤ (D.length : Nat)) ∧ fr 0 = .ref tr 0 R.length ∧ fr 1 = .ref tc 0 D.length ∧ fr 5 = .I R.length ∧ fr 6 = .I D.length ∧ fr 7 = .I k) R.length
        ⟨0, by omega, rfl, by simp, rfl, rfl, rfl, rfl, rfl⟩ ?_
      rintro m fr M' ⟨k, hk, rfl, hb, f0, f1, f5, f6, f7⟩
      simp (disch := omega) only [f0, f1, f5, f6, f7, ↓SXd, SXu, slBounds, ↓sop, ↓aop, ↓reduceIte, LV.cells, AOp.dst, LV.I, LV.B, LV.U, LV.S, LV.nil, Nat.reduceEqDiff, Nat.reduceAdd, Nat.reduceMul, Nat.reduceSub, Nat.reduceLeDiff, Nat.reduceBEq, Nat.reduceDiv, Nat.reduceMod, Int.reduceToNat, Int.reduceLT, Int.reduceLE, Int.reduceAdd, Int.reduceSub, Int.reduceMul, Int.reduceEq, Int.reduceNeg, reduceCtorEq, resV, resAll, ARes.ev, LV.flat, ite_true, ite_false, exists_eq_left', exists_eq_left, keyOf, implies_true, fillC, capOf]
      refine condC_dec (fun hlt => ?_) (fun hlt => ?_)
      · have hkl : k < R.length := by omega
        have hg := Ints.get hRI hkl
        rw [Nat.zero_add] at hg
        have hts := take_snocL 0 hkl
        have hm := getD_mem' (d := 0) hkl
        generalize R.getD k 0 = v at hg hts hm
        simp (disch := omega) only [f0, f1, f5, f6, f7, hg, ↓SXd, SXu, slBounds, ↓sop, ↓aop, ↓reduceIte, LV.cells, AOp.dst, LV.I, LV.B, LV.U, LV.S, LV.nil, Nat.reduceEqDiff, Nat.reduceAdd, Nat.reduceMul, Nat.reduceSub, Nat.reduceLeDiff, Nat.reduceBEq, Nat.reduceDiv, Nat.reduceMod, Int.reduceToNat, Int.reduceLT, Int.reduceLE, Int.reduceAdd, Int.reduceSub, Int.reduceMul, Int.reduceEq, Int.reduceNeg, reduceCtorEq, resV, resAll, ARes.ev, LV.flat, ite_true, ite_false, exists_eq_left', exists_eq_left, keyOf, implies_true, fillC, capOf]
        refine callK_of (h_l1In) ?_
        simp (disch := omega) only [f0, f1, f5, f6, f7, ↓SXd, SXu, slBounds, ↓sop, ↓aop, ↓reduceIte, LV.cells, AOp.dst, LV.I, LV.B, LV.U, LV.S, LV.nil, Nat.reduceEqDiff, Nat.reduceAdd, Nat.reduceMul, Nat.reduceSub, Nat.reduceLeDiff, Nat.reduceBEq, Nat.reduceDiv, Nat.reduceMod, Int.reduceToNat, Int.reduceLT, Int.reduceLE, Int.reduceAdd, Int.reduceSub, Int.reduceMul, Int.reduceEq, Int.reduceNeg, reduceCtorEq, resV, resAll, ARes.ev, LV.flat, ite_true, ite_false, exists_eq_left', exists_eq_left, keyOf, implies_true, fillC, capOf]
        by_cases hv : 0 ≤ v ∧ v ≤ ((D.length : Nat) : Int)
        · rw [decide_eq_true hv]
          simp (disch := omega) only [f0, f1, f5, f6, f7, ↓SXd, SXu, slBounds, ↓sop, ↓aop, ↓reduceIte, LV.cells, AOp.dst, LV.I, LV.B, LV.U, LV.S, LV.nil, Nat.reduceEqDiff, Nat.reduceAdd, Nat.reduceMul, Nat.reduceSub, Nat.reduceLeDiff, Nat.reduceBEq, Nat.reduceDiv, Nat.reduceMod, Int.reduceToNat, Int.reduceLT, Int.reduceLE, Int.reduceAdd, Int.reduceSub, Int.reduceMul, Int.reduceEq, Int.reduceNeg, reduceCtorEq, resV, resAll, ARes.ev, LV.flat, ite_true, ite_false, exists_eq_left', exists_eq_left, keyOf, implies_true, fillC, capOf]
          exact ⟨m - 1, by omega, k + 1, by omega, rfl, fun u hu => by
            rw [hts] at hu
            rcases List.mem_append.1 hu with hu | hu
            · exact hb u hu
            · rw [List.mem_singleton.1 hu]; exact hv, f0, f1, f5, f6, eqI (natI _)⟩
        · rw [decide_eq_false hv]
          simp (disch := omega) only [f0, f1, f5, f6, f7, ↓SXd, SXu, slBounds, ↓sop, ↓aop, ↓reduceIte, LV.cells, AOp.dst, LV.I, LV.B, LV.U, LV.S, LV.nil, Nat.reduceEqDiff, Nat.reduceAdd, Nat.reduceMul, Nat.reduceSub, Nat.reduceLeDiff, Nat.reduceBEq, Nat.reduceDiv, Nat.reduceMod, Int.reduceToNat, Int.reduceLT, Int.reduceLE, Int.reduceAdd, Int.reduceSub, Int.reduceMul, Int.reduceEq, Int.reduceNeg, reduceCtorEq, resV, resAll, ARes.ev, LV.flat, ite_true, ite_false, exists_eq_left', exists_eq_left, keyOf, implies_true, fillC, capOf]
          rw [show decide (SumsOK R D) = false from decide_eq_false fun h => hv (h.2.2.1 v hm)]
          exact cmp_drop0 rfl
      · have : k = R.length := by omega
        subst this
        rw [List.take_length] at hb
        simp (disch := omega) only [f0, f1, f5, f6, f7, ↓SXd, SXu, slBounds, ↓sop, ↓aop, ↓reduceIte, LV.cells, AOp.dst, LV.I, LV.B, LV.U, LV.S, LV.nil, Nat.reduceEqDiff, Nat.reduceAdd, Nat.reduceMul, Nat.reduceSub, Nat.reduceLeDiff, Nat.reduceBEq, Nat.reduceDiv, Nat.reduceMod, Int.reduceToNat, Int.reduceLT, Int.reduceLE, Int.reduceAdd, Int.reduceSub, Int.reduceMul, Int.reduceEq, Int.reduceNeg, reduceCtorEq, resV, resAll, ARes.ev, LV.flat, ite_true, ite_false, exists_eq_left', exists_eq_left, keyOf, implies_true, fillC, capOf]
        refine ev_loop (fun m fr M2 => ∃ k : Nat, k + m = D.length ∧ M2 = M' ∧ (∀ v ∈ D.take k, (0 : Int) ≤ v ∧ v ≤ (R.length : Nat)) ∧ fr 1 = .ref tc 0 D.length ∧ fr 5 = .I R.length ∧ fr 6 = .I D.length ∧ fr 8 = .I k) D.length
          ⟨0, by omega, rfl, by simp, f1, f5, f6, rfl⟩ ?_
        clear f0 f1 f5 f6 f7
        rintro m fr M2 ⟨k, hk, rfl, hc, f1, f5, f6, f8⟩
        simp (disch := omega) only [f1, f5, f6, f8, ↓SXd, SXu, slBounds, ↓sop, ↓aop, ↓reduceIte, LV.cells, AOp.dst, LV.I, LV.B, LV.U, LV.S, LV.nil, Nat.reduceEqDiff, Nat.reduceAdd, Nat.reduceMul, Nat.reduceSub, Nat.reduceLeDiff, Nat.reduceBEq, Nat.reduceDiv, Nat.reduceMod, Int.reduceToNat, Int.reduceLT, Int.reduceLE, Int.reduceAdd, Int.reduceSub, Int.reduceMul, Int.reduceEq, Int.reduceNeg, reduceCtorEq, resV, resAll, ARes.ev, LV.flat, ite_true, ite_false, exists_eq_left', exists_eq_left, keyOf, implies_true, fillC, capOf]
        refine condC_dec (fun hlt => ?_) (fun hlt => ?_)
        · have hkl : k < D.length := by omega
          have hg := Ints.get hCI hkl
          rw [Nat.zero_add] at hg
          have hts := take_snocL 0 hkl
          have hm := getD_mem' (d := 0) hkl
          generalize D.getD k 0 = v at hg hts hm
          simp (disch := omega) only [f1, f5, f6, f8, hg, ↓SXd, SXu, slBounds, ↓sop, ↓aop, ↓reduceIte, LV.cells, AOp.dst, LV.I, LV.B, LV.U, LV.S, LV.nil, Nat.reduceEqDiff, Nat.reduceAdd, Nat.reduceMul, Nat.reduceSub, Nat.reduceLeDiff, Nat.reduceBEq, Nat.reduceDiv, Nat.reduceMod, Int.reduceToNat, Int.reduceLT, Int.reduceLE, Int.reduceAdd, Int.reduceSub, Int.reduceMul, Int.reduceEq, Int.reduceNeg, reduceCtorEq, resV, resAll, ARes.ev, LV.flat, ite_true, ite_false, exists_eq_left', exists_eq_left, keyOf, implies_true, fillC, capOf]
          refine callK_of (h_l1In) ?_
          simp (disch := omega) only [f1, f5, f6, f8, ↓SXd, SXu, slBounds, ↓sop, ↓aop, ↓reduceIte, LV.cells, AOp.dst, LV.I, LV.B, LV.U, LV.S, LV.nil, Nat.reduceEqDiff, Nat.reduceAdd, Nat.reduceMul, Nat.reduceSub, Nat.reduceLeDiff, Nat.reduceBEq, Nat.reduceDiv, Nat.reduceMod, Int.reduceToNat, Int.reduceLT, Int.reduceLE, Int.reduceAdd, Int.reduceSub, Int.reduceMul, Int.reduceEq, Int.reduceNeg, reduceCtorEq, resV, resAll, ARes.ev, LV.flat, ite_true, ite_false, exists_eq_left', exists_eq_left, keyOf, implies_true, fillC, capOf]
          by_cases hv : 0 ≤ v ∧ v ≤ ((R.length : Nat) : Int)
          · rw [decide_eq_true hv]
            simp (disch := omega) only [f1, f5, f6, f8, ↓SXd, SXu, slBounds, ↓sop, ↓aop, ↓reduceIte, LV.cells, AOp.dst, LV.I, LV.B, LV.U, LV.S, LV.nil, Nat.reduceEqDiff, Nat.reduceAdd, Nat.reduceMul, Nat.reduceSub, Nat.reduceLeDiff, Nat.reduceBEq, Nat.reduceDiv, Nat.reduceMod, Int.reduceToNat, Int.reduceLT, Int.reduceLE, Int.reduceAdd, Int.reduceSub, Int.reduceMul, Int.reduceEq, Int.reduceNeg, reduceCtorEq, resV, resAll, ARes.ev, LV.flat, ite_true, ite_false, exists_eq_left', exists_eq_left, keyOf, implies_true, fillC, capOf]
            exact ⟨m - 1, by omega, k + 1, by omega, rfl, fun u hu => by
              rw [hts] at hu
              rcases List.mem_append.1 hu with hu | hu
              · exact hc u hu
              · rw [List.mem_singleton.1 hu]; exact hv, f1, f5, f6, eqI (natI _)⟩
          · rw [decide_eq_false hv]
            simp (disch := omega) only [f1, f5, f6, f8, ↓SXd, SXu, slBounds, ↓sop, ↓aop, ↓reduceIte, LV.cells, AOp.dst, LV.I, LV.B, LV.U, LV.S, LV.nil, Nat.reduceEqDiff, Nat.reduceAdd, Nat.reduceMul, Nat.reduceSub, Nat.reduceLeDiff, Nat.reduceBEq, Nat.reduceDiv, Nat.reduceMod, Int.reduceToNat, Int.reduceLT, Int.reduceLE, Int.reduceAdd, Int.reduceSub, Int.reduceMul, Int.reduceEq, Int.reduceNeg, reduceCtorEq, resV, resAll, ARes.ev, LV.flat, ite_true, ite_false, exists_eq_left', exists_eq_left, keyOf, implies_true, fillC, capOf]
            rw [show decide (SumsOK R D) = false from decide_eq_false fun h => hv (h.2.2.2 v hm)]
            exact cmp_drop0 rfl
        · have : k = D.length := by omega
          subst this
          rw [List.take_length] at hc
          simp (disch := omega) only [f1, f5, f6, f8, ↓SXd, SXu, slBounds, ↓sop, ↓aop, ↓reduceIte, LV.cells, AOp.dst, LV.I, LV.B, LV.U, LV.S, LV.nil, Nat.reduceEqDiff, Nat.reduceAdd, Nat.reduceMul, Nat.reduceSub, Nat.reduceLeDiff, Nat.reduceBEq, Nat.reduceDiv, Nat.reduceMod, Int.reduceToNat, Int.reduceLT, Int.reduceLE, Int.reduceAdd, Int.reduceSub, Int.reduceMul, Int.reduceEq, Int.reduceNeg, reduceCtorEq, resV, resAll, ARes.ev, LV.flat, ite_true, ite_false, exists_eq_left', exists_eq_left, keyOf, implies_true, fillC, capOf]
          rw [show decide (SumsOK R D) = true from decide_eq_true ⟨by omega, by omega, hb, hc⟩]
          exact cmp_drop0 rfl
    · rw [decide_eq_false h2]
      simp (disch := omega) only [↓SXd, SXu, slBounds, ↓sop, ↓aop, ↓reduceIte, LV.cells, AOp.dst, LV.I, LV.B, LV.U, LV.S, LV.nil, Nat.reduceEqDiff, Nat.reduceAdd, Nat.reduceMul, Nat.reduceSub, Nat.reduceLeDiff, Nat.reduceBEq, Nat.reduceDiv, Nat.reduceMod, Int.reduceToNat, Int.reduceLT, Int.reduceLE, Int.reduceAdd, Int.reduceSub, Int.reduceMul, Int.reduceEq, Int.reduceNeg, reduceCtorEq, resV, resAll, ARes.ev, LV.flat, ite_true, ite_false, exists_eq_left', exists_eq_left, keyOf, implies_true, fillC, capOf]
      rw [show decide (SumsOK R D) = false from decide_eq_false fun h => h2 (by have := h.2.1; omega)]
      exact cmp_drop0 rfl
  · rw [decide_eq_false h1]
    simp (disch := omega) only [↓SXd, SXu, slBounds, ↓sop, ↓aop, ↓reduceIte, LV.cells, AOp.dst, LV.I, LV.B, LV.U, LV.S, LV.nil, Nat.reduceEqDiff, Nat.reduceAdd, Nat.reduceMul, Nat.reduceSub, Nat.reduceLeDiff, Nat.reduceBEq, Nat.reduceDiv, Nat.reduceMod, Int.reduceToNat, Int.reduceLT, Int.reduceLE, Int.reduceAdd, Int.reduceSub, Int.reduceMul, Int.reduceEq, Int.reduceNeg, reduceCtorEq, resV, resAll, ARes.ev, LV.flat, ite_true, ite_false, exists_eq_left', exists_eq_left, keyOf, implies_true, fillC, capOf]
    rw [show decide (SumsOK R D) = false from decide_eq_false fun h => h1 (by have := h.1; omega)]
    exact cmp_drop0 rfl
end
end Go.Ab

/- Contracts: how many tables there are, and whether there is one; both sides. -/
namespace Go.Ab
open Go
set_option linter.unusedSimpArgs false
set_option linter.unusedVariables false
set_option maxRecDepth 20000

theorem sums_fill {R D : List Int} (h : SumsOK R D) : fillK D.length R 0 0 D = (tabsL R D).map List.flatten := fill_tabs rfl (fun b hb => (h.2.2.2 b hb).1) fun r hr => (h.2.2.1 r hr).1
theorem sums_count {R D : List Int} (h : SumsOK R D) : (tabsL R D).length ≤ 65536 := by
  have h1 := tabsL_count (n := D.length) (rs := R) (cols := D) rfl
  have h2 : 2 ^ D.length ≤ 2 ^ 4 := Nat.pow_le_pow_right (by omega) (by have := h.2.1; omega)
  have h3 : (2 ^ D.length) ^ R.length ≤ (2 ^ 4) ^ R.length := Nat.pow_le_pow_left h2 _
  have h4 : (2 ^ 4) ^ R.length ≤ (2 ^ 4) ^ 4 := Nat.pow_le_pow_right (by omega) (by have := h.1; omega)
  omega
noncomputable def tabsO (R D : List Int) : List (List (List Int)) := if SumsOK R D then tabsL R D else []
theorem g_visitC {T : List Int} {c k : Nat} {N : Mem} (hc : Live N c (.row [.I k] true 0)) (hk : k ≤ 1000000000) :
    CallsR PG F.impl_countTables_1 [.W (setT T), .ptr c 0] N fun r N' => r = .B true ∧ N.length ≤ N'.length ∧ (∀ q, q < N.length → q ∉ [c] → N'[q]? = N[q]?) ∧ Live N' c (.row [.I (k + 1 : Nat)] true 0) := by
  refine callsR_run K.impl_countTables_1 rfl ?_
  simp (disch := omega) only [C.impl_countTables_1, hc.cell, ↓SXd, SXu, slBounds, ↓sop, ↓aop, ↓reduceIte, LV.cells, AOp.dst, LV.I, LV.B, LV.U, LV.S, LV.nil, Nat.reduceEqDiff, Nat.reduceAdd, Nat.reduceMul, Nat.reduceSub, Nat.reduceLeDiff, Nat.reduceBEq, Nat.reduceDiv, Nat.reduceMod, Int.reduceToNat, Int.reduceLT, Int.reduceLE, Int.reduceAdd, Int.reduceSub, Int.reduceMul, Int.reduceEq, Int.reduceNeg, reduceCtorEq, resV, resAll, ARes.ev, LV.flat, ite_true, ite_false, exists_eq_left', exists_eq_left, keyOf, implies_true, fillC, capOf]
  refine memK_one hc (by simp) fun N3 j1 j2 j3 => ?_
  simp (disch := omega) only [↓SXd, SXu, slBounds, ↓sop, ↓aop, ↓reduceIte, LV.cells, AOp.dst, LV.I, LV.B, LV.U, LV.S, LV.nil, Nat.reduceEqDiff, Nat.reduceAdd, Nat.reduceMul, Nat.reduceSub, Nat.reduceLeDiff, Nat.reduceBEq, Nat.reduceDiv, Nat.reduceMod, Int.reduceToNat, Int.reduceLT, Int.reduceLE, Int.reduceAdd, Int.reduceSub, Int.reduceMul, Int.reduceEq, Int.reduceNeg, reduceCtorEq, resV, resAll, ARes.ev, LV.flat, ite_true, ite_false, exists_eq_left', exists_eq_left, keyOf, implies_true, fillC, capOf]
  exact ⟨rfl, by omega, fun q h1 h2 => j3 q (by simpa using h2) h1, j2⟩
section
variable {R D : List Int} {tr tc : Nat} {M : Mem} (hR : Live M tr (.row (intL R) true 1)) (hC : Live M tc (.row (intL D) true 1))
include hR hC
theorem g_countTables (h : SumsOK R D) : CallsR PG F.impl_countTables [.ref tr 0 R.length, .ref tc 0 D.length] M fun v N => v = .I ((tabsL R D).length : Nat) ∧ Pre M N := by
  have hcnt := sums_count h
  have hfl := sums_fill h
  refine callsR_run K.impl_countTables rfl ?_
  simp (disch := omega) only [C.impl_countTables, ↓SXd, SXu, slBounds, ↓sop, ↓aop, ↓reduceIte, LV.cells, AOp.dst, LV.I, LV.B, LV.U, LV.S, LV.nil, Nat.reduceEqDiff, Nat.reduceAdd, Nat.reduceMul, Nat.reduceSub, Nat.reduceLeDiff, Nat.reduceBEq, Nat.reduceDiv, Nat.reduceMod, Int.reduceToNat, Int.reduceLT, Int.reduceLE, Int.reduceAdd, Int.reduceSub, Int.reduceMul, Int.reduceEq, Int.reduceNeg, reduceCtorEq, resV, resAll, ARes.ev, LV.flat, ite_true, ite_false, exists_eq_left', exists_eq_left, keyOf, implies_true, fillC, capOf]
  have htb := g_tables (n := D.length) (R := R) (cols := D) (once := false) (B := M) (M := M ++ [some (.row [.I 0] true 0)]) (tr := tr) (tc := tc) (cc := [M.length]) (fv := F.impl_countTables_1) (cps := [(M.length, 0)])
    (Inv := fun w P N => Live N M.length (.row [.I (P.length : Nat)] true 0) ∧ w ≠ M.length)
    h.2.1 h.1.2 (fun r hr => by have := h.2.2.1 r hr; have := h.2.1; omega) hR.has hC.has rfl (fun r hr => by have := h.2.2.2 r hr; have := h.1; omega) (Pre.app _ _) (fun c hc => by
      simp at hc
      simp; omega) (by rw [hfl, List.length_map]; omega)
    (fun w hw N hp => ⟨Live.new.pre hp, by simp at hw; omega⟩)
    (fun {w P N N'} h k1 k2 => ⟨Live.at h.1 (k2 _ h.1.lt (fun e => h.2 e.symm)), h.2⟩)
    (fun {w P T N} hz h hT hb => (g_visitC h.1 (by omega)).mono fun r N' hr => ⟨hr.1, hr.2.1, hr.2.2.1, by rw [List.length_append]; exact hr.2.2.2, h.2⟩)
  refine callR_of htb ?_
  rintro _ N ⟨k1, k2, w, l1, _⟩
  have e1 : (selP false (fillK D.length R 0 0 D)).length = (tabsL R D).length := by
    rw [hfl]; unfold selP; simp
  rw [e1] at l1
  simp (disch := omega) only [l1.cell, ↓SXd, SXu, slBounds, ↓sop, ↓aop, ↓reduceIte, LV.cells, AOp.dst, LV.I, LV.B, LV.U, LV.S, LV.nil, Nat.reduceEqDiff, Nat.reduceAdd, Nat.reduceMul, Nat.reduceSub, Nat.reduceLeDiff, Nat.reduceBEq, Nat.reduceDiv, Nat.reduceMod, Int.reduceToNat, Int.reduceLT, Int.reduceLE, Int.reduceAdd, Int.reduceSub, Int.reduceMul, Int.reduceEq, Int.reduceNeg, reduceCtorEq, resV, resAll, ARes.ev, LV.flat, ite_true, ite_false, exists_eq_left', exists_eq_left, keyOf, implies_true, fillC, capOf]
  simp only [List.length_append, List.length_cons, List.length_nil] at k1 k2
  exact ⟨rfl, by omega, fun q hq => by rw [k2 q (by omega) (by simp; omega), List.getElem?_append_left hq]⟩
theorem g_firstT (h : SumsOK R D) : CallsR PG F.impl_firstTable [.ref tr 0 R.length, .ref tc 0 D.length] M fun v N => v = .tup [.W (setT ((tabsL R D).getD 0 []).flatten), .B (decide (tabsL R D ≠ []))] ∧ Pre M N := by
  have hft := g_firstTable (n := D.length) (R := R) (cols := D) (M := M) h.2.1 h.1.2 (fun r hr => by have := h.2.2.1 r hr; have := h.2.1; omega) hR.has hC.has rfl (fun r hr => by have := h.2.2.2 r hr; have := h.1; omega) (by rw [sums_fill h, List.length_map]; have := sums_count h; omega)
  rw [sums_fill h] at hft
  refine hft.mono fun v N hv => ⟨?_, hv.2⟩
  rw [hv.1]
  cases tabsL R D with
  | nil => rfl
  | cons T Ts => rfl
theorem g_CountTables (hRn : R.length ≤ 1000) (hCn : D.length ≤ 1000) : CallsR PG F.impl_CountTables [.ref tr 0 R.length, .ref tc 0 D.length] M fun v N => v = .tup [.I ((tabsO R D).length : Nat), .B (decide (SumsOK R D))] ∧ Pre M N := by
  refine callsR_run K.impl_CountTables rfl ?_
  simp (disch := omega) only [C.impl_CountTables, ↓SXd, SXu, slBounds, ↓sop, ↓aop, ↓reduceIte, LV.cells, AOp.dst, LV.I, LV.B, LV.U, LV.S, LV.nil, Nat.reduceEqDiff, Nat.reduceAdd, Nat.reduceMul, Nat.reduceSub, Nat.reduceLeDiff, Nat.reduceBEq, Nat.reduceDiv, Nat.reduceMod, Int.reduceToNat, Int.reduceLT, Int.reduceLE, Int.reduceAdd, Int.reduceSub, Int.reduceMul, Int.reduceEq, Int.reduceNeg, reduceCtorEq, resV, resAll, ARes.ev, LV.flat, ite_true, ite_false, exists_eq_left', exists_eq_left, keyOf, implies_true, fillC, capOf]
  refine callK_of (g_areSums hR hC hRn hCn) ?_
  simp (disch := omega) only [↓SXd, SXu, slBounds, ↓sop, ↓aop, ↓reduceIte, LV.cells, AOp.dst, LV.I, LV.B, LV.U, LV.S, LV.nil, Nat.reduceEqDiff, Nat.reduceAdd, Nat.reduceMul, Nat.reduceSub, Nat.reduceLeDiff, Nat.reduceBEq, Nat.reduceDiv, Nat.reduceMod, Int.reduceToNat, Int.reduceLT, Int.reduceLE, Int.reduceAdd, Int.reduceSub, Int.reduceMul, Int.reduceEq, Int.reduceNeg, reduceCtorEq, resV, resAll, ARes.ev, LV.flat, ite_true, ite_false, exists_eq_left', exists_eq_left, keyOf, implies_true, fillC, capOf]
  unfold tabsO
  by_cases h : SumsOK R D
  · rw [if_pos h, decide_eq_true h]
    simp (disch := omega) only [↓SXd, SXu, slBounds, ↓sop, ↓aop, ↓reduceIte, LV.cells, AOp.dst, LV.I, LV.B, LV.U, LV.S, LV.nil, Nat.reduceEqDiff, Nat.reduceAdd, Nat.reduceMul, Nat.reduceSub, Nat.reduceLeDiff, Nat.reduceBEq, Nat.reduceDiv, Nat.reduceMod, Int.reduceToNat, Int.reduceLT, Int.reduceLE, Int.reduceAdd, Int.reduceSub, Int.reduceMul, Int.reduceEq, Int.reduceNeg, reduceCtorEq, resV, resAll, ARes.ev, LV.flat, ite_true, ite_false, exists_eq_left', exists_eq_left, keyOf, implies_true, fillC, capOf]
    refine callR_of (g_countTables hR hC h) ?_
    rintro _ N ⟨rfl, hp⟩
    simp (disch := omega) only [↓SXd, SXu, slBounds, ↓sop, ↓aop, ↓reduceIte, LV.cells, AOp.dst, LV.I, LV.B, LV.U, LV.S, LV.nil, Nat.reduceEqDiff, Nat.reduceAdd, Nat.reduceMul, Nat.reduceSub, Nat.reduceLeDiff, Nat.reduceBEq, Nat.reduceDiv, Nat.reduceMod, Int.reduceToNat, Int.reduceLT, Int.reduceLE, Int.reduceAdd, Int.reduceSub, Int.reduceMul, Int.reduceEq, Int.reduceNeg, reduceCtorEq, resV, resAll, ARes.ev, LV.flat, ite_true, ite_false, exists_eq_left', exists_eq_left, keyOf, implies_true, fillC, capOf]
    exact ⟨rfl, hp⟩
  · rw [if_neg h, decide_eq_false h]
    simp (disch := omega) only [↓SXd, SXu, slBounds, ↓sop, ↓aop, ↓reduceIte, LV.cells, AOp.dst, LV.I, LV.B, LV.U, LV.S, LV.nil, Nat.reduceEqDiff, Nat.reduceAdd, Nat.reduceMul, Nat.reduceSub, Nat.reduceLeDiff, Nat.reduceBEq, Nat.reduceDiv, Nat.reduceMod, Int.reduceToNat, Int.reduceLT, Int.reduceLE, Int.reduceAdd, Int.reduceSub, Int.reduceMul, Int.reduceEq, Int.reduceNeg, reduceCtorEq, resV, resAll, ARes.ev, LV.flat, ite_true, ite_false, exists_eq_left', exists_eq_left, keyOf, implies_true, fillC, capOf]
    exact ⟨rfl, Pre.refl _⟩
theorem g_CanTable (hRn : R.length ≤ 1000) (hCn : D.length ≤ 1000) : CallsR PG F.impl_CanTable [.ref tr 0 R.length, .ref tc 0 D.length] M fun v N => v = .tup [.B (decide (tabsO R D ≠ [])), .B (decide (SumsOK R D))] ∧ Pre M N := by
  refine callsR_run K.impl_CanTable rfl ?_
  simp (disch := omega) only [C.impl_CanTable, ↓SXd, SXu, slBounds, ↓sop, ↓aop, ↓reduceIte, LV.cells, AOp.dst, LV.I, LV.B, LV.U, LV.S, LV.nil, Nat.reduceEqDiff, Nat.reduceAdd, Nat.reduceMul, Nat.reduceSub, Nat.reduceLeDiff, Nat.reduceBEq, Nat.reduceDiv, Nat.reduceMod, Int.reduceToNat, Int.reduceLT, Int.reduceLE, Int.reduceAdd, Int.reduceSub, Int.reduceMul, Int.reduceEq, Int.reduceNeg, reduceCtorEq, resV, resAll, ARes.ev, LV.flat, ite_true, ite_false, exists_eq_left', exists_eq_left, keyOf, implies_true, fillC, capOf]
  refine callK_of (g_areSums hR hC hRn hCn) ?_
  simp (disch := omega) only [↓SXd, SXu, slBounds, ↓sop, ↓aop, ↓reduceIte, LV.cells, AOp.dst, LV.I, LV.B, LV.U, LV.S, LV.nil, Nat.reduceEqDiff, Nat.reduceAdd, Nat.reduceMul, Nat.reduceSub, Nat.reduceLeDiff, Nat.reduceBEq, Nat.reduceDiv, Nat.reduceMod, Int.reduceToNat, Int.reduceLT, Int.reduceLE, Int.reduceAdd, Int.reduceSub, Int.reduceMul, Int.reduceEq, Int.reduceNeg, reduceCtorEq, resV, resAll, ARes.ev, LV.flat, ite_true, ite_false, exists_eq_left', exists_eq_left, keyOf, implies_true, fillC, capOf]
  unfold tabsO
  by_cases h : SumsOK R D
  · rw [if_pos h, decide_eq_true h]
    simp (disch := omega) only [↓SXd, SXu, slBounds, ↓sop, ↓aop, ↓reduceIte, LV.cells, AOp.dst, LV.I, LV.B, LV.U, LV.S, LV.nil, Nat.reduceEqDiff, Nat.reduceAdd, Nat.reduceMul, Nat.reduceSub, Nat.reduceLeDiff, Nat.reduceBEq, Nat.reduceDiv, Nat.reduceMod, Int.reduceToNat, Int.reduceLT, Int.reduceLE, Int.reduceAdd, Int.reduceSub, Int.reduceMul, Int.reduceEq, Int.reduceNeg, reduceCtorEq, resV, resAll, ARes.ev, LV.flat, ite_true, ite_false, exists_eq_left', exists_eq_left, keyOf, implies_true, fillC, capOf]
    refine callR_of (g_firstT hR hC h) ?_
    rintro _ N ⟨rfl, hp⟩
    simp (disch := omega) only [↓SXd, SXu, slBounds, ↓sop, ↓aop, ↓reduceIte, LV.cells, AOp.dst, LV.I, LV.B, LV.U, LV.S, LV.nil, Nat.reduceEqDiff, Nat.reduceAdd, Nat.reduceMul, Nat.reduceSub, Nat.reduceLeDiff, Nat.reduceBEq, Nat.reduceDiv, Nat.reduceMod, Int.reduceToNat, Int.reduceLT, Int.reduceLE, Int.reduceAdd, Int.reduceSub, Int.reduceMul, Int.reduceEq, Int.reduceNeg, reduceCtorEq, resV, resAll, ARes.ev, LV.flat, ite_true, ite_false, exists_eq_left', exists_eq_left, keyOf, implies_true, fillC, capOf]
    exact ⟨rfl, hp⟩
  · rw [if_neg h, decide_eq_false h]
    simp (disch := omega) only [↓SXd, SXu, slBounds, ↓sop, ↓aop, ↓reduceIte, LV.cells, AOp.dst, LV.I, LV.B, LV.U, LV.S, LV.nil, Nat.reduceEqDiff, Nat.reduceAdd, Nat.reduceMul, Nat.reduceSub, Nat.reduceLeDiff, Nat.reduceBEq, Nat.reduceDiv, Nat.reduceMod, Int.reduceToNat, Int.reduceLT, Int.reduceLE, Int.reduceAdd, Int.reduceSub, Int.reduceMul, Int.reduceEq, Int.reduceNeg, reduceCtorEq, resV, resAll, ARes.ev, LV.flat, ite_true, ite_false, exists_eq_left', exists_eq_left, keyOf, implies_true, fillC, capOf]
    exact ⟨rfl, Pre.refl _⟩
theorem h_tabs (h : SumsOK R D) : CallsR PG F.spec_l4Tables [.ref tr 0 R.length, .ref tc 0 D.length] M fun v N => ∃ u, v = .ref u 0 (tabsL R D).length ∧ Pre M N ∧ M.length ≤ u ∧ ∀ av : List Nat, (∀ a ∈ av, a < M.length) → Tab3 N u (tabsL R D) av :=
  h_l4Tables R (R0 := R) (o := 0) h.1.2 h.2.1.2 (fun r hr => by have := h.2.2.2 r hr; have := h.1; omega) (fun r hr => by have := h.2.2.1 r hr; have := h.2.1; omega) hR rfl hC.has
theorem h_sCountTables (hRn : R.length ≤ 1000) (hCn : D.length ≤ 1000) : CallsR PG F.spec_CountTables [.ref tr 0 R.length, .ref tc 0 D.length] M fun v N => v = .tup [.I ((tabsO R D).length : Nat), .B (decide (SumsOK R D))] ∧ Pre M N := by
  refine callsR_run K.spec_CountTables rfl ?_
  simp (disch := omega) only [C.spec_CountTables, ↓SXd, SXu, slBounds, ↓sop, ↓aop, ↓reduceIte, LV.cells, AOp.dst, LV.I, LV.B, LV.U, LV.S, LV.nil, Nat.reduceEqDiff, Nat.reduceAdd, Nat.reduceMul, Nat.reduceSub, Nat.reduceLeDiff, Nat.reduceBEq, Nat.reduceDiv, Nat.reduceMod, Int.reduceToNat, Int.reduceLT, Int.reduceLE, Int.reduceAdd, Int.reduceSub, Int.reduceMul, Int.reduceEq, Int.reduceNeg, reduceCtorEq, resV, resAll, ARes.ev, LV.flat, ite_true, ite_false, exists_eq_left', exists_eq_left, keyOf, implies_true, fillC, capOf]
  refine callK_of (h_l4Lists hR hC hRn hCn) ?_
  simp (disch := omega) only [↓SXd, SXu, slBounds, ↓sop, ↓aop, ↓reduceIte, LV.cells, AOp.dst, LV.I, LV.B, LV.U, LV.S, LV.nil, Nat.reduceEqDiff, Nat.reduceAdd, Nat.reduceMul, Nat.reduceSub, Nat.reduceLeDiff, Nat.reduceBEq, Nat.reduceDiv, Nat.reduceMod, Int.reduceToNat, Int.reduceLT, Int.reduceLE, Int.reduceAdd, Int.reduceSub, Int.reduceMul, Int.reduceEq, Int.reduceNeg, reduceCtorEq, resV, resAll, ARes.ev, LV.flat, ite_true, ite_false, exists_eq_left', exists_eq_left, keyOf, implies_true, fillC, capOf]
  unfold tabsO
  by_cases h : SumsOK R D
  · rw [if_pos h, decide_eq_true h]
    simp (disch := omega) only [↓SXd, SXu, slBounds, ↓sop, ↓aop, ↓reduceIte, LV.cells, AOp.dst, LV.I, LV.B, LV.U, LV.S, LV.nil, Nat.reduceEqDiff, Nat.reduceAdd, Nat.reduceMul, Nat.reduceSub, Nat.reduceLeDiff, Nat.reduceBEq, Nat.reduceDiv, Nat.reduceMod, Int.reduceToNat, Int.reduceLT, Int.reduceLE, Int.reduceAdd, Int.reduceSub, Int.reduceMul, Int.reduceEq, Int.reduceNeg, reduceCtorEq, resV, resAll, ARes.ev, LV.flat, ite_true, ite_false, exists_eq_left', exists_eq_left, keyOf, implies_true, fillC, capOf]
    refine callR_of (h_tabs hR hC h) ?_
    rintro _ N ⟨u, rfl, hp, _⟩
    simp (disch := omega) only [↓SXd, SXu, slBounds, ↓sop, ↓aop, ↓reduceIte, LV.cells, AOp.dst, LV.I, LV.B, LV.U, LV.S, LV.nil, Nat.reduceEqDiff, Nat.reduceAdd, Nat.reduceMul, Nat.reduceSub, Nat.reduceLeDiff, Nat.reduceBEq, Nat.reduceDiv, Nat.reduceMod, Int.reduceToNat, Int.reduceLT, Int.reduceLE, Int.reduceAdd, Int.reduceSub, Int.reduceMul, Int.reduceEq, Int.reduceNeg, reduceCtorEq, resV, resAll, ARes.ev, LV.flat, ite_true, ite_false, exists_eq_left', exists_eq_left, keyOf, implies_true, fillC, capOf]
    exact ⟨rfl, hp⟩
  · rw [if_neg h, decide_eq_false h]
    simp (disch := omega) only [↓SXd, SXu, slBounds, ↓sop, ↓aop, ↓reduceIte, LV.cells, AOp.dst, LV.I, LV.B, LV.U, LV.S, LV.nil, Nat.reduceEqDiff, Nat.reduceAdd, Nat.reduceMul, Nat.reduceSub, Nat.reduceLeDiff, Nat.reduceBEq, Nat.reduceDiv, Nat.reduceMod, Int.reduceToNat, Int.reduceLT, Int.reduceLE, Int.reduceAdd, Int.reduceSub, Int.reduceMul, Int.reduceEq, Int.reduceNeg, reduceCtorEq, resV, resAll, ARes.ev, LV.flat, ite_true, ite_false, exists_eq_left', exists_eq_left, keyOf, implies_true, fillC, capOf]
    exact ⟨rfl, Pre.refl _⟩
theorem h_sCanTable (hRn : R.length ≤ 1000) (hCn : D.length ≤ 1000) : CallsR PG F.spec_CanTable [.ref tr 0 R.length, .ref tc 0 D.length] M fun v N => v = .tup [.B (decide (tabsO R D ≠ [])), .B (decide (SumsOK R D))] ∧ Pre M N := by
  refine callsR_run K.spec_CanTable rfl ?_
  simp (disch := omega) only [C.spec_CanTable, ↓SXd, SXu, slBounds, ↓sop, ↓aop, ↓reduceIte, LV.cells, AOp.dst, LV.I, LV.B, LV.U, LV.S, LV.nil, Nat.reduceEqDiff, Nat.reduceAdd, Nat.reduceMul, Nat.reduceSub, Nat.reduceLeDiff, Nat.reduceBEq, Nat.reduceDiv, Nat.reduceMod, Int.reduceToNat, Int.reduceLT, Int.reduceLE, Int.reduceAdd, Int.reduceSub, Int.reduceMul, Int.reduceEq, Int.reduceNeg, reduceCtorEq, resV, resAll, ARes.ev, LV.flat, ite_true, ite_false, exists_eq_left', exists_eq_left, keyOf, implies_true, fillC, capOf]
  refine callK_of (h_l4Lists hR hC hRn hCn) ?_
  simp (disch := omega) only [↓SXd, SXu, slBounds, ↓sop, ↓aop, ↓reduceIte, LV.cells, AOp.dst, LV.I, LV.B, LV.U, LV.S, LV.nil, Nat.reduceEqDiff, Nat.reduceAdd, Nat.reduceMul, Nat.reduceSub, Nat.reduceLeDiff, Nat.reduceBEq, Nat.reduceDiv, Nat.reduceMod, Int.reduceToNat, Int.reduceLT, Int.reduceLE, Int.reduceAdd, Int.reduceSub, Int.reduceMul, Int.reduceEq, Int.reduceNeg, reduceCtorEq, resV, resAll, ARes.ev, LV.flat, ite_true, ite_false, exists_eq_left', exists_eq_left, keyOf, implies_true, fillC, capOf]
  unfold tabsO
  by_cases h : SumsOK R D
  · rw [if_pos h, decide_eq_true h]
    simp (disch := omega) only [↓SXd, SXu, slBounds, ↓sop, ↓aop, ↓reduceIte, LV.cells, AOp.dst, LV.I, LV.B, LV.U, LV.S, LV.nil, Nat.reduceEqDiff, Nat.reduceAdd, Nat.reduceMul, Nat.reduceSub, Nat.reduceLeDiff, Nat.reduceBEq, Nat.reduceDiv, Nat.reduceMod, Int.reduceToNat, Int.reduceLT, Int.reduceLE, Int.reduceAdd, Int.reduceSub, Int.reduceMul, Int.reduceEq, Int.reduceNeg, reduceCtorEq, resV, resAll, ARes.ev, LV.flat, ite_true, ite_false, exists_eq_left', exists_eq_left, keyOf, implies_true, fillC, capOf]
    refine callR_of (h_tabs hR hC h) ?_
    rintro _ N ⟨u, rfl, hp, _⟩
    have e : decide ((0 : Int) < ((tabsL R D).length : Nat)) = decide (tabsL R D ≠ []) := by
      cases tabsL R D with
      | nil => rfl
      | cons T Ts => simp
    simp (disch := omega) only [↓SXd, SXu, slBounds, ↓sop, ↓aop, ↓reduceIte, LV.cells, AOp.dst, LV.I, LV.B, LV.U, LV.S, LV.nil, Nat.reduceEqDiff, Nat.reduceAdd, Nat.reduceMul, Nat.reduceSub, Nat.reduceLeDiff, Nat.reduceBEq, Nat.reduceDiv, Nat.reduceMod, Int.reduceToNat, Int.reduceLT, Int.reduceLE, Int.reduceAdd, Int.reduceSub, Int.reduceMul, Int.reduceEq, Int.reduceNeg, reduceCtorEq, resV, resAll, ARes.ev, LV.flat, ite_true, ite_false, exists_eq_left', exists_eq_left, keyOf, implies_true, fillC, capOf]
    rw [e]
    exact ⟨rfl, hp⟩
  · rw [if_neg h, decide_eq_false h]
    simp (disch := omega) only [↓SXd, SXu, slBounds, ↓sop, ↓aop, ↓reduceIte, LV.cells, AOp.dst, LV.I, LV.B, LV.U, LV.S, LV.nil, Nat.reduceEqDiff, Nat.reduceAdd, Nat.reduceMul, Nat.reduceSub, Nat.reduceLeDiff, Nat.reduceBEq, Nat.reduceDiv, Nat.reduceMod, Int.reduceToNat, Int.reduceLT, Int.reduceLE, Int.reduceAdd, Int.reduceSub, Int.reduceMul, Int.reduceEq, Int.reduceNeg, reduceCtorEq, resV, resAll, ARes.ev, LV.flat, ite_true, ite_false, exists_eq_left', exists_eq_left, keyOf, implies_true, fillC, capOf]
    exact ⟨rfl, Pre.refl _⟩
end
end Go.Ab

/- The abstract code of some functions (written by a program of mine from the translation, by way of prepF). -/
namespace Go.Ab.C
open Go.Ab
end Go.Ab.C

/- That the program has this code. -/
namespace Go.Ab.K
open Go Go.Ab
end Go.Ab.K

/- The abstract code of some functions (written by a program of mine from the translation, by way of prepF). -/
namespace Go.Ab.C
open Go.Ab
end Go.Ab.C

/- That the program has this code. -/
namespace Go.Ab.K
open Go Go.Ab
end Go.Ab.K

/- The abstract code of some functions (written by a program of mine from the translation, by way of prepF). -/
namespace Go.Ab.C
open Go.Ab
end Go.Ab.C

/- That the program has this code. -/
namespace Go.Ab.K
open Go Go.Ab
end Go.Ab.K

/- The heap whose layers are the first tables: plain, and the reference's. -/
namespace Go.Ab
open Go
set_option linter.unusedSimpArgs false
set_option linter.unusedVariables false
set_option maxRecDepth 20000

section
variable (x y z : Int) (d : Nat) (cs : List Cell)
/-- A layer's table, and the first one with its sums. -/
def layT (k : Int) : List (List Int) := lyrT x y z d k cs (sideOf x y z (dirA d)).toNat
def layN : Nat := (sideOf x y z (dirB d)).toNat
def tabsOf (k : Int) : List (List (List Int)) := tabsL ((layT x y z d cs k).map litSum) (colsE (layN x y z d) (layT x y z d cs k))
def firstF (k : Int) : List (List Int) := (tabsOf x y z d cs k).getD 0 []
def alikeB (c : Cell) : Bool := decide (((firstF x y z d cs (c.at d)).getD (c.at (dirA d)).toNat []).getD (c.at (dirB d)).toNat 0 = 1)
end
def TwoOK (x y z : Int) (cs : List Cell) (a b : Int) : Prop := HeapOK x y z cs ∧ (0 ≤ a ∧ a ≤ 2) ∧ (0 ≤ b ∧ b ≤ 2) ∧ ¬ a = b
noncomputable instance (x y z : Int) (cs : List Cell) (a b : Int) : Decidable (TwoOK x y z cs a b) := Classical.propDecidable _
noncomputable def alikeCs (x y z : Int) (cs : List Cell) (a b : Int) : List Cell := pick x y z (alikeB x y z (3 - a - b).toNat cs)
section
variable {x y z : Int} {d : Nat} {cs : List Cell}
theorem layT_01 {k : Int} : Tab01 (layN x y z d) (layT x y z d cs k) := by
  intro row hr
  obtain ⟨i, hi, rfl⟩ := List.mem_map.1 hr
  refine ⟨lyrR_len, fun a ha => ?_⟩
  obtain ⟨j, hj, rfl⟩ := List.mem_map.1 ha
  unfold lyrV; split <;> simp
theorem layT_len {k : Int} : (layT x y z d cs k).length = (sideOf x y z (dirA d)).toNat := lyrT_len
theorem lyr_box (hS : Sides x y z) (hd : d < 3) {c : Cell} (hc : c.inBox x y z) : (0 ≤ c.at d ∧ c.at d < sideOf x y z (d : Nat)) ∧ (0 ≤ c.at (dirA d) ∧ c.at (dirA d) < sideOf x y z (dirA d)) ∧ 0 ≤ c.at (dirB d) ∧ c.at (dirB d) < sideOf x y z (dirB d) := by
  obtain ⟨⟨_, _⟩, ⟨_, _⟩, ⟨_, _⟩⟩ := id hc
  rcases (show d = 0 ∨ d = 1 ∨ d = 2 by omega) with rfl | rfl | rfl <;> simp [dirA, dirB, Cell.at, sideOf] <;> omega
/-- The cells ahead of a place in the order layer, row, column. -/
def Ahead (d : Nat) (k i j : Int) (c : Cell) : Prop := c.at d < k ∨ c.at d = k ∧ (c.at (dirA d) < i ∨ c.at (dirA d) = i ∧ c.at (dirB d) < j)
end
end Go.Ab

/- Contracts: layers of the program. -/
namespace Go.Ab
open Go
set_option linter.unusedSimpArgs false
set_option linter.unusedVariables false
set_option maxRecDepth 20000

section
variable {x y z : Int} {d : Nat} {cs : List Cell} {k : Int} {c : Cell}
def rowsV (x y z : Int) (d : Nat) (cs : List Cell) (k : Int) : List Int := (layT x y z d cs k).map litSum
def colsV (x y z : Int) (d : Nat) (cs : List Cell) (k : Int) : List Int := colsE (layN x y z d) (layT x y z d cs k)
end
theorem sideB_row {e x y z : Int} (he : Dir e) : [LV.I x, LV.I y, LV.I z][e.toNat]? = some (.I (sideOf x y z e)) := by
  rcases he with rfl | rfl | rfl <;> rfl
theorem rep_ints (n : Nat) : (List.replicate n [LV.val (Value.int IntKind.i64 0)]).flatten = intL (List.replicate n 0) := by
  unfold intL
  rw [List.map_replicate]
  induction n with
  | zero => rfl
  | succ n ih => rw [List.replicate_succ, List.flatten_cons, ih, List.replicate_succ]; rfl
section
variable {x y z : Int} {t : Nat} {cs : List Cell} {M : Mem} (h : Tri M t 0 cs)
include h
end
end Go.Ab

/- The abstract code of some functions (written by a program of mine from the translation, by way of prepF). -/
namespace Go.Ab.C
open Go.Ab
end Go.Ab.C

/- That the program has this code. -/
namespace Go.Ab.K
open Go Go.Ab
end Go.Ab.K

/- The abstract code of some functions (written by a program of mine from the translation, by way of prepF). -/
namespace Go.Ab.C
open Go.Ab
end Go.Ab.C

/- That the program has this code. -/
namespace Go.Ab.K
open Go Go.Ab
end Go.Ab.K

/- Plain words: sinking. -/
namespace Go.Ab

def up (c : Cell) : Cell := ⟨c.a, c.b, c.c + 1⟩
def down (c : Cell) : Cell := ⟨c.a, c.b, c.c - 1⟩
noncomputable def hang (x y z : Int) (p : Cell → Bool) : Cell → Bool := fun c => p c && !stand x y z p c
noncomputable def sinkNext (x y z : Int) (p : Cell → Bool) : Cell → Bool := fun d => stand x y z p d || (decide ((up d).inBox x y z) && hang x y z p (up d))
/-- The first k cubes that hang have sunk. -/
noncomputable def sinkK (x y z : Int) (p : Cell → Bool) (k : Nat) : Cell → Bool := fun d => stand x y z p d || ((pick x y z (hang x y z p)).take k).any fun e => decide (d = down e)
noncomputable def sink (x y z : Int) : Nat → (Cell → Bool) → (Cell → Bool) × Nat
  | 0, p => (p, 0)
  | f + 1, p => if Firm x y z p then (p, 0) else ((sink x y z f (sinkNext x y z p)).1, (sink x y z f (sinkNext x y z p)).2 + 1)

def sumC (l : List Cell) : Nat := (l.map fun c => c.c.toNat).sum
section
variable {x y z : Int} (hS : Sides x y z)
include hS
end
end Go.Ab

/- Contracts: sinking, both sides. -/
namespace Go.Ab
open Go
set_option linter.unusedSimpArgs false
set_option linter.unusedVariables false

/-- What SinkHeap answers. -/
noncomputable def sinkOf (x y z : Int) (cs : List Cell) : Option Hp := by
  classical
  exact if HeapOK x y z cs then some ⟨x, y, z, pick x y z (sink x y z 1000 fun c => decide (c ∈ cs)).1⟩ else none
noncomputable def sinkTimes (x y z : Int) (cs : List Cell) : Int := by
  classical
  exact if HeapOK x y z cs then ((sink x y z 1000 fun c => decide (c ∈ cs)).2 : Nat) else 0
end Go.Ab

/- The heap whose layers are the first tables: the reference's contract. -/
namespace Go.Ab
open Go
set_option linter.unusedSimpArgs false
set_option linter.unusedVariables false
set_option maxRecDepth 20000

noncomputable def alikeOf (x y z : Int) (cs : List Cell) (a b : Int) : Option Hp := if TwoOK x y z cs a b then some ⟨x, y, z, alikeCs x y z cs a b⟩ else none
end Go.Ab

/- The abstract code of some functions (written by a program of mine from the translation, by way of prepF). -/
namespace Go.Ab.C
open Go.Ab
end Go.Ab.C

/- That the program has this code. -/
namespace Go.Ab.K
open Go Go.Ab
end Go.Ab.K

/- The abstract code of some functions (written by a program of mine from the translation, by way of prepF). -/
namespace Go.Ab.C
open Go.Ab
end Go.Ab.C

/- That the program has this code. -/
namespace Go.Ab.K
open Go Go.Ab
end Go.Ab.K

/- Contracts: the reference's joined, common and swapped heaps. -/
namespace Go.Ab
open Go
set_option linter.unusedSimpArgs false
set_option linter.unusedVariables false
set_option maxRecDepth 20000

section
variable {x y z x' y' z' : Int} {t t' : Nat} {w w' : Bool} {cs ds : List Cell} {M : Mem} (h : Live M t (.row (triL cs) w 3)) (hn : cs.length ≤ 1000000000) (h' : Live M t' (.row (triL ds) w' 3)) (hn' : ds.length ≤ 1000000000)
include h hn h' hn'
end
section
variable {x y z a b : Int} {t : Nat} {w : Bool} {cs : List Cell} {M : Mem} (h : Live M t (.row (triL cs) w 3))
include h
end
end Go.Ab

/- Contracts: the program's mirrored, other, joined, common, swapped, shifted, cropped and widened heaps. -/
namespace Go.Ab
open Go
set_option linter.unusedSimpArgs false
set_option linter.unusedVariables false
set_option maxRecDepth 20000

theorem g_isDirectionB {d : Int} {M : Mem} : CallsTo PG F.impl_isDirection [.I d] M (.B (decide (0 ≤ d ∧ d ≤ 2))) M := by
  refine calls_run K.impl_isDirection rfl ?_
  simp (disch := omega) only [C.impl_isDirection, ↓SXd, SXu, slBounds, ↓sop, ↓aop, ↓reduceIte, LV.cells, AOp.dst, LV.I, LV.B, LV.U, LV.S, LV.nil, Nat.reduceEqDiff, Nat.reduceAdd, Nat.reduceMul, Nat.reduceSub, Nat.reduceLeDiff, Nat.reduceBEq, Nat.reduceDiv, Nat.reduceMod, Int.reduceToNat, Int.reduceLT, Int.reduceLE, Int.reduceAdd, Int.reduceSub, Int.reduceMul, Int.reduceEq, Int.reduceNeg, reduceCtorEq, resV, resAll, ARes.ev, LV.flat, ite_true, ite_false, exists_eq_left', exists_eq_left, keyOf, implies_true, fillC, capOf]
  refine callK_of (g_within) ?_
  simp (disch := omega) only [↓SXd, SXu, slBounds, ↓sop, ↓aop, ↓reduceIte, LV.cells, AOp.dst, LV.I, LV.B, LV.U, LV.S, LV.nil, Nat.reduceEqDiff, Nat.reduceAdd, Nat.reduceMul, Nat.reduceSub, Nat.reduceLeDiff, Nat.reduceBEq, Nat.reduceDiv, Nat.reduceMod, Int.reduceToNat, Int.reduceLT, Int.reduceLE, Int.reduceAdd, Int.reduceSub, Int.reduceMul, Int.reduceEq, Int.reduceNeg, reduceCtorEq, resV, resAll, ARes.ev, LV.flat, ite_true, ite_false, exists_eq_left', exists_eq_left, keyOf, implies_true, fillC, capOf]
  exact cmp_drop0 rfl
section
variable {x y z : Int} {t : Nat} {w : Bool} {cs : List Cell} {M : Mem} (h : Live M t (.row (triL cs) w 3)) (hn : cs.length ≤ 1000000000)
include h hn
end
section
variable {x y z x' y' z' : Int} {t t' : Nat} {w w' : Bool} {cs ds : List Cell} {M : Mem} (h : Live M t (.row (triL cs) w 3)) (hn : cs.length ≤ 1000000000) (h' : Live M t' (.row (triL ds) w' 3)) (hn' : ds.length ≤ 1000000000)
include h hn h' hn'
end
end Go.Ab

/- The heap whose layers are the first tables: the program's contract. -/
namespace Go.Ab
open Go
set_option linter.unusedSimpArgs false
set_option linter.unusedVariables false
set_option maxRecDepth 20000

theorem flat_at {n : Nat} : ∀ {L : List (List Int)} {i j : Nat}, (∀ row ∈ L, row.length = n) → i < L.length → j < n → L.flatten.getD (i * n + j) 0 = (L.getD i []).getD j 0
  | [], i, j, _, hi, _ => by simp at hi
  | row :: L, 0, j, h, _, hj => by
    have := h row (by simp)
    rw [List.flatten_cons, Nat.zero_mul, Nat.zero_add]
    simp only [List.getD_eq_getElem?_getD]
    rw [List.getElem?_append_left (by omega)]
    rfl
  | row :: L, i + 1, j, h, hi, hj => by
    have h1 := h row (by simp)
    have ih := flat_at (L := L) (i := i) (j := j) (fun q hq => h q (List.mem_cons_of_mem _ hq)) (by simpa using hi) hj
    rw [List.flatten_cons]
    simp only [List.getD_eq_getElem?_getD] at ih ⊢
    rw [List.getElem?_append_right (by rw [h1, Nat.add_mul]; omega), h1, show (i + 1) * n + j - n = i * n + j by rw [Nat.add_mul]; omega, ih]
    rfl
theorem flat_len {n : Nat} : ∀ {L : List (List Int)}, (∀ row ∈ L, row.length = n) → L.flatten.length = L.length * n
  | [], _ => by simp
  | row :: L, h => by
    rw [List.flatten_cons, List.length_append, h row (by simp), flat_len fun q hq => h q (List.mem_cons_of_mem _ hq), List.length_cons, Nat.add_mul]
    omega
section
variable {x y z : Int} {d : Nat} {cs : List Cell} {k : Int}
end
end Go.Ab

/- Contracts: the first table, both sides. -/
namespace Go.Ab
open Go
set_option linter.unusedSimpArgs false
set_option linter.unusedVariables false
set_option maxRecDepth 20000

theorem bit_oneW {s : BitVec 64} {e : Nat} : ((s >>> e &&& 1#64).toNat) = if s.getLsbD e then 1 else 0 := by
  have : s >>> e &&& 1#64 = if s.getLsbD e then 1#64 else 0#64 := by
    apply BitVec.eq_of_getLsbD_eq
    intro i hi
    rw [BitVec.getLsbD_and, BitVec.getLsbD_ushiftRight]
    by_cases h0 : i = 0
    · subst h0
      cases h : s.getLsbD e <;> simp [h]
    · have h1 : (1#64).getLsbD i = false := by simp [h0]
      rw [h1, Bool.and_false]
      split
      · exact h1.symm
      · simp
  rw [this]
  split <;> rfl
section
variable {R D : List Int} {tr tc : Nat} {M : Mem} (hR : Live M tr (.row (intL R) true 1)) (hC : Live M tc (.row (intL D) true 1)) (hRn : R.length ≤ 1000) (hCn : D.length ≤ 1000)
include hR hC hRn hCn
theorem h_sFirstTable : CallsR PG F.spec_FirstTable [.ref tr 0 R.length, .ref tc 0 D.length] M (TabG M ((tabsO R D).getD 0 []) (decide (tabsO R D ≠ []))) := by
  refine callsR_run K.spec_FirstTable rfl ?_
  simp (disch := omega) only [C.spec_FirstTable, ↓SXd, SXu, slBounds, ↓sop, ↓aop, ↓reduceIte, LV.cells, AOp.dst, LV.I, LV.B, LV.U, LV.S, LV.nil, Nat.reduceEqDiff, Nat.reduceAdd, Nat.reduceMul, Nat.reduceSub, Nat.reduceLeDiff, Nat.reduceBEq, Nat.reduceDiv, Nat.reduceMod, Int.reduceToNat, Int.reduceLT, Int.reduceLE, Int.reduceAdd, Int.reduceSub, Int.reduceMul, Int.reduceEq, Int.reduceNeg, reduceCtorEq, resV, resAll, ARes.ev, LV.flat, ite_true, ite_false, exists_eq_left', exists_eq_left, keyOf, implies_true, fillC, capOf]
  refine callK_of (h_l4Lists hR hC hRn hCn) ?_
  simp (disch := omega) only [↓SXd, SXu, slBounds, ↓sop, ↓aop, ↓reduceIte, LV.cells, AOp.dst, LV.I, LV.B, LV.U, LV.S, LV.nil, Nat.reduceEqDiff, Nat.reduceAdd, Nat.reduceMul, Nat.reduceSub, Nat.reduceLeDiff, Nat.reduceBEq, Nat.reduceDiv, Nat.reduceMod, Int.reduceToNat, Int.reduceLT, Int.reduceLE, Int.reduceAdd, Int.reduceSub, Int.reduceMul, Int.reduceEq, Int.reduceNeg, reduceCtorEq, resV, resAll, ARes.ev, LV.flat, ite_true, ite_false, exists_eq_left', exists_eq_left, keyOf, implies_true, fillC, capOf]
  unfold tabsO
  by_cases h : SumsOK R D
  · rw [if_pos h, decide_eq_true h]
    simp (disch := omega) only [↓SXd, SXu, slBounds, ↓sop, ↓aop, ↓reduceIte, LV.cells, AOp.dst, LV.I, LV.B, LV.U, LV.S, LV.nil, Nat.reduceEqDiff, Nat.reduceAdd, Nat.reduceMul, Nat.reduceSub, Nat.reduceLeDiff, Nat.reduceBEq, Nat.reduceDiv, Nat.reduceMod, Int.reduceToNat, Int.reduceLT, Int.reduceLE, Int.reduceAdd, Int.reduceSub, Int.reduceMul, Int.reduceEq, Int.reduceNeg, reduceCtorEq, resV, resAll, ARes.ev, LV.flat, ite_true, ite_false, exists_eq_left', exists_eq_left, keyOf, implies_true, fillC, capOf]
    refine callR_of (h_tabs hR hC h) ?_
    rintro _ N ⟨u, rfl, hp, hu, hT⟩
    have hT := hT [] (by simp)
    have hmem := fun T hT => tabsL_mem (n := D.length) (rs := R) (cols := D) (T := T) rfl hT
    generalize tabsL R D = L at hT hmem
    cases L with
    | nil =>
      simp (disch := omega) only [↓SXd, SXu, slBounds, ↓sop, ↓aop, ↓reduceIte, LV.cells, AOp.dst, LV.I, LV.B, LV.U, LV.S, LV.nil, Nat.reduceEqDiff, Nat.reduceAdd, Nat.reduceMul, Nat.reduceSub, Nat.reduceLeDiff, Nat.reduceBEq, Nat.reduceDiv, Nat.reduceMod, Int.reduceToNat, Int.reduceLT, Int.reduceLE, Int.reduceAdd, Int.reduceSub, Int.reduceMul, Int.reduceEq, Int.reduceNeg, reduceCtorEq, resV, resAll, ARes.ev, LV.flat, ite_true, ite_false, exists_eq_left', exists_eq_left, keyOf, implies_true, fillC, capOf]
      exact ⟨_, rfl, .inr ⟨N.length, [], rfl, Live.new, rfl, fun i hi => by simp at hi⟩, hp.app'⟩
    | cons T Ts =>
      obtain ⟨tt, hgt, hTt⟩ := hT.at (i := 0) (by simp)
      change getCell N u 0 = some (.ref tt 0 T.length) at hgt
      change TabR N tt T _ at hTt
      have hTm := hmem T (by simp)
      have hne : ¬ (((T :: Ts).length : Nat) : Int) = 0 := by rw [List.length_cons]; omega
      have h0l : (0 : Int) < ((T :: Ts).length : Nat) := by rw [List.length_cons]; omega
      have hul := hT.lt
      simp (disch := omega) only [hne, ↓SXd, SXu, slBounds, ↓sop, ↓aop, ↓reduceIte, LV.cells, AOp.dst, LV.I, LV.B, LV.U, LV.S, LV.nil, Nat.reduceEqDiff, Nat.reduceAdd, Nat.reduceMul, Nat.reduceSub, Nat.reduceLeDiff, Nat.reduceBEq, Nat.reduceDiv, Nat.reduceMod, Int.reduceToNat, Int.reduceLT, Int.reduceLE, Int.reduceAdd, Int.reduceSub, Int.reduceMul, Int.reduceEq, Int.reduceNeg, reduceCtorEq, resV, resAll, ARes.ev, LV.flat, ite_true, ite_false, exists_eq_left', exists_eq_left, keyOf, implies_true, fillC, capOf]
      show EvC _ _ _ _ _
      refine ev_loop (fun m fr M' => ∃ (i ut : Nat), i + m = T.length ∧ Pre N M' ∧ TabO M' ut (T.take i) M'.length N.length ∧ N.length ≤ ut ∧ fr 6 = .ref u 0 (T :: Ts).length ∧ fr 7 = .ref ut 0 (T.take i).length ∧ fr 8 = .I i) T.length
        ⟨0, N.length, by omega, Pre.app _ _, TabO.nil Live.new (Nat.le_refl _), Nat.le_refl _, rfl, rfl, rfl⟩ ?_
      rintro m fr M' ⟨i, ut, hi, hpre, hO, hut, f6, f7, f8⟩
      have hg' : getCell M' u 0 = some (.ref tt 0 T.length) := by
        unfold getCell getRow at hgt ⊢
        rw [hpre.2 u hul]; exact hgt
      simp (disch := omega) only [f6, f7, f8, h0l, hg', ↓SXd, SXu, slBounds, ↓sop, ↓aop, ↓reduceIte, LV.cells, AOp.dst, LV.I, LV.B, LV.U, LV.S, LV.nil, Nat.reduceEqDiff, Nat.reduceAdd, Nat.reduceMul, Nat.reduceSub, Nat.reduceLeDiff, Nat.reduceBEq, Nat.reduceDiv, Nat.reduceMod, Int.reduceToNat, Int.reduceLT, Int.reduceLE, Int.reduceAdd, Int.reduceSub, Int.reduceMul, Int.reduceEq, Int.reduceNeg, reduceCtorEq, resV, resAll, ARes.ev, LV.flat, ite_true, ite_false, exists_eq_left', exists_eq_left, keyOf, implies_true, fillC, capOf]
      refine condC_dec (fun hlt => ?_) (fun hlt => ?_)
      · have hil : i < T.length := by omega
        obtain ⟨w, hgw, hIw⟩ := (hTt.pre hpre).at hil
        have hts := take_snocL [] hil
        have hrow := hTm.2 _ (getD_mem' (d := []) hil)
        have hpl := hpre.1
        generalize T.getD i [] = row at hgw hIw hts hrow
        have hil' : (i : Int) < (T.length : Nat) := by omega
        simp (disch := omega) only [f6, f7, f8, h0l, hg', hgw, hil', Nat.mul_one, Nat.zero_add, ↓SXd, SXu, slBounds, ↓sop, ↓aop, ↓reduceIte, LV.cells, AOp.dst, LV.I, LV.B, LV.U, LV.S, LV.nil, Nat.reduceEqDiff, Nat.reduceAdd, Nat.reduceMul, Nat.reduceSub, Nat.reduceLeDiff, Nat.reduceBEq, Nat.reduceDiv, Nat.reduceMod, Int.reduceToNat, Int.reduceLT, Int.reduceLE, Int.reduceAdd, Int.reduceSub, Int.reduceMul, Int.reduceEq, Int.reduceNeg, reduceCtorEq, resV, resAll, ARes.ev, LV.flat, ite_true, ite_false, exists_eq_left', exists_eq_left, keyOf, implies_true, fillC, capOf]
        refine callK_of (h_l1Own hIw (by omega)) ?_
        have hpn : Pre M' (M' ++ [some (.row (intL row) true 1)]) := Pre.app _ _
        have hLn : Live (M' ++ [some (.row (intL row) true 1)]) M'.length (.row (intL row) true 1) := Live.new
        generalize M' ++ [some (.row (intL row) true 1)] = N1 at hpn hLn ⊢
        simp (disch := omega) only [f6, f7, f8, ↓SXd, SXu, slBounds, ↓sop, ↓aop, ↓reduceIte, LV.cells, AOp.dst, LV.I, LV.B, LV.U, LV.S, LV.nil, Nat.reduceEqDiff, Nat.reduceAdd, Nat.reduceMul, Nat.reduceSub, Nat.reduceLeDiff, Nat.reduceBEq, Nat.reduceDiv, Nat.reduceMod, Int.reduceToNat, Int.reduceLT, Int.reduceLE, Int.reduceAdd, Int.reduceSub, Int.reduceMul, Int.reduceEq, Int.reduceNeg, reduceCtorEq, resV, resAll, ARes.ev, LV.flat, ite_true, ite_false, exists_eq_left', exists_eq_left, keyOf, implies_true, fillC, capOf]
        refine appendK_tab (M0 := N) (N0 := M') (N := N1) hO hpn hLn (Nat.le_refl _) (by rw [List.length_take]; omega) (hpre.trans hpn) hut fun u' M2 k1 k2 k3 k4 k5 => ?_
        have hpnl := hpn.1
        rw [← hts] at k1 ⊢
        simp (disch := omega) only [f6, f7, f8, ↓SXd, SXu, slBounds, ↓sop, ↓aop, ↓reduceIte, LV.cells, AOp.dst, LV.I, LV.B, LV.U, LV.S, LV.nil, Nat.reduceEqDiff, Nat.reduceAdd, Nat.reduceMul, Nat.reduceSub, Nat.reduceLeDiff, Nat.reduceBEq, Nat.reduceDiv, Nat.reduceMod, Int.reduceToNat, Int.reduceLT, Int.reduceLE, Int.reduceAdd, Int.reduceSub, Int.reduceMul, Int.reduceEq, Int.reduceNeg, reduceCtorEq, resV, resAll, ARes.ev, LV.flat, ite_true, ite_false, exists_eq_left', exists_eq_left, keyOf, implies_true, fillC, capOf]
        exact ⟨m - 1, by omega, i + 1, u', by omega, k2, k1, by omega, f6, rfl, eqI (natI _)⟩
      · have : i = T.length := by omega
        subst this
        rw [List.take_length] at hO f7
        simp (disch := omega) only [f6, f7, f8, ↓SXd, SXu, slBounds, ↓sop, ↓aop, ↓reduceIte, LV.cells, AOp.dst, LV.I, LV.B, LV.U, LV.S, LV.nil, Nat.reduceEqDiff, Nat.reduceAdd, Nat.reduceMul, Nat.reduceSub, Nat.reduceLeDiff, Nat.reduceBEq, Nat.reduceDiv, Nat.reduceMod, Int.reduceToNat, Int.reduceLT, Int.reduceLE, Int.reduceAdd, Int.reduceSub, Int.reduceMul, Int.reduceEq, Int.reduceNeg, reduceCtorEq, resV, resAll, ARes.ev, LV.flat, ite_true, ite_false, exists_eq_left', exists_eq_left, keyOf, implies_true, fillC, capOf]
        exact ⟨_, rfl, hO.v, hp.trans hpre⟩
  · rw [if_neg h, decide_eq_false h]
    simp (disch := omega) only [↓SXd, SXu, slBounds, ↓sop, ↓aop, ↓reduceIte, LV.cells, AOp.dst, LV.I, LV.B, LV.U, LV.S, LV.nil, Nat.reduceEqDiff, Nat.reduceAdd, Nat.reduceMul, Nat.reduceSub, Nat.reduceLeDiff, Nat.reduceBEq, Nat.reduceDiv, Nat.reduceMod, Int.reduceToNat, Int.reduceLT, Int.reduceLE, Int.reduceAdd, Int.reduceSub, Int.reduceMul, Int.reduceEq, Int.reduceNeg, reduceCtorEq, resV, resAll, ARes.ev, LV.flat, ite_true, ite_false, exists_eq_left', exists_eq_left, keyOf, implies_true, fillC, capOf]
    exact ⟨_, rfl, .inr ⟨M.length, [], rfl, Live.new, rfl, fun i hi => by simp at hi⟩, Pre.app _ _⟩
theorem g_FirstTable : CallsR PG F.impl_FirstTable [.ref tr 0 R.length, .ref tc 0 D.length] M (TabG M ((tabsO R D).getD 0 []) (decide (tabsO R D ≠ []))) := by
  refine callsR_run K.impl_FirstTable rfl ?_
  simp (disch := omega) only [C.impl_FirstTable, ↓SXd, SXu, slBounds, ↓sop, ↓aop, ↓reduceIte, LV.cells, AOp.dst, LV.I, LV.B, LV.U, LV.S, LV.nil, Nat.reduceEqDiff, Nat.reduceAdd, Nat.reduceMul, Nat.reduceSub, Nat.reduceLeDiff, Nat.reduceBEq, Nat.reduceDiv, Nat.reduceMod, Int.reduceToNat, Int.reduceLT, Int.reduceLE, Int.reduceAdd, Int.reduceSub, Int.reduceMul, Int.reduceEq, Int.reduceNeg, reduceCtorEq, resV, resAll, ARes.ev, LV.flat, ite_true, ite_false, exists_eq_left', exists_eq_left, keyOf, implies_true, fillC, capOf]
  refine callK_of (g_areSums hR hC hRn hCn) ?_
  simp (disch := omega) only [↓SXd, SXu, slBounds, ↓sop, ↓aop, ↓reduceIte, LV.cells, AOp.dst, LV.I, LV.B, LV.U, LV.S, LV.nil, Nat.reduceEqDiff, Nat.reduceAdd, Nat.reduceMul, Nat.reduceSub, Nat.reduceLeDiff, Nat.reduceBEq, Nat.reduceDiv, Nat.reduceMod, Int.reduceToNat, Int.reduceLT, Int.reduceLE, Int.reduceAdd, Int.reduceSub, Int.reduceMul, Int.reduceEq, Int.reduceNeg, reduceCtorEq, resV, resAll, ARes.ev, LV.flat, ite_true, ite_false, exists_eq_left', exists_eq_left, keyOf, implies_true, fillC, capOf]
  unfold tabsO
  by_cases h : SumsOK R D
  · rw [if_pos h, decide_eq_true h]
    simp (disch := omega) only [↓SXd, SXu, slBounds, ↓sop, ↓aop, ↓reduceIte, LV.cells, AOp.dst, LV.I, LV.B, LV.U, LV.S, LV.nil, Nat.reduceEqDiff, Nat.reduceAdd, Nat.reduceMul, Nat.reduceSub, Nat.reduceLeDiff, Nat.reduceBEq, Nat.reduceDiv, Nat.reduceMod, Int.reduceToNat, Int.reduceLT, Int.reduceLE, Int.reduceAdd, Int.reduceSub, Int.reduceMul, Int.reduceEq, Int.reduceNeg, reduceCtorEq, resV, resAll, ARes.ev, LV.flat, ite_true, ite_false, exists_eq_left', exists_eq_left, keyOf, implies_true, fillC, capOf]
    refine callR_of (g_firstT hR hC h) ?_
    rintro _ N ⟨rfl, hp⟩
    have hmem := fun T hT => tabsL_mem (n := D.length) (rs := R) (cols := D) (T := T) rfl hT
    generalize tabsL R D = L at hmem
    cases L with
    | nil =>
      change putK _ _ _ (.tup [.W (setT []), .B false]) _
      simp (disch := omega) only [↓SXd, SXu, slBounds, ↓sop, ↓aop, ↓reduceIte, LV.cells, AOp.dst, LV.I, LV.B, LV.U, LV.S, LV.nil, Nat.reduceEqDiff, Nat.reduceAdd, Nat.reduceMul, Nat.reduceSub, Nat.reduceLeDiff, Nat.reduceBEq, Nat.reduceDiv, Nat.reduceMod, Int.reduceToNat, Int.reduceLT, Int.reduceLE, Int.reduceAdd, Int.reduceSub, Int.reduceMul, Int.reduceEq, Int.reduceNeg, reduceCtorEq, resV, resAll, ARes.ev, LV.flat, ite_true, ite_false, exists_eq_left', exists_eq_left, keyOf, implies_true, fillC, capOf]
      exact ⟨_, rfl, .inl ⟨rfl, rfl⟩, hp⟩
    | cons T Ts =>
      have hTm := hmem T (by simp)
      change putK _ _ _ (.tup [.W (setT T.flatten), .B true]) _
      have hRT : R.length = T.length := hTm.1.symm
      have hd4 := h.2.1
      have hr4 := h.1
      simp (disch := omega) only [↓SXd, SXu, slBounds, ↓sop, ↓aop, ↓reduceIte, LV.cells, AOp.dst, LV.I, LV.B, LV.U, LV.S, LV.nil, Nat.reduceEqDiff, Nat.reduceAdd, Nat.reduceMul, Nat.reduceSub, Nat.reduceLeDiff, Nat.reduceBEq, Nat.reduceDiv, Nat.reduceMod, Int.reduceToNat, Int.reduceLT, Int.reduceLE, Int.reduceAdd, Int.reduceSub, Int.reduceMul, Int.reduceEq, Int.reduceNeg, reduceCtorEq, resV, resAll, ARes.ev, LV.flat, ite_true, ite_false, exists_eq_left', exists_eq_left, keyOf, implies_true, fillC, capOf]
      refine ev_loop (fun m fr M' => ∃ (i ut : Nat), i + m = T.length ∧ Pre N M' ∧ TabO M' ut (T.take i) M'.length N.length ∧ N.length ≤ ut ∧ fr 1 = .ref tc 0 D.length ∧ fr 6 = .W (setT T.flatten) ∧ fr 8 = .ref ut 0 (T.take i).length ∧ fr 26 = .I T.length ∧ fr 27 = .I i) T.length
        ⟨0, N.length, by omega, Pre.app _ _, TabO.nil Live.new (Nat.le_refl _), Nat.le_refl _, rfl, rfl, rfl, by rw [← hRT]; rfl, rfl⟩ ?_
      rintro m fr M' ⟨i, ut, hi, hpre, hO, hut, f1, f6, f8, f26, f27⟩
      simp (disch := omega) only [f1, f6, f8, f26, f27, ↓SXd, SXu, slBounds, ↓sop, ↓aop, ↓reduceIte, LV.cells, AOp.dst, LV.I, LV.B, LV.U, LV.S, LV.nil, Nat.reduceEqDiff, Nat.reduceAdd, Nat.reduceMul, Nat.reduceSub, Nat.reduceLeDiff, Nat.reduceBEq, Nat.reduceDiv, Nat.reduceMod, Int.reduceToNat, Int.reduceLT, Int.reduceLE, Int.reduceAdd, Int.reduceSub, Int.reduceMul, Int.reduceEq, Int.reduceNeg, reduceCtorEq, resV, resAll, ARes.ev, LV.flat, ite_true, ite_false, exists_eq_left', exists_eq_left, keyOf, implies_true, fillC, capOf]
      refine condC_dec (fun hlt => ?_) (fun hlt => ?_)
      rotate_left
      · have : i = T.length := by omega
        subst this
        rw [List.take_length] at hO f8
        simp (disch := omega) only [f1, f6, f8, f26, f27, ↓SXd, SXu, slBounds, ↓sop, ↓aop, ↓reduceIte, LV.cells, AOp.dst, LV.I, LV.B, LV.U, LV.S, LV.nil, Nat.reduceEqDiff, Nat.reduceAdd, Nat.reduceMul, Nat.reduceSub, Nat.reduceLeDiff, Nat.reduceBEq, Nat.reduceDiv, Nat.reduceMod, Int.reduceToNat, Int.reduceLT, Int.reduceLE, Int.reduceAdd, Int.reduceSub, Int.reduceMul, Int.reduceEq, Int.reduceNeg, reduceCtorEq, resV, resAll, ARes.ev, LV.flat, ite_true, ite_false, exists_eq_left', exists_eq_left, keyOf, implies_true, fillC, capOf]
        exact ⟨_, rfl, hO.v, hp.trans hpre⟩
      have hil : i < T.length := by omega
      have hts := take_snocL [] hil
      have hrow := hTm.2 _ (getD_mem' (d := []) hil)
      have hfa := fun j => flat_at (n := D.length) (L := T) (i := i) (j := j) (fun r hr => (hTm.2 r hr).1) hil
      have hfl := flat_len (n := D.length) (L := T) fun r hr => (hTm.2 r hr).1
      have hpl := hpre.1
      have hOl := hO
      generalize T.getD i [] = row at hts hrow hfa
      have hmulb : T.length * D.length ≤ 4 * 4 := Nat.mul_le_mul (by omega) (by omega)
      have hib : i * D.length ≤ 4 * 4 := Nat.mul_le_mul (by omega) (by omega)
      have hmul : ((i : Nat) : Int) * ((D.length : Nat) : Int) = ((i * D.length : Nat) : Int) := by rw [Int.natCast_mul]
      have hin : (i + 1) * D.length ≤ T.length * D.length := Nat.mul_le_mul_right _ (by omega)
      rw [Nat.add_mul] at hin
      simp (disch := omega) only [f1, f6, f8, f26, f27, ↓SXd, SXu, slBounds, ↓sop, ↓aop, ↓reduceIte, LV.cells, AOp.dst, LV.I, LV.B, LV.U, LV.S, LV.nil, Nat.reduceEqDiff, Nat.reduceAdd, Nat.reduceMul, Nat.reduceSub, Nat.reduceLeDiff, Nat.reduceBEq, Nat.reduceDiv, Nat.reduceMod, Int.reduceToNat, Int.reduceLT, Int.reduceLE, Int.reduceAdd, Int.reduceSub, Int.reduceMul, Int.reduceEq, Int.reduceNeg, reduceCtorEq, resV, resAll, ARes.ev, LV.flat, ite_true, ite_false, exists_eq_left', exists_eq_left, keyOf, implies_true, fillC, capOf]
      refine ev_loop (fun m2 fr M2 => ∃ (k ur : Nat), k + m2 = D.length ∧ Pre M' M2 ∧ Live M2 ur (.row (intL (row.take k)) true 1) ∧ M'.length ≤ ur ∧ fr 1 = .ref tc 0 D.length ∧ fr 6 = .W (setT T.flatten) ∧ fr 8 = .ref ut 0 (T.take i).length ∧ fr 9 = .I i ∧ fr 10 = .ref ur 0 (row.take k).length ∧ fr 26 = .I T.length ∧ fr 27 = .I i ∧ fr 32 = .I D.length ∧ fr 33 = .I k) D.length
        ⟨0, M'.length, by omega, Pre.app _ _, by rw [List.take_zero]; exact Live.new, Nat.le_refl _, f1, f6, f8, rfl, by rw [List.take_zero]; rfl, f26, f27, rfl, rfl⟩ ?_
      clear f1 f6 f8 f26 f27 hlt
      rintro m2 fr M2 ⟨k, ur, hk, hp2, bu, hur, f1, f6, f8, f9, f10, f26, f27, f32, f33⟩
      simp (disch := omega) only [f1, f6, f8, f9, f10, f26, f27, f32, f33, ↓SXd, SXu, slBounds, ↓sop, ↓aop, ↓reduceIte, LV.cells, AOp.dst, LV.I, LV.B, LV.U, LV.S, LV.nil, Nat.reduceEqDiff, Nat.reduceAdd, Nat.reduceMul, Nat.reduceSub, Nat.reduceLeDiff, Nat.reduceBEq, Nat.reduceDiv, Nat.reduceMod, Int.reduceToNat, Int.reduceLT, Int.reduceLE, Int.reduceAdd, Int.reduceSub, Int.reduceMul, Int.reduceEq, Int.reduceNeg, reduceCtorEq, resV, resAll, ARes.ev, LV.flat, ite_true, ite_false, exists_eq_left', exists_eq_left, keyOf, implies_true, fillC, capOf]
      refine condC_dec (fun hlt => ?_) (fun hlt => ?_)
      · have hkn : k < D.length := by omega
        have hkr : k < row.length := by omega
        have htk := take_snocL 0 hkr
        have hbit := setT_bit (T := T.flatten) (by omega) (i * D.length + k)
        rw [hfa k hkn, hfl, decide_eq_true (show i * D.length + k < T.length * D.length by omega), Bool.true_and] at hbit
        have hb := hrow.2 _ (getD_mem' (d := 0) hkr)
        have e2 : (setT T.flatten >>> (i * D.length + k) &&& 1#64).toNat = if row.getD k 0 = 1 then 1 else 0 := by
          rw [bit_oneW, hbit]
          by_cases h1 : row.getD k 0 = 1 <;> simp [h1]
        have e3 : (((setT T.flatten >>> (i * D.length + k) &&& 1#64).toNat : Nat) : Int) = row.getD k 0 := by
          rw [e2]
          rcases hb with h1 | h1
          · rw [if_neg (by omega), h1]; rfl
          · rw [if_pos h1, h1]; rfl
        have hadd : ((i * D.length : Nat) : Int) + ((k : Nat) : Int) = ((i * D.length + k : Nat) : Int) := by omega
        simp (disch := omega) only [f1, f6, f8, f9, f10, f26, f27, f32, f33, hmul, hadd, e3, ↓SXd, SXu, slBounds, ↓sop, ↓aop, ↓reduceIte, LV.cells, AOp.dst, LV.I, LV.B, LV.U, LV.S, LV.nil, Nat.reduceEqDiff, Nat.reduceAdd, Nat.reduceMul, Nat.reduceSub, Nat.reduceLeDiff, Nat.reduceBEq, Nat.reduceDiv, Nat.reduceMod, Int.reduceToNat, Int.reduceLT, Int.reduceLE, Int.reduceAdd, Int.reduceSub, Int.reduceMul, Int.reduceEq, Int.reduceNeg, reduceCtorEq, resV, resAll, ARes.ev, LV.flat, ite_true, ite_false, exists_eq_left', exists_eq_left, keyOf, implies_true, fillC, capOf]
        refine appendK_int bu (by rw [List.length_take]; omega) fun M3 l1 l2 l3 => ?_
        rw [← htk] at l2
        have hp2l := hp2.1
        simp (disch := omega) only [f1, f6, f8, f9, f10, f26, f27, f32, f33, ↓SXd, SXu, slBounds, ↓sop, ↓aop, ↓reduceIte, LV.cells, AOp.dst, LV.I, LV.B, LV.U, LV.S, LV.nil, Nat.reduceEqDiff, Nat.reduceAdd, Nat.reduceMul, Nat.reduceSub, Nat.reduceLeDiff, Nat.reduceBEq, Nat.reduceDiv, Nat.reduceMod, Int.reduceToNat, Int.reduceLT, Int.reduceLE, Int.reduceAdd, Int.reduceSub, Int.reduceMul, Int.reduceEq, Int.reduceNeg, reduceCtorEq, resV, resAll, ARes.ev, LV.flat, ite_true, ite_false, exists_eq_left', exists_eq_left, keyOf, implies_true, fillC, capOf]
        exact ⟨m2 - 1, by omega, k + 1, M2.length + 1, by omega, pre_step hp2 hur (j := 2) l1 l3, l2, by omega, f1, f6, f8, f9, by rw [htk, List.length_append]; rfl, f26, f27, f32, eqI (natI _)⟩
      · have : k = D.length := by omega
        subst this
        rw [List.take_of_length_le (by omega)] at bu f10
        simp (disch := omega) only [f1, f6, f8, f9, f10, f26, f27, f32, f33, ↓SXd, SXu, slBounds, ↓sop, ↓aop, ↓reduceIte, LV.cells, AOp.dst, LV.I, LV.B, LV.U, LV.S, LV.nil, Nat.reduceEqDiff, Nat.reduceAdd, Nat.reduceMul, Nat.reduceSub, Nat.reduceLeDiff, Nat.reduceBEq, Nat.reduceDiv, Nat.reduceMod, Int.reduceToNat, Int.reduceLT, Int.reduceLE, Int.reduceAdd, Int.reduceSub, Int.reduceMul, Int.reduceEq, Int.reduceNeg, reduceCtorEq, resV, resAll, ARes.ev, LV.flat, ite_true, ite_false, exists_eq_left', exists_eq_left, keyOf, implies_true, fillC, capOf]
        refine appendK_tab (M0 := N) (N0 := M') (N := M2) hO hp2 bu hur (by rw [List.length_take]; omega) (hpre.trans hp2) hut fun u' M3 k1 k2 k3 k4 k5 => ?_
        have hpnl := hp2.1
        rw [← hts] at k1 ⊢
        simp (disch := omega) only [f1, f6, f8, f9, f10, f26, f27, f32, f33, ↓SXd, SXu, slBounds, ↓sop, ↓aop, ↓reduceIte, LV.cells, AOp.dst, LV.I, LV.B, LV.U, LV.S, LV.nil, Nat.reduceEqDiff, Nat.reduceAdd, Nat.reduceMul, Nat.reduceSub, Nat.reduceLeDiff, Nat.reduceBEq, Nat.reduceDiv, Nat.reduceMod, Int.reduceToNat, Int.reduceLT, Int.reduceLE, Int.reduceAdd, Int.reduceSub, Int.reduceMul, Int.reduceEq, Int.reduceNeg, reduceCtorEq, resV, resAll, ARes.ev, LV.flat, ite_true, ite_false, exists_eq_left', exists_eq_left, keyOf, implies_true, fillC, capOf]
        exact ⟨m - 1, by omega, i + 1, u', by omega, k2, k1, by omega, f1, f6, rfl, f26, eqI (natI _)⟩
  · rw [if_neg h, decide_eq_false h]
    simp (disch := omega) only [↓SXd, SXu, slBounds, ↓sop, ↓aop, ↓reduceIte, LV.cells, AOp.dst, LV.I, LV.B, LV.U, LV.S, LV.nil, Nat.reduceEqDiff, Nat.reduceAdd, Nat.reduceMul, Nat.reduceSub, Nat.reduceLeDiff, Nat.reduceBEq, Nat.reduceDiv, Nat.reduceMod, Int.reduceToNat, Int.reduceLT, Int.reduceLE, Int.reduceAdd, Int.reduceSub, Int.reduceMul, Int.reduceEq, Int.reduceNeg, reduceCtorEq, resV, resAll, ARes.ev, LV.flat, ite_true, ite_false, exists_eq_left', exists_eq_left, keyOf, implies_true, fillC, capOf]
    exact ⟨_, rfl, .inl ⟨rfl, rfl⟩, Pre.refl _⟩
end
end Go.Ab
